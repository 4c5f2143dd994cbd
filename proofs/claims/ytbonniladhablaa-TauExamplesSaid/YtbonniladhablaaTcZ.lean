/- The table of the examples, timed. -/
import Derived.Test.YtbonniladhablaaRows
import Derived.WalkKit
import Derived.WalkLawsBesides
import Derived.WalkSpells
import Derived.ProofKit
import Derived.Below
import Derived.Outline
import Derived.Lib.Hide
import Derived.Deep.RegionWith
import Derived.Deep.RegionHeld3
import Derived.Deep.DrawnRows
import Derived.StillTailTactics
import Derived.BigQuiet
import Derived.Deep.QuietTactic
import Derived.Deep.LoopGhost
import Derived.IntWalk
import Derived.Test.YtbonniladhablaaTcY
namespace Go.Proofs.Ytbonniladhablaa
open Go.RowKit
attribute [local go_sem ↓] Go.wp_at_zero Go.wp_at_succ
attribute [local go_sem] wrap_lit

structure TaM (w' : World) (s : Nat) : Prop where
  f : w'.heap[s + 1]? = some (.cells #[.int .i64 10000] 3 (0, 0))
  a : w'.heap[s + 1 + 1]? = some (.cells #[.int .i64 20, .int .i64 10, .int .i64 800, .int .i64 20, .int .i64 40, .int .i64 30, .int .i64 1200, .int .i64 40] 27 (0, 0))
  b : w'.heap[s + 1 + 1 + 1]? = some (.cells #[.int .i64 10, .int .i64 5, .int .i64 400, .int .i64 10, .int .i64 25, .int .i64 15, .int .i64 600, .int .i64 25] 27 (0, 0))
  sz : w'.heap.size = s + 1 + 1 + 1 + 1
set_option maxRecDepth 100000 in
set_option maxHeartbeats 2000000 in
theorem table29 (w : World) : Calls Try.prog 29 #[] w fun e w' => ∃ s, w.heap.size ≤ s ∧ e = .returned (.agg #[.slice (some ⟨s + 1, 0, none⟩) 1 1, .slice (some ⟨s + 1 + 1, 0, none⟩) 2 2, .slice (some ⟨s + 1 + 1 + 1, 0, none⟩) 2 2, .int .i64 384, .int .i64 1200]) ∧ TaM w' s ∧ Below w.heap.size w w' := by
  go_enter Try.func29, Try.ntmps29
  go_wp2_with fail
  refine bodyPost_ret (v := .agg #[.slice (some ⟨w.heap.size + 1, 0, none⟩) 1 1, .slice (some ⟨w.heap.size + 1 + 1, 0, none⟩) 2 2, .slice (some ⟨w.heap.size + 1 + 1 + 1, 0, none⟩) 2 2, .int .i64 384, .int .i64 1200]) (by simp [results, Try.results29, go_sem]) rfl ⟨_, Nat.le_refl _, rfl, ?_, ?_⟩
  · exact ⟨(heap_alloc_past _ _ _ (by simp)).trans ((heap_alloc_past _ _ _ (by simp)).trans (heap_alloc_at _ _ _ (by simp))), (heap_alloc_past _ _ _ (by simp)).trans (heap_alloc_at _ _ _ (by simp)), heap_alloc_at _ _ _ (by simp), by simp⟩
  · exact ((((Below.refl _ _).alloc (Nat.le_refl _) _).alloc (by simp) _).alloc (by simp; omega) _).alloc (by simp; omega) _
abbrev fl0 : List Int := [10000]
abbrev xa0 : List Int := [20, 10, 800, 20, 40, 30, 1200, 40]
abbrev xb0 : List Int := [10, 5, 400, 10, 25, 15, 600, 25]
def rows0 : List (Int × Int × Int × Int × Int × Int × Int) := [(9999, 7680, -256, 2, 500, 0, 1), (10000, 7680, -256, 2, 500, 0, 3), (10000, 7680, -256, 2, -900, 0, 2), (9999, 5120, -256, 1, 700, 0, 2), (0, 98304, 0, 1, 1200, 0, 1), (0, 98305, 0, 1, 1200, 0, 0), (0, 0, 0, 1, -1201, 0, 0), (0, 0, 0, 1, -400, 0, 3)]
theorem rows0_ok : rows0.all (fun x => clV fl0 2 xa0 2 xb0 384 1200 x.1 x.2.1 x.2.2.1 x.2.2.2.1 x.2.2.2.2.1 x.2.2.2.2.2.1 == x.2.2.2.2.2.2 && clE fl0 2 xa0 2 xb0 384 1200 x.1 x.2.1 x.2.2.1 x.2.2.2.1 x.2.2.2.2.1 x.2.2.2.2.2.1 == 0) = true := by decide +kernel
theorem TaM.on {w w' : World} {s : Nat} (h : TaM w s) (hb : Below w.heap.size w w') : w'.heap[s + 1]? = some (.cells #[.int .i64 10000] 3 (0, 0)) ∧ w'.heap[s + 1 + 1]? = some (.cells #[.int .i64 20, .int .i64 10, .int .i64 800, .int .i64 20, .int .i64 40, .int .i64 30, .int .i64 1200, .int .i64 40] 27 (0, 0)) ∧ w'.heap[s + 1 + 1 + 1]? = some (.cells #[.int .i64 10, .int .i64 5, .int .i64 400, .int .i64 10, .int .i64 25, .int .i64 15, .int .i64 600, .int .i64 25] 27 (0, 0)) := by
  have := h.sz
  exact ⟨(hb.block _ (by omega)).trans h.f, (hb.block _ (by omega)).trans h.a, (hb.block _ (by omega)).trans h.b⟩
theorem TaM.is {w : World} {s : Nat} (h : TaM w s) : Is .i64 w w.heap.size (some ⟨s + 1, 0, none⟩) fl0 ∧ Is .i64 w w.heap.size (some ⟨s + 1 + 1, 0, none⟩) xa0 ∧ Is .i64 w w.heap.size (some ⟨s + 1 + 1 + 1, 0, none⟩) xb0 := by
  have := h.sz
  exact ⟨Is.lit (xs := fl0) h.f (by omega), Is.lit (xs := xa0) h.a (by omega), Is.lit (xs := xb0) h.b (by omega)⟩
/-- Classify over the table of the examples. -/
theorem exCl {w : World} {s : Nat} (T : TaM w s) (own R V N a r k e0 : Int) (h : clV fl0 2 xa0 2 xb0 384 1200 own R V N a r = k ∧ clE fl0 2 xa0 2 xb0 384 1200 own R V N a r = e0) :
    Calls Try.prog 23 #[.agg #[.slice (some ⟨s + 1, 0, none⟩) 1 1, .slice (some ⟨s + 1 + 1, 0, none⟩) 2 2, .slice (some ⟨s + 1 + 1 + 1, 0, none⟩) 2 2, .int .i64 384, .int .i64 1200], .int .i64 own, .agg #[.int .i64 R, .int .i64 V, .int .i64 N, .int .i64 a, .int .i64 r]] w fun e w' => e = .returned (.tuple #[.int .u8 k, .int .i64 e0]) ∧ Below w.heap.size w w' := by
  obtain ⟨h1, h2⟩ := h
  have K := classify23 (some ⟨s + 1, 0, none⟩) (some ⟨s + 1 + 1, 0, none⟩) (some ⟨s + 1 + 1 + 1, 0, none⟩) 1 2 2 2 2 fl0 xa0 xb0 384 1200 own R V N a r w.heap.size w (Nat.le_refl _) T.is.1 T.is.2.1 T.is.2.2 rfl rfl (by decide) (by decide) (by decide)
  rw [h1, h2] at K
  exact K
theorem exIx {w : World} {s : Nat} (T : TaM w s) (own k e0 : Int) (h : ixV fl0 2 xa0 2 xb0 384 1200 own = k ∧ ixE fl0 2 xa0 2 xb0 384 1200 own = e0) :
    Calls Try.prog 21 #[.agg #[.slice (some ⟨s + 1, 0, none⟩) 1 1, .slice (some ⟨s + 1 + 1, 0, none⟩) 2 2, .slice (some ⟨s + 1 + 1 + 1, 0, none⟩) 2 2, .int .i64 384, .int .i64 1200], .int .i64 own] w fun e w' => e = .returned (.tuple #[.int .i64 k, .int .i64 e0]) ∧ Below w.heap.size w w' := by
  obtain ⟨h1, h2⟩ := h
  have K := index21 (some ⟨s + 1, 0, none⟩) (some ⟨s + 1 + 1, 0, none⟩) (some ⟨s + 1 + 1 + 1, 0, none⟩) 1 2 2 2 2 fl0 xa0 xb0 384 1200 own w.heap.size w (Nat.le_refl _) T.is.1 T.is.2.1 T.is.2.2 rfl rfl (by decide) (by decide) (by decide)
  rw [h1, h2] at K
  exact K
/-- The three calls of a bad table. -/
theorem bad3 (F A B' : Option Addr) (cf na ca nb cb : Nat) (fl xa xb : List Int) (far tall e0 : Int) (hn0 : e0 ≠ 0) (hck : ckTb fl na xa nb xb far tall = e0) (w : World) (hF : Is .i64 w w.heap.size F fl) (hA : Is .i64 w w.heap.size A xa) (hB' : Is .i64 w w.heap.size B' xb) (hna : xa.length = na * 4) (hnb : xb.length = nb * 4) (hlf : fl.length ≤ 1000) (hla : na ≤ 1000) (hlb : nb ≤ 1000) :
    (Calls Try.prog 21 #[.agg #[.slice F fl.length cf, .slice A na ca, .slice B' nb cb, .int .i64 far, .int .i64 tall], .int .i64 60000] w fun e w' => e = .returned (.tuple #[.int .i64 0, .int .i64 e0]) ∧ Below w.heap.size w w') ∧
    (∀ w1, Below w.heap.size w w1 → Calls Try.prog 23 #[.agg #[.slice F fl.length cf, .slice A na ca, .slice B' nb cb, .int .i64 far, .int .i64 tall], .int .i64 0, .agg #[.int .i64 0, .int .i64 0, .int .i64 0, .int .i64 0, .int .i64 0]] w1 fun e w' => e = .returned (.tuple #[.int .u8 0, .int .i64 e0]) ∧ Below w1.heap.size w1 w') ∧
    (∀ w1, Below w.heap.size w w1 → Calls Try.prog 26 #[.agg #[.slice F fl.length cf, .slice A na ca, .slice B' nb cb, .int .i64 far, .int .i64 tall]] w1 fun e w' => e = .returned (.int .i64 e0) ∧ Below w1.heap.size w1 w') := by
  have hE : ∀ o, ixE fl na xa nb xb far tall o = e0 := fun o => by unfold ixE; rw [if_neg (by rw [hck]; exact hn0)]; exact hck
  have hV : ∀ o, ixV fl na xa nb xb far tall o = 0 := fun o => by unfold ixV; rw [if_neg (by rw [hE]; exact hn0)]
  have hc : ∀ o R V N a r, clE fl na xa nb xb far tall o R V N a r = e0 := fun o R V N a r => by unfold clE; rw [if_neg (by rw [hE]; exact hn0)]; exact hE o
  have hv : ∀ o R V N a r, clV fl na xa nb xb far tall o R V N a r = 0 := fun o R V N a r => by unfold clV; rw [if_neg (by rw [hc]; exact hn0)]
  refine ⟨?_, fun w1 hb => ?_, fun w1 hb => ?_⟩
  · have K := index21 F A B' cf na ca nb cb fl xa xb far tall 60000 w.heap.size w (Nat.le_refl _) hF hA hB' hna hnb hlf hla hlb
    rw [hE, hV] at K
    exact K
  · have K := classify23 F A B' cf na ca nb cb fl xa xb far tall 0 0 0 0 0 0 w1.heap.size w1 (Nat.le_refl _) ((hF.below hb).mono hb.size) ((hA.below hb).mono hb.size) ((hB'.below hb).mono hb.size) hna hnb hlf hla hlb
    rw [hc, hv] at K
    exact K
  · have K := check26 F A B' cf na ca nb cb fl xa xb far tall w1.heap.size w1 (Nat.le_refl _) ((hF.below hb).mono hb.size) ((hA.below hb).mono hb.size) ((hB'.below hb).mono hb.size) hna hnb hlf hla hlb
    rw [hck] at K
    exact K
theorem wpList_appG {P : Program} {ops : Array Oper} {rest : List Oper} {o : Oper} {a : Act} {Q : Exit → Act → World → Prop} {w : World} (hgd : o.guard = none) (s x : Operand) (t : TypeId)
    (ho : o.op = .call { callee := .builtin .append, args := #[s, x], argTypes := #[t, t] }) (k : IntKind)
    (base : Nat) (e : TypeId) (i : TypeInfo) (z : Value) (size bytes : Nat) (ht : P.underlying t = some (.slice e)) (hi : P.info? e = some i) (hz : i.zero = some z)
    (hsize : i.size = size) (hby : i.bytes = bytes) (hzs : z.cells.size = size) (hsz : 0 < size)
    (v : Value) (n : Nat) (ys news : List Int) (hs : a.eval s = v) (hown : Acc k w base e size v n ys)
    (ob : Obj) (hob : ob = .cells (news.map (Value.int k)).toArray e) (H : Nat) (hx : a.eval x = .slice (some ⟨H, 0, none⟩) 1 1) (hH : w.heap.size = H) (hl : news.length = size)
    (hn : n ≤ 1000000) (hb1 : bytes ≤ 1000) (hbase : base ≤ w.heap.size)
    (h : ∀ v' w', Acc k w' base e size v' (n + 1) (ys ++ news) → (w.alloc ob).grownBy w' v.ownBlock → Below base w w' → wpList P ops Q rest (a.put o.dst v') w') : wpList P ops Q (o :: rest) a (w.alloc ob) := by
  subst hH
  subst hob
  have hcells : ∀ (j : Nat) (u : Value), (news.map (Value.int k))[j]? = some u → (w.alloc (.cells (news.map (Value.int k)).toArray e)).cell? ((⟨w.heap.size, 0, none⟩ : Addr).add j) = some u := by
    intro j u hu
    have e1 : (⟨w.heap.size, 0, none⟩ : Addr).add j = ⟨w.heap.size, j, none⟩ := by
      unfold Addr.add
      by_cases h0 : j = 0
      · subst h0; rfl
      · simp [h0]
    rw [e1, World.cell?_alloc_at _ _ _ _ rfl]
    simpa using hu
  have hbytes : (n + 1) * bytes ≤ 1000001 * 1000 := Nat.mul_le_mul (by omega) hb1
  refine wpList_append_own _ hgd s x t ho base e i z size bytes ht hi hz hsize hby hzs hsz v n _ hs (World.ownsRow.alloc hown _) ⟨w.heap.size, 0, none⟩ 1 1 (news.map (Value.int k)) hx (by simp [hl]) hcells (fun u hu => ?_) (by unfold maxLen; omega) (by omega) (by simp; omega) ?_
  · obtain ⟨q, _, rfl⟩ := List.mem_map.1 hu; rfl
  · intro v' w' hown' hg _
    exact h v' w' (by unfold Acc; rw [List.map_append]; exact hown') hg (((Below.refl base w).alloc hbase _).grown hg (by simp; omega) fun g hg' => (World.ownsRow.lt hown g hg').1)
theorem Is.setOther {k : IntKind} {w : World} {B g off : Nat} {xs : List Int} (h : Is k w B (some ⟨g, off, none⟩) xs) {p : Addr} (hp : p.block ≠ g) (u : Value) : Is k (w.setCell p u) B (some ⟨g, off, none⟩) xs := fun hn => by
  obtain ⟨b, o, e, hb, hc⟩ := h hn
  injection e with e; injection e with e1 e2; subst e1; subst e2
  refine ⟨_, _, rfl, hb, fun j hj => ?_⟩
  rw [← hc j hj]
  simp [World.cell?, World.setCell, Array.getElem?_modify, hp]
/-- The rows of a slice of a type other than a block's do not lie in that block. -/
theorem Acc.other {k : IntKind} {w : World} {base : Nat} {e T : TypeId} {size n : Nat} {v : Value} {ys : List Int} (h : Acc k w base e size v n ys) (h0 : 0 < n) {g : Nat} {cs : Array Value} (hg : w.heap[g]? = some (.cells cs T (0, 0))) (hne : e ≠ T) :
    ∃ b cap, v = .slice (some ⟨b, 0, none⟩) n cap ∧ g ≠ b ∧ b < w.heap.size ∧ Is k w w.heap.size (some ⟨b, 0, none⟩) ys := by
  have ho := h.own
  obtain ⟨hl, ⟨-, h1⟩ | ⟨b, cap, cur, e1, hb, hh, hrest⟩⟩ := h
  · omega
  · obtain ⟨A, cap', e2, ho⟩ := ho
    rw [e1] at e2
    injection e2 with e2 _ _
    subst e2
    refine ⟨b, cap, e1, ?_, ?_, ho.is⟩
    · rintro rfl
      rw [hh] at hg
      injection hg with hg
      injection hg with _ hT _
      exact hne hT
    · rcases Nat.lt_or_ge b w.heap.size with g' | g'
      · exact g'
      · rw [Array.getElem?_eq_none g'] at hh; cases hh
theorem tm30 : tm 2097152 (-1) 1 8191 = (16383, 32, 0) := by decide +kernel
end Go.Proofs.Ytbonniladhablaa
