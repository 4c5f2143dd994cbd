/- squitter: Hear. -/
import Derived.Test.YtkikokldijccnaaGreatDoorRows
import Derived.WalkKit
import Derived.WalkLawsBesides
import Derived.WalkSpells
import Derived.ProofKit
import Derived.Below
import Derived.Outline
import Derived.Lib.Hide
import Derived.Deep.RegionWith
import Derived.Deep.RegionHeld3
import Derived.Deep.DrawnRows
import Derived.StillTailTactics
import Derived.BigQuiet
import Derived.Deep.QuietTactic
import Derived.Deep.LoopGhost
import Derived.IntWalk
import Derived.BigQuiet
import Derived.Deep.CutRange
import Derived.Deep.DeepCutAuto
import Derived.ArgAppend
import Derived.Test.YtkikokldijccnaaGreatDoorSqD
import Derived.Test.YtkikokldijccnaaGreatDoorSqT
namespace Go.Proofs.YtkikokldijccnaaGreatDoor
open Go.RowKit Go.Maps
attribute [local go_sem ↓] Go.wp_at_zero Go.wp_at_succ
attribute [local go_sem] wrap_lit
/-! ### looking up, the size -/
theorem no_look {a : Int} : ∀ {l : List (Int × Tk)}, lookT a l = none → ∀ p ∈ l, p.1 ≠ a
  | [], _, p, hp => by cases hp
  | q :: l, h, p, hp => by
    unfold lookT at h
    split at h
    · cases h
    · rename_i g
      rcases List.mem_cons.1 hp with rfl | hp
      · exact g
      · exact no_look h p hp
def lookV (bk : Int → Nat) (a : Int) (es : List (Int × Tk)) : Value := match lookT a es with | none => .pointer none | some _ => .pointer (some ⟨bk a, 0, none⟩)
theorem look_run {w : World} {mb : Nat} {es : List (Int × Tk)} {bk : Int → Nat} (h : OwnT w mb es bk) (a : Int) (hw : (Lit.int .i64 a).wf = true) : Sem.run Tryz.prog (Instr.lookup 34 (.map (some mb)) (.int .i64 a) false) w = .ok (lookV bk a es) w := by
  obtain ⟨ms, clock, hb, F, _, hD⟩ := h
  have hz : (zeroValue 63).run Tryz.prog w = .ok (.pointer none) w := by kernel_rfl
  unfold lookV
  rcases Maps.fit_look false int_law Tryz.underlying34 hz hb F (keyOf_int_mk Tryz.underlying3 hw) with ⟨hrun, _, hat⟩ | ⟨e0, y, _, _, hrun, hR, hat, _⟩
  · rw [← hD] at hat
    have hno : lookT a es = none := by
      cases hl : lookT a es with
      | none => rfl
      | some x =>
        have := hat (.lit (.int .i64 (bk a + 1)))
        rw [enc_at ⟨_, look_mem hl, rfl⟩] at this
        simp at this
        omega
    rw [hno]; exact hrun
  · rw [← hD] at hat
    obtain ⟨b, hv, hy⟩ := Rp_inv hR
    obtain ⟨p, hp, e⟩ := enc_found hat
    have hb2 := hat (.lit (.int .i64 0))
    rw [enc_at ⟨p, hp, e⟩, hy] at hb2
    simp at hb2
    have hbb : bk a = b := by omega
    cases hl : lookT a es with
    | none => exact absurd e (no_look hl p hp)
    | some x =>
      show _ = Result.ok (Value.pointer (some ⟨bk a, 0, none⟩)) w
      rw [hbb, ← hv]; exact hrun
theorem ptr_nil (mb : Nat) : ∀ w, Sem.run Tryz.prog (binOp BinOp.eql 63 (Value.pointer (some ⟨mb, 0, none⟩)) (Value.pointer none)) w = .ok (.bool false) w := fun w => by kernel_rfl
theorem nil_nil : ∀ w, Sem.run Tryz.prog (binOp BinOp.eql 63 (Value.pointer none) (Value.pointer none)) w = .ok (.bool true) w := fun w => by kernel_rfl
theorem OwnT.fit {w : World} {mb n : Nat} {es : List (Int × Tk)} {bk : Int → Nat} (h : w.ownsMap Tryz.prog 3 Rp mb n (.map (encE bk es))) (hs : es.length ≤ 1000) : OwnT w mb es bk := by
  obtain ⟨ms, clock, hb, F, _, hD⟩ := h
  refine ⟨ms, clock, hb, F, ?_, hD⟩
  have e := congrArg Maps.size hD
  rw [enc_size] at e
  simp [Maps.size, length_sorted] at e
  omega
/-! ### an entry that is being heard -/
def Ent1 (w : World) (xb : Nat) (x : Tk) (G : Option Nat) : Prop := (x.cy = [] ∧ G = none ∧ w.heap[xb]? = some (.cells #[.bool x.kn, .slice none 0 0] 65 (0, 0))) ∨ ∃ g, G = some g ∧ EntAt w xb g x
structure Mid (w : World) (H mb xb : Nat) (t : Ts) (a : Int) (x : Tk) (G : Option Nat) (bk gk : Int → Nat) (O : Nat → Prop) : Prop where
  cells : w.heap[H]? = some (.cells #[.int .i64 t.need, .int .i64 t.win, .int .i64 t.keep, .int .i64 t.now, .map (some mb)] 36 (0, 0))
  own : OwnT w mb (putT a x t.es) bk
  xba : bk a = xb
  x : Ent1 w xb x G
  ent : ∀ p ∈ t.es, p.1 ≠ a → EntAt w (bk p.1) (gk p.1) p.2
  injb : ∀ p ∈ t.es, ∀ q ∈ t.es, p.1 ≠ a → q.1 ≠ a → bk p.1 = bk q.1 → p.1 = q.1
  injx : ∀ p ∈ t.es, p.1 ≠ a → bk p.1 ≠ xb
  injg : ∀ p ∈ t.es, ∀ q ∈ t.es, p.1 ≠ a → q.1 ≠ a → gk p.1 = gk q.1 → p.1 = q.1
  injG : ∀ p ∈ t.es, p.1 ≠ a → G ≠ some (gk p.1)
  oH : O H
  om : O mb
  ox : O xb
  oG : ∀ g, G = some g → O g
  ob : ∀ p ∈ t.es, p.1 ≠ a → O (bk p.1) ∧ O (gk p.1)
  lt : ∀ k, O k → k < w.heap.size
theorem put_keys {a : Int} {x : Tk} : ∀ {l : List (Int × Tk)} {y : Tk}, (a, y) ∈ l → Asc l → (putT a x l).map Prod.fst = l.map Prod.fst
  | [], _, h, _ => by cases h
  | p :: l, y, h, ha => by
    unfold putT
    rcases List.mem_cons.1 h with rfl | h
    · rw [if_neg (by show ¬ a < a; omega), if_pos (show a = a from rfl)]; rfl
    · have := ha.1 _ h
      have g : p.1 < a := this
      rw [if_neg (by omega), if_neg (by omega), List.map_cons, put_keys h ha.2, List.map_cons]
theorem put_keys2 (a : Int) (x y : Tk) : ∀ l : List (Int × Tk), (putT a x l).map Prod.fst = (putT a y l).map Prod.fst
  | [] => rfl
  | p :: l => by
    unfold putT
    split
    · rfl
    · split
      · rfl
      · rw [List.map_cons, List.map_cons, put_keys2 a x y l]
theorem OwnT.keys {w : World} {mb : Nat} {es es' : List (Int × Tk)} {bk : Int → Nat} (h : OwnT w mb es bk) (e : es'.map Prod.fst = es.map Prod.fst) : OwnT w mb es' bk := by
  unfold OwnT at h ⊢
  rw [enc_keys (bk := bk) e]; exact h
theorem Mid.found {w : World} {H mb : Nat} {t : Ts} {bk gk : Int → Nat} {O : Nat → Prop} (h : Tab w H mb t bk gk O) (ha : Asc t.es) {a : Int} {x : Tk} (hx : lookT a t.es = some x) : Mid w H mb (bk a) t a x (some (gk a)) bk gk O where
  cells := h.c.cells
  own := h.own.keys (put_keys (look_mem hx) ha)
  xba := rfl
  x := .inr ⟨_, rfl, h.c.ent _ (look_mem hx)⟩
  ent := fun p hp _ => h.c.ent p hp
  injb := fun p hp q hq _ _ => h.c.injb p hp q hq
  injx := fun p hp hn e => hn (h.c.injb p hp _ (look_mem hx) e)
  injg := fun p hp q hq _ _ => h.c.injg p hp q hq
  injG := fun p hp hn e => hn (h.c.injg p hp _ (look_mem hx) (Option.some.inj e).symm)
  oH := h.c.oH
  om := h.c.om
  ox := (h.c.ob _ (look_mem hx)).1
  oG := fun g e => by rw [← Option.some.inj e]; exact (h.c.ob _ (look_mem hx)).2
  ob := fun p hp _ => h.c.ob p hp
  lt := h.c.lt
/-- a fresh entry in the map -/
theorem Mid.fresh {w w' : World} {H mb xb : Nat} {t : Ts} {bk gk : Int → Nat} {O : Nat → Prop} (h : Tab w H mb t bk gk O) {a : Int} (hx : lookT a t.es = none) (hl : t.es.length < 1000) (hxb : w.heap.size ≤ xb)
    (hn : w'.heap[xb]? = some (.cells #[.bool false, .slice none 0 0] 65 (0, 0)))
    (ho : w'.ownsMap Tryz.prog 3 Rp mb 1001 ((DataW.map (encE bk t.es)).put (.int .i64 a) (.lit (.int .i64 xb)))) (hk : ∀ k, k < w.heap.size → k ≠ mb → w'.heap[k]? = w.heap[k]?) (hs : xb < w'.heap.size) :
    Mid w' H mb xb t a ⟨false, []⟩ none (fun k => if k = a then xb else bk k) gk (fun k => O k ∨ k = xb) := by
  have hno := no_look hx
  have hap := Tab.apart h.c h.own.obj
  have hbk : ∀ p ∈ t.es, (if p.1 = a then xb else bk p.1) = bk p.1 := fun p hp => if_neg (hno p hp)
  have hO := h.c.lt
  refine ⟨(hk _ (hO _ h.c.oH) hap.1).trans h.c.cells, ?_, if_pos rfl, .inl ⟨rfl, rfl, hn⟩, fun p hp _ => ?_, fun p hp q hq _ _ e => ?_, fun p hp _ e => ?_, fun p hp q hq _ _ => h.c.injg p hp q hq, fun p hp _ e => (by cases e), .inl h.c.oH, .inl h.c.om, .inr rfl, fun g e => (by cases e), fun p hp _ => ?_, fun k hk' => ?_⟩
  · rw [enc_cong (bk' := fun k => if k = a then xb else bk k) (fun p hp => (hbk p hp).symm)] at ho
    rw [enc_put_new (x := ⟨false, []⟩) hno (if_pos rfl)] at ho
    exact OwnT.fit ho (by have := putT_len a ⟨false, []⟩ t.es; omega)
  · show EntAt w' (if p.1 = a then xb else bk p.1) (gk p.1) p.2
    rw [hbk p hp]
    exact (h.c.ent p hp).kept (hk _ (hO _ (h.c.ob p hp).1) (hap.2 p hp).1) (hk _ (hO _ (h.c.ob p hp).2) (hap.2 p hp).2.1)
  · have e' : (if p.1 = a then xb else bk p.1) = if q.1 = a then xb else bk q.1 := e
    rw [hbk p hp, hbk q hq] at e'
    exact h.c.injb p hp q hq e'
  · have e' : (if p.1 = a then xb else bk p.1) = xb := e
    rw [hbk p hp] at e'
    have := hO _ (h.c.ob p hp).1
    omega
  · show (O (if p.1 = a then xb else bk p.1) ∨ _) ∧ _
    rw [hbk p hp]
    exact ⟨.inl (h.c.ob p hp).1, .inl (h.c.ob p hp).2⟩
  · rcases hk' with hk' | hk'
    · have := hO k hk'; omega
    · omega
theorem Ent1.objb {w : World} {xb : Nat} {x : Tk} {G : Option Nat} (h : Ent1 w xb x G) : ∃ c, w.heap[xb]? = some (.cells c 65 (0, 0)) := by
  rcases h with ⟨_, _, h⟩ | ⟨g, _, h⟩
  · exact ⟨_, h⟩
  · exact h.objb
theorem Ent1.objg {w : World} {xb g : Nat} {x : Tk} (h : Ent1 w xb x (some g)) : ∃ c, w.heap[g]? = some (.cells c 3 (0, 0)) := by
  rcases h with ⟨_, h, _⟩ | ⟨g', e, h⟩
  · cases h
  · obtain rfl := Option.some.inj e
    exact h.objg
/-- the entry has been written -/
theorem Mid.tab {w w' : World} {H mb xb : Nat} {t : Ts} (ha : Asc t.es) {a : Int} {x : Tk} {G : Option Nat} {bk gk : Int → Nat} {O : Nat → Prop} (h : Mid w H mb xb t a x G bk gk O) {y : Tk} {g' : Nat} (hy : EntAt w' xb g' y) (hg : G = some g' ∨ w.heap.size ≤ g')
    (hk : ∀ k, k < w.heap.size → k ≠ xb → G ≠ some k → w'.heap[k]? = w.heap[k]?) (hs : w.heap.size ≤ w'.heap.size) : Tab w' H mb ⟨t.need, t.win, t.keep, t.now, putT a y t.es⟩ bk (fun k => if k = a then g' else gk k) (fun k => O k ∨ k = g') := by
  obtain ⟨ma, mc, hm⟩ := h.own.obj
  obtain ⟨cb, hcb⟩ := h.x.objb
  have hHx : H ≠ xb := ne_of_cells h.cells hcb (by simp)
  have hmx : mb ≠ xb := ne_of_cells hm hcb (by simp)
  have hHG : G ≠ some H := fun e => by
    have hx := h.x; rw [e] at hx
    obtain ⟨c, hc⟩ := hx.objg
    exact ne_of_cells h.cells hc (by simp) rfl
  have hmG : G ≠ some mb := fun e => by
    have hx := h.x; rw [e] at hx
    obtain ⟨c, hc⟩ := hx.objg
    exact ne_of_cells hm hc (by simp) rfl
  have hbG : ∀ p ∈ t.es, p.1 ≠ a → G ≠ some (bk p.1) := fun p hp hn e => by
    have hx := h.x; rw [e] at hx
    obtain ⟨c, hc⟩ := hx.objg
    obtain ⟨cb', hb'⟩ := (h.ent p hp hn).objb
    exact ne_of_cells hb' hc (by simp) rfl
  have hgx : ∀ p ∈ t.es, p.1 ≠ a → gk p.1 ≠ xb := fun p hp hn => by
    obtain ⟨cg', hg'⟩ := (h.ent p hp hn).objg
    exact ne_of_cells hg' hcb (by simp)
  have hgy : ∀ p ∈ t.es, p.1 ≠ a → gk p.1 ≠ g' := fun p hp hn e => by
    rcases hg with hg | hg
    · exact h.injG p hp hn (by rw [e]; exact hg)
    · have := h.lt _ (h.ob p hp hn).2
      omega
  have hmem : ∀ p ∈ putT a y t.es, p = (a, y) ∨ (p ∈ t.es ∧ p.1 ≠ a) := fun p hp => by
    by_cases e : p.1 = a
    · refine .inl ?_
      obtain ⟨pa, px⟩ := p
      obtain rfl : pa = a := e
      have h1 := look_of_mem (Asc.put pa y ha) hp
      rw [look_put_same pa y _ ha] at h1
      rw [Option.some.inj h1]
    · rcases mem_putT hp with g | g
      · rw [g] at e; exact absurd rfl e
      · exact .inr ⟨g, e⟩
  have gya : (if a = a then g' else gk a) = g' := if_pos rfl
  have gyo : ∀ p : Int × Tk, p.1 ≠ a → (if p.1 = a then g' else gk p.1) = gk p.1 := fun p hp => if_neg hp
  have hoG : ∀ k, O k → k < w.heap.size := h.lt
  have hg's : g' < w'.heap.size := by
    obtain ⟨c, hc⟩ := hy.objg
    exact (Array.getElem?_eq_some_iff.1 hc).1
  refine ⟨⟨(hk _ (hoG _ h.oH) hHx hHG).trans h.cells, fun p hp => ?_, fun p hp q hq e => ?_, fun p hp q hq e => ?_, .inl h.oH, .inl h.om, fun p hp => ?_, fun k hk' => ?_⟩, ?_⟩
  · rcases hmem p hp with rfl | ⟨g, e⟩
    · show EntAt w' (bk a) (if a = a then g' else gk a) y
      rw [gya, h.xba]; exact hy
    · show EntAt w' (bk p.1) (if p.1 = a then g' else gk p.1) p.2
      rw [gyo p e]
      exact (h.ent p g e).kept (hk _ (hoG _ (h.ob p g e).1) (h.injx p g e) (hbG p g e)) (hk _ (hoG _ (h.ob p g e).2) (hgx p g e) (h.injG p g e))
  · rcases hmem p hp with rfl | ⟨g1, e1⟩
    · rcases hmem q hq with rfl | ⟨g2, e2⟩
      · rfl
      · exact absurd (e.symm.trans h.xba) (h.injx q g2 e2)
    · rcases hmem q hq with rfl | ⟨g2, e2⟩
      · exact absurd (e.trans h.xba) (h.injx p g1 e1)
      · exact h.injb p g1 q g2 e1 e2 e
  · rcases hmem p hp with rfl | ⟨g1, e1⟩
    · rcases hmem q hq with rfl | ⟨g2, e2⟩
      · rfl
      · replace e : (if a = a then g' else gk a) = (if q.1 = a then g' else gk q.1) := e
        rw [gya, gyo q e2] at e
        exact absurd e.symm (hgy q g2 e2)
    · rcases hmem q hq with rfl | ⟨g2, e2⟩
      · replace e : (if p.1 = a then g' else gk p.1) = (if a = a then g' else gk a) := e
        rw [gya, gyo p e1] at e
        exact absurd e (hgy p g1 e1)
      · replace e : (if p.1 = a then g' else gk p.1) = (if q.1 = a then g' else gk q.1) := e
        rw [gyo p e1, gyo q e2] at e
        exact h.injg p g1 q g2 e1 e2 e
  · rcases hmem p hp with rfl | ⟨g, e⟩
    · show (O (bk a) ∨ _) ∧ (O (if a = a then g' else gk a) ∨ (if a = a then g' else gk a) = g')
      rw [gya, h.xba]; exact ⟨.inl h.ox, .inr rfl⟩
    · show (O (bk p.1) ∨ _) ∧ (O (if p.1 = a then g' else gk p.1) ∨ (if p.1 = a then g' else gk p.1) = g')
      rw [gyo p e]; exact ⟨.inl (h.ob p g e).1, .inl (h.ob p g e).2⟩
  · rcases hk' with hk' | hk'
    · exact Nat.lt_of_lt_of_le (hoG k hk') hs
    · omega
  · exact (h.own.keys (put_keys2 a y x t.es)).kept (hk _ (hoG _ h.om) hmx hmG)
end Go.Proofs.YtkikokldijccnaaGreatDoor
