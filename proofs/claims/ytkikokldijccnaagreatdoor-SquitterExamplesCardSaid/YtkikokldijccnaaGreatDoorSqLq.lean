/- squitter: an entry that is put to the end of a table. -/
import Derived.Test.YtkikokldijccnaaGreatDoorSqO
import Derived.Test.YtkikokldijccnaaGreatDoorSqLp
namespace Go.Proofs.YtkikokldijccnaaGreatDoor
open Go.RowKit Go.Maps
theorem Tab.add {w w' : World} {H mb xb g' : Nat} {t : Ts} {bk gk : Int → Nat} {O : Nat → Prop} (h : Tab w H mb t bk gk O) {a : Int} {y : Tk} (hx : lookT a t.es = none) (hl : t.es.length < 1000) (hxb : w.heap.size ≤ xb) (hgb : w.heap.size ≤ g')
    (hy : EntAt w' xb g' y) (ho : w'.ownsMap Tryz.prog 3 Rp mb 1001 ((DataW.map (encE bk t.es)).put (.int .i64 a) (.lit (.int .i64 xb)))) (hk : ∀ k, k < w.heap.size → k ≠ mb → w'.heap[k]? = w.heap[k]?) (hs : w.heap.size ≤ w'.heap.size) :
    Tab w' H mb ⟨t.need, t.win, t.keep, t.now, putT a y t.es⟩ (fun k => if k = a then xb else bk k) (fun k => if k = a then g' else gk k) (fun k => O k ∨ k = xb ∨ k = g') := by
  have hno := no_look hx
  have hap := Tab.apart h.c h.own.obj
  have hbk : ∀ p : Int × Tk, p.1 ≠ a → (if p.1 = a then xb else bk p.1) = bk p.1 := fun p hp => if_neg hp
  have hgk : ∀ p : Int × Tk, p.1 ≠ a → (if p.1 = a then g' else gk p.1) = gk p.1 := fun p hp => if_neg hp
  have hO := h.c.lt
  have hmem : ∀ p ∈ putT a y t.es, p = (a, y) ∨ p ∈ t.es := fun p hp => mem_putT hp
  have hxs : xb < w'.heap.size := by
    obtain ⟨c, hc⟩ := hy.objb
    exact (Array.getElem?_eq_some_iff.1 hc).1
  have hgs : g' < w'.heap.size := by
    obtain ⟨c, hc⟩ := hy.objg
    exact (Array.getElem?_eq_some_iff.1 hc).1
  have ea : (if a = a then xb else bk a) = xb := if_pos rfl
  have eg : (if a = a then g' else gk a) = g' := if_pos rfl
  refine ⟨⟨(hk _ (hO _ h.c.oH) hap.1).trans h.c.cells, fun p hp => ?_, fun p hp q hq e => ?_, fun p hp q hq e => ?_, .inl h.c.oH, .inl h.c.om, fun p hp => ?_, fun k hk' => ?_⟩, ?_⟩
  · rcases hmem p hp with rfl | g
    · show EntAt w' (if a = a then xb else bk a) (if a = a then g' else gk a) y
      rw [ea, eg]; exact hy
    · show EntAt w' (if p.1 = a then xb else bk p.1) (if p.1 = a then g' else gk p.1) p.2
      rw [hbk p (hno p g), hgk p (hno p g)]
      exact (h.c.ent p g).kept (hk _ (hO _ (h.c.ob p g).1) (hap.2 p g).1) (hk _ (hO _ (h.c.ob p g).2) (hap.2 p g).2.1)
  · replace e : (if p.1 = a then xb else bk p.1) = if q.1 = a then xb else bk q.1 := e
    rcases hmem p hp with rfl | g1
    · rcases hmem q hq with rfl | g2
      · rfl
      · rw [ea, hbk q (hno q g2)] at e
        have := hO _ (h.c.ob q g2).1
        omega
    · rcases hmem q hq with rfl | g2
      · rw [ea, hbk p (hno p g1)] at e
        have := hO _ (h.c.ob p g1).1
        omega
      · rw [hbk p (hno p g1), hbk q (hno q g2)] at e
        exact h.c.injb p g1 q g2 e
  · replace e : (if p.1 = a then g' else gk p.1) = if q.1 = a then g' else gk q.1 := e
    rcases hmem p hp with rfl | g1
    · rcases hmem q hq with rfl | g2
      · rfl
      · rw [eg, hgk q (hno q g2)] at e
        have := hO _ (h.c.ob q g2).2
        omega
    · rcases hmem q hq with rfl | g2
      · rw [eg, hgk p (hno p g1)] at e
        have := hO _ (h.c.ob p g1).2
        omega
      · rw [hgk p (hno p g1), hgk q (hno q g2)] at e
        exact h.c.injg p g1 q g2 e
  · rcases hmem p hp with rfl | g
    · show (O (if a = a then xb else bk a) ∨ _ ∨ _) ∧ (O (if a = a then g' else gk a) ∨ _ ∨ _)
      exact ⟨.inr (.inl ea), .inr (.inr eg)⟩
    · show (O (if p.1 = a then xb else bk p.1) ∨ _ ∨ _) ∧ (O (if p.1 = a then g' else gk p.1) ∨ _ ∨ _)
      rw [hbk p (hno p g), hgk p (hno p g)]
      exact ⟨.inl (h.c.ob p g).1, .inl (h.c.ob p g).2⟩
  · rcases hk' with hk' | hk' | hk'
    · exact Nat.lt_of_lt_of_le (hO k hk') hs
    · omega
    · omega
  · rw [enc_cong (bk' := fun k => if k = a then xb else bk k) (fun p hp => (hbk p (hno p hp)).symm)] at ho
    rw [enc_put_new (x := y) hno (if_pos rfl)] at ho
    exact OwnT.fit ho (by have := putT_len a y t.es; show (putT a y t.es).length ≤ 1000; omega)
/-- the time of an empty table is set -/
theorem Tab.setNow {w : World} {H mb : Nat} {need win keep n0 : Int} {bk gk : Int → Nat} {O : Nat → Prop} (h : Tab w H mb ⟨need, win, keep, n0, []⟩ bk gk O) (now : Int) : Tab (w.setCell ⟨H, 3, none⟩ (.int .i64 now)) H mb ⟨need, win, keep, now, []⟩ bk gk O := by
  have hap := Tab.apart h.c h.own.obj
  refine ⟨⟨(setCell_cells h.c.cells).trans rfl, fun p hp => (by cases hp), fun p hp => (by cases hp), fun p hp => (by cases hp), h.c.oH, h.c.om, fun p hp => (by cases hp), fun k hk => ?_⟩, h.own.kept (Below.heap_setCell _ _ _ _ (fun e => hap.1 e.symm))⟩
  rw [size_setCell]; exact h.c.lt k hk
end Go.Proofs.YtkikokldijccnaaGreatDoor
