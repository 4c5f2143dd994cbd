/- The kit: CopyRows, EqualRows. -/
import Derived.Test.YtmkpblfacnnnoaaRows
import Derived.WalkKit
import Derived.WalkLawsBesides
import Derived.WalkSpells
import Derived.ProofKit
import Derived.Below
import Derived.Outline
import Derived.Lib.Hide
import Derived.Deep.RegionWith
import Derived.Deep.RegionHeld3
import Derived.Deep.DrawnRows
import Derived.StillTailTactics
import Derived.BigQuiet
import Derived.Deep.QuietTactic
import Derived.Deep.LoopGhost
import Derived.IntWalk
import Derived.Test.YtmkpblfacnnnoaaFrN
namespace Go.Proofs.Ytmkpblfacnnnoaa
open Go.RowKit
attribute [local go_sem ↓] Go.wp_at_zero Go.wp_at_succ
attribute [local go_sem] wrap_lit

theorem wpList_appV {P : Program} {ops : Array Oper} {rest : List Oper} {o : Oper} {a : Act} {Q : Exit → Act → World → Prop} {w : World} (hgd : o.guard = none) (s x : Operand) (t : TypeId)
    (ho : o.op = .call { callee := .builtin .append, args := #[s, x], argTypes := #[t, t] })
    (base : Nat) (e : TypeId) (i : TypeInfo) (z : Value) (bytes : Nat) (ht : P.underlying t = some (.slice e)) (hi : P.info? e = some i) (hz : i.zero = some z)
    (hsize : i.size = 1) (hby : i.bytes = bytes) (hzs : z.cells.size = 1)
    (v : Value) (n : Nat) (vs : List Value) (y : Value) (hy : y.oneCell' = true) (hs : a.eval s = v) (hown : w.ownsRow base e 1 v n vs)
    (ob : Obj) (hob : ob = .cells #[y] e) (hx : a.eval x = .slice (some ⟨w.heap.size, 0, none⟩) 1 1)
    (hn : n ≤ 1000000) (hb1 : bytes ≤ 1000) (hbase : base ≤ w.heap.size)
    (h : ∀ v' w', w'.ownsRow base e 1 v' (n + 1) (vs ++ [y]) → (w.alloc ob).grownBy w' v.ownBlock → Below base w w' → wpList P ops Q rest (a.put o.dst v') w') : wpList P ops Q (o :: rest) a (w.alloc ob) := by
  subst hob
  have hbytes : (n + 1) * bytes ≤ 1000001 * 1000 := Nat.mul_le_mul (by omega) hb1
  refine wpList_append_own _ hgd s x t ho base e i z 1 bytes ht hi hz hsize hby hzs (by decide) v n _ hs (World.ownsRow.alloc hown _) ⟨w.heap.size, 0, none⟩ 1 1 [y] hx rfl (fun j u hu => ?_) (fun u hu => ?_) (by unfold maxLen; omega) (by omega) (by simp; omega) ?_
  · cases j with
    | zero =>
      obtain rfl : y = u := by simpa using hu
      exact World.cell?_alloc_at _ _ _ _ rfl
    | succ j => simp at hu
  · obtain rfl : u = y := by simpa using hu
    exact hy
  · intro v' w' hown' hg _
    exact h v' w' hown' hg (((Below.refl base w).alloc hbase _).grown hg (by simp; omega) fun g hg' => (World.ownsRow.lt hown g hg').1)
theorem Own.grown {k : IntKind} {W w1 : World} {B n0 : Nat} {A : Option Addr} {T e : TypeId} {xs : List Int} {size n : Nat} {v : Value} {vs : List Value} {tmp : Obj} (h : Own k W B A T xs) (hT : T ≠ e) (hrow : W.ownsRow n0 e size v n vs) (hg : (W.alloc tmp).grownBy w1 v.ownBlock) : Own k w1 B A T xs := fun hn => by
  obtain ⟨g, cs, e1, hB, hh, hc⟩ := h hn
  refine ⟨g, cs, e1, hB, ?_, hc⟩
  have h1 : (W.alloc tmp).heap[g]? = some (.cells cs T (0, 0)) := (Below.heap_alloc W _ g (heap_lt hh)).trans hh
  rw [hg.block g (heap_lt h1) (fun e2 => ?_), h1]
  rcases hrow.2 with ⟨rfl, _⟩ | ⟨g', cap, cur, rfl, _, hgg, _⟩
  · simp [Value.ownBlock] at e2
  · obtain rfl : g = g' := by simpa [Value.ownBlock] using e2
    rw [hh] at hgg
    cases hgg
    exact hT rfl
theorem ownsRow_below {w w1 : World} {base : Nat} {e : TypeId} {size n : Nat} {v : Value} {xs : List Value} (h : w.ownsRow base e size v n xs) (hb : Below w.heap.size w w1) : w1.ownsRow base e size v n xs := by
  refine h.kept (row := none) ⟨hb.os, hb.tape, hb.output, hb.size, fun i hi _ => hb.block i hi⟩ ?_
  rcases hv : v.ownBlock with _ | g
  · exact .inl rfl
  · exact .inr (by simp)
/-- The rows that have been copied. -/
def CpR (w : World) (B : Nat) (xss : List (List Int)) (vs : List Value) : Prop := ∀ r, r < vs.length → ∃ Ar Cr, vs[r]? = some (.slice Ar (row xss r).length Cr) ∧ Own .i64 w B Ar 3 (row xss r)
set_option maxHeartbeats 2000000 in
theorem copyRows (A : Option Addr) (cap : Nat) (xss : List (List Int)) (w : World) (hR : RIs .i64 w w.heap.size A xss) (hl : xss.length ≤ 1000) (hrow : ∀ r, r < xss.length → (row xss r).length ≤ 1000000) :
    Calls Try.prog 20 #[.slice A xss.length cap] w fun e w' => ∃ A' cap', e = .returned (.slice A' xss.length cap') ∧ RIs .i64 w' w'.heap.size A' xss ∧ Below w.heap.size w w' := by
  obtain ⟨i0, hi0, hz0, hz1, hz2⟩ := info_parts R_info
  have HR := Lib.hid hR
  have Hrow := Lib.hid hrow
  clear hR hrow
  go_enter Try.func20, Try.ntmps20
  go_wp2_with fail
  go_loopw [3, 4] (fun v i wr => ∃ (k : Nat) (vs : List Value), k ≤ xss.length ∧ i = .int .i64 k ∧ vs.length = k ∧ wr.ownsRow w.heap.size 22 1 v k vs ∧ CpR wr w.heap.size xss vs ∧ Below w.heap.size w wr) (fun _ i _ => xss.length - (intOf i).toNat)
  case atStart => exact ⟨0, [], Nat.zero_le _, rfl, rfl, World.ownsRow_nil _ _ _ _, fun r h => by simp at h, Below.refl _ _⟩
  case round =>
    obtain ⟨k, vs, hk, rfl, hvl, hown, hcp, hB⟩ := hrel
    by_cases hlt : k < xss.length
    · obtain ⟨b, off, Ar, Cr, rfl, hb, hcell, hIs⟩ := HR.out.at_ hlt
      have x1 := (hB.cell (p := ⟨b, off + k, none⟩) hb).trans hcell
      have hkI : (k : Int) < (xss.length : Int) := by omega
      have hk0 : (0 : Int) ≤ (k : Int) := by omega
      have C := Lib.hid (copyInts Ar Cr (row xss k) wr ((hIs.below hB).mono hB.size) (Hrow.out k hlt))
      have HW := Lib.hid hown
      have HCp := Lib.hid hcp
      have HB := Lib.hid hB
      have Hvl := Lib.hid hvl
      have hBs := hB.size
      clear hown hcp hB hIs hcell hvl
      go_wp2_with fail
      refine C.out.mono ?_
      rintro e w1 ⟨v1, rfl, hv1, hb1⟩
      obtain ⟨A1, cap1, rfl, own1⟩ := hv1.own
      have s1 := hb1.size
      have HW1 := Lib.hid (ownsRow_below HW.out hb1)
      have HO1 := Lib.hid own1
      have HB1 := Lib.hid hb1
      have hbs : w.heap.size ≤ w1.heap.size := by omega
      clear hv1 own1 hb1
      go_wp2_with (at_builtin; refine wpList_appV rfl _ _ 35 rfl w.heap.size 22 i0 _ 24 Try.underlying35 hi0 hz0 hz1 hz2 rfl _ _ _ (.slice A1 (row xss k).length cap1) rfl rfl HW1.out _ rfl rfl (by omega) (by decide) hbs ?_; intro v' w2 hown2 hg2 hb2)
      refine ⟨⟨k + 1, vs ++ [.slice A1 (row xss k).length cap1], by omega, by go_num, by simp [Hvl.out], hown2, fun r hr => ?_, (HB.out.trans (HB1.out.mono hBs)).trans hb2⟩, by simp [intOf]; omega⟩
      have hv := Hvl.out
      rcases Nat.lt_or_ge r k with g | g
      · obtain ⟨Aq, Cq, h1, h2⟩ := HCp.out r (by omega)
        exact ⟨Aq, Cq, by rw [List.getElem?_append_left (by omega)]; exact h1, (h2.below HB1.out).grown (by decide) HW1.out hg2⟩
      · obtain rfl : r = k := by simp at hr; omega
        refine ⟨A1, cap1, by rw [List.getElem?_append_right (by omega), hv]; simp, ?_⟩
        have h3 : Own .i64 w1 w.heap.size A1 3 (row xss r) := fun h0 => by
          obtain ⟨g, cs, e1, e2, e3, e4⟩ := HO1.out h0
          exact ⟨g, cs, e1, by omega, e3, e4⟩
        exact h3.grown (by decide) HW1.out hg2
    · obtain rfl : k = xss.length := by omega
      have HW := Lib.hid hown
      have HCp := Lib.hid hcp
      have HB := Lib.hid hB
      have Hvl := Lib.hid hvl
      clear hown hcp hB hvl
      go_wp2_with fail
      go_ret
      obtain ⟨hl', h0 | ⟨g, cap', cur, rfl, hgb, hh, hnc, hm, hcs, htake⟩⟩ := HW.out
      · obtain ⟨rfl, hn0⟩ := h0
        have hx0 : xss.length = 0 := hn0
        exact ⟨none, 0, by simp [hx0], fun h => by omega, HB.out⟩
      · refine ⟨_, _, rfl, fun hn => ⟨g, 0, rfl, heap_lt hh, fun r hr => ?_⟩, HB.out⟩
        obtain ⟨Aq, Cq, h1, h2⟩ := HCp.out r (by rw [Hvl.out]; exact hr)
        refine ⟨Aq, Cq, ?_, h2.is⟩
        have e : (cur.toList.take (xss.length * 1))[r]? = vs[r]? := by rw [htake]
        rw [List.getElem?_take_of_lt (by omega), h1] at e
        rw [Nat.zero_add]
        simp only [World.cell?, hh]
        simpa using e

set_option maxHeartbeats 2000000 in
theorem equalRows (A A' : Option Addr) (cap cap' : Nat) (xss : List (List Int)) (B : Nat) (w : World) (hR : RIs .i64 w B A xss) (hR' : RIs .i64 w B A' xss) (hl : xss.length ≤ 1000) (hrow : ∀ r, r < xss.length → (row xss r).length ≤ 1000000) :
    Calls Try.prog 26 #[.slice A xss.length cap, .slice A' xss.length cap'] w fun e w' => e = .returned (.bool true) ∧ DrN w w' := by
  have hlb : ((xss.length : Int) != (xss.length : Int)) = false := by simp
  have HR := Lib.hid hR
  have HR' := Lib.hid hR'
  have Hrow := Lib.hid hrow
  clear hR hR' hrow
  go_enter Try.func26, Try.ntmps26
  go_wp2_with fail
  go_loopw [5] (fun i wr => ∃ k : Nat, k ≤ xss.length ∧ i = .int .i64 k ∧ DrN w wr) (fun i _ => xss.length - (intOf i).toNat)
  case atStart => exact ⟨0, Nat.zero_le _, rfl, DrN.refl w⟩
  case round =>
    obtain ⟨k, hk, rfl, hDr⟩ := hrel
    by_cases hlt : k < xss.length
    · obtain ⟨b, off, Ar, Cr, rfl, hb, hcell, hIs⟩ := HR.out.at_ hlt
      obtain ⟨b', off', Ar', Cr', rfl, hb', hcell', hIs'⟩ := HR'.out.at_ hlt
      have x1 := hDr.cell hcell
      have x2 := hDr.cell hcell'
      have hkI : (k : Int) < (xss.length : Int) := by omega
      have hk0 : (0 : Int) ≤ (k : Int) := by omega
      have C := fun W => fun (h : DrN w W) => equalInts Ar Ar' Cr Cr' (row xss k) (row xss k) B W (h.is hIs) (h.is hIs') (Hrow.out k hlt)
      have C2 := Lib.hid (show ∀ n, Calls Try.prog 19 #[.slice Ar (row xss k).length Cr, .slice Ar' (row xss k).length Cr'] (wr.drewN n) fun e w' => e = .returned (.bool true) ∧ ∃ m, w' = (wr.drewN n).drewN m from fun n => (C _ (hDr.on n)).mono fun e w' h => ⟨by rw [h.1]; simp, by obtain ⟨m, hm⟩ := h.2; exact ⟨m, hm.symm⟩⟩)
      have HDr := Lib.hid hDr
      clear C hIs hIs' hcell hcell' hDr
      go_wp2_with fail
      go_quiet ((go_at_call 19; exact Calls.quiet_of (C2.out _)))
      go_wp2_with fail
      exact ⟨⟨k + 1, by omega, by go_num, HDr.out.on nq⟩, by simp [intOf]; omega⟩
    · have hkI : (xss.length : Int) ≤ (k : Int) := by omega
      have HDr := Lib.hid hDr
      clear hDr
      go_wp2_with fail
      go_ret
      exact ⟨rfl, HDr.out⟩
end Go.Proofs.Ytmkpblfacnnnoaa
