/- squitter: addrs, Known, Pending. -/
import Derived.Test.YtkikokldijccnaaGreatDoorRows
import Derived.WalkKit
import Derived.WalkLawsBesides
import Derived.WalkSpells
import Derived.ProofKit
import Derived.Below
import Derived.Outline
import Derived.Lib.Hide
import Derived.Deep.RegionWith
import Derived.Deep.RegionHeld3
import Derived.Deep.DrawnRows
import Derived.StillTailTactics
import Derived.BigQuiet
import Derived.Deep.QuietTactic
import Derived.Deep.LoopGhost
import Derived.IntWalk
import Derived.BigQuiet
import Derived.Test.YtkikokldijccnaaGreatDoorSqF
import Derived.Test.YtkikokldijccnaaGreatDoorSh
namespace Go.Proofs.YtkikokldijccnaaGreatDoor
open Go.RowKit Go.Maps
attribute [local go_sem ↓] Go.wp_at_zero Go.wp_at_succ
attribute [local go_sem] wrap_lit
/-! ### the addresses that have come out of the map -/
def seenA (t : Ts) (k : Bool) (left : Lit → Bool) : List Int := (t.es.filter fun p => !left (.int .i64 p.1) && (p.2.kn == k)).map Prod.fst
theorem seen_start (t : Ts) (k : Bool) (bk : Int → Nat) : seenA t k (Maps.has (.map (encE bk t.es))) = [] := by
  have : (t.es.filter fun p => !Maps.has (.map (encE bk t.es)) (.int .i64 p.1) && (p.2.kn == k)) = [] := List.filter_eq_nil_iff.2 fun p hp => by
    have : Maps.has (.map (encE bk t.es)) (.int .i64 p.1) = true := by rw [enc_has]; exact List.any_eq_true.2 ⟨p, hp, by simp⟩
    simp [this]
  unfold seenA
  rw [this]; rfl
theorem seen_end {t : Ts} {k : Bool} {left : Lit → Bool} (h : ∀ z, left z = false) : seenA t k left = addrsT t k := by
  unfold seenA addrsT
  simp [h]
theorem seen_cong (q : Int × Tk → Bool) (left : Lit → Bool) (x : Int) : ∀ l : List (Int × Tk), (∀ p ∈ l, p.1 ≠ x) → (l.filter fun p => !(left (.int .i64 p.1) && !Lit.sameKey (.int .i64 p.1) (.int .i64 x)) && q p) = l.filter fun p => !left (.int .i64 p.1) && q p := fun l h => by
  apply List.filter_congr
  intro p hp
  have := h p hp
  simp [Lit.sameKey, this]
theorem seen_fold (q : Int × Tk → Bool) (left : Lit → Bool) (x : Int) (e : Tk) (hl : left (.int .i64 x) = true) : ∀ l : List (Int × Tk), Asc l → (x, e) ∈ l → ((l.filter fun p => !(left (.int .i64 p.1) && !Lit.sameKey (.int .i64 p.1) (.int .i64 x)) && q p).map Prod.fst).Perm ((if q (x, e) then [x] else []) ++ (l.filter fun p => !left (.int .i64 p.1) && q p).map Prod.fst)
  | [], _, h => by cases h
  | p :: l, ha, h => by
    by_cases g : p.1 = x
    · have hp : p = (x, e) := Asc.one (l := p :: l) ha (List.mem_cons_self ..) h g
      subst hp
      rw [List.filter_cons, List.filter_cons, seen_cong q left x l fun r hr => by have := ha.1 r hr; show r.1 ≠ x; have : x < r.1 := this; omega]
      have e1 : (!(left (.int .i64 x) && !Lit.sameKey (.int .i64 x) (.int .i64 x)) && q (x, e)) = q (x, e) := by simp [Lit.sameKey]
      have e2 : (!left (.int .i64 x) && q (x, e)) = false := by simp [hl]
      rw [e1, e2]
      cases q (x, e) <;> simp
    · have hm : (x, e) ∈ l := by
        rcases List.mem_cons.1 h with h | h
        · rw [← h] at g; exact absurd rfl g
        · exact h
      have ih := seen_fold q left x e hl l ha.2 hm
      rw [List.filter_cons, List.filter_cons]
      have e1 : (!(left (.int .i64 p.1) && !Lit.sameKey (.int .i64 p.1) (.int .i64 x)) && q p) = (!left (.int .i64 p.1) && q p) := by simp [Lit.sameKey, g]
      rw [e1]
      cases hb : (!left (.int .i64 p.1) && q p) with
      | false => simpa using ih
      | true =>
        simp only [if_true, List.map_cons]
        refine (List.Perm.cons p.1 ih).trans ?_
        exact (List.perm_middle (a := p.1) (l₁ := if q (x, e) then [x] else [])).symm
theorem seen_step {t : Ts} (ha : Asc t.es) {k : Bool} {left : Lit → Bool} {x : Int} {e : Tk} (he : (x, e) ∈ t.es) (hl : left (.int .i64 x) = true) : (seenA t k fun z => left z && !z.sameKey (.int .i64 x)).Perm ((if e.kn == k then [x] else []) ++ seenA t k left) := by
  have := seen_fold (fun p => p.2.kn == k) left x e hl t.es ha he
  exact this
theorem seen_len (t : Ts) (k : Bool) (left : Lit → Bool) : (seenA t k left).length ≤ t.es.length := by
  unfold seenA
  rw [List.length_map]
  exact List.length_filter_le _ _
theorem sort_perm {l m : List Int} (h : l.Perm m) (hm : m.Pairwise (· < ·)) : (l.mergeSort fun x y => decide (x ≤ y)) = m := by
  have hp := (List.mergeSort_perm l fun x y => decide (x ≤ y)).trans h
  have hs : (l.mergeSort fun x y => decide (x ≤ y)).Pairwise fun a b => decide (a ≤ b) = true := List.pairwise_mergeSort (le := fun x y => decide (x ≤ y)) (fun a b c h1 h2 => by simp at h1 h2 ⊢; omega) (fun a b => by simp; omega) l
  have hn : (l.mergeSort fun x y => decide (x ≤ y)).Nodup := hp.nodup_iff.2 (hm.imp fun h e => by omega)
  have hlt : (l.mergeSort fun x y => decide (x ≤ y)).Pairwise (· < ·) := by
    have := hs.and hn
    exact this.imp fun ⟨h1, h2⟩ => by simp at h1; have : ∀ a b : Int, a ≤ b → a ≠ b → a < b := fun a b _ _ => by omega
                                      exact this _ _ h1 h2
  exact up_ext hlt hm fun a => hp.mem_iff
/-- a sorted row -/
theorem row_sorted {w : World} {g : Nat} {cs : Array Value} {n : Nat} {os : Array Obj} {zs : List Int} (hg : w.heap[g]? = some (.cells cs 3 (0, 0))) (hc : zs.length ≤ cs.size) : ∃ cs', (Sort.grow (Sort.putRow (Value.int .i64) (Sort.ahead w n) g 0 zs.toArray) os).heap[g]? = some (.cells cs' 3 (0, 0)) ∧ ∀ j, j < zs.length → cs'[j]? = some (.int .i64 (nth zs j)) := by
  refine ⟨Sort.putCells (Value.int .i64) 0 zs.toArray cs, ?_, fun j hj => ?_⟩
  · have hlt : g < (Sort.putRow (Value.int .i64) (Sort.ahead w n) g 0 zs.toArray).heap.size := by rw [Sort.size_putRow]; exact heap_lt hg
    rw [Sort.heap_grow_old _ _ hlt]
    show (w.heap.modify g _)[g]? = _
    simp [Array.getElem?_modify, hg, Sort.onCells]
  · have hjc : j < cs.size := by omega
    simp [Sort.putCells, hj, hjc, nth, List.getD_eq_getElem?_getD]
theorem row_other {w : World} {g n off : Nat} {os : Array Obj} {d : Array Int} {k : Nat} (hk : k < w.heap.size) (hne : k ≠ g) : (Sort.grow (Sort.putRow (Value.int .i64) (Sort.ahead w n) g off d) os).heap[k]? = w.heap[k]? := by
  rw [Sort.heap_grow_old _ _ (by rw [Sort.size_putRow]; exact hk)]
  show (w.heap.modify g _)[k]? = _
  rw [Array.getElem?_modify, if_neg (fun e => hne e.symm)]
theorem ranges_kept {w w' : World} {b r n cnt : Nat} {D : DataW Unit} {left : Lit → Bool} (h : w.ranges Tryz.prog 3 Rp b r n D left cnt) (hb : w'.heap[b]? = w.heap[b]?) (hr : w'.heap[r]? = w.heap[r]?) : w'.ranges Tryz.prog 3 Rp b r n D left cnt := by
  obtain ⟨es, clock, since, seen, c0, h1, h2, h3, h4, h5, h6⟩ := h
  exact ⟨es, clock, since, seen, c0, hb.trans h1, h2, h3, h4, hr.trans h5, h6⟩
theorem Acc.slice {w : World} {B : Nat} {v : Value} {n : Nat} {ys : List Int} (h : Acc .i64 w B 3 1 v n ys) : (ys = [] ∧ v = .slice none 0 0) ∨ ∃ g cap cs, v = .slice (some ⟨g, 0, none⟩) n cap ∧ B ≤ g ∧ w.heap[g]? = some (.cells cs 3 (0, 0)) ∧ n ≤ cap ∧ ys.length ≤ cs.size ∧ ∀ j, j < ys.length → cs[j]? = some (.int .i64 (nth ys j)) := by
  have hl : ys.length = n := by have := h.len; omega
  obtain ⟨_, ⟨h1, h0⟩ | ⟨g, cap, cur, rfl, hb, hh, hnc, hcm, hsz, htk⟩⟩ := h
  · exact .inl ⟨List.length_eq_zero_iff.1 (by omega), h1⟩
  · refine .inr ⟨g, cap, cur, rfl, hb, hh, hnc, by omega, fun j hj => ?_⟩
    have h1 : (ys.map (Value.int .i64))[j]? = some (.int .i64 (nth ys j)) := by
      rw [List.getElem?_map, List.getElem?_eq_getElem hj]
      simp [nth, List.getD_eq_getElem?_getD, hj]
    rw [← htk, List.getElem?_take_of_lt (by omega)] at h1
    simpa using h1
theorem sort52 {w : World} {B : Nat} {v : Value} {n : Nat} {ys m : List Int} (h : Acc .i64 w B 3 1 v n ys) (hp : ys.Perm m) (hm : m.Pairwise (· < ·)) (hl : ys.length ≤ 1000) : Calls Tryz.prog 32 #[v] w fun e w' => e = .returned (.tuple #[]) ∧ (∃ A cap, v = .slice A m.length cap ∧ Own .i64 w' B A 3 m ∧ m.length ≤ cap) ∧ Below B w w' := by
  have hlm : ys.length = m.length := hp.length_eq
  have hln : ys.length = n := by have := h.len; omega
  rcases h.slice with ⟨rfl, rfl⟩ | ⟨g, cap, cs, rfl, hB, hg, hnc, hsz, hc⟩
  · refine (Go.Proofs.AnyM.slices_Sort_int_none Tryz.sortA none 0 w).mono ?_
    rintro e w' ⟨rfl, h2⟩
    obtain rfl : m = [] := List.length_eq_zero_iff.1 hlm.symm
    rw [h2]
    exact ⟨rfl, ⟨none, 0, rfl, fun h => absurd h (by simp), Nat.le_refl _⟩, Below.refl _ _⟩
  · have hH : Sort.Holds (Value.int .i64) w g 0 ys.toArray := fun j hj => by
      have hj' : j < ys.length := by simpa using hj
      refine ⟨?_, frozenOf hg⟩
      rw [Nat.zero_add, cellOf hg, hc j hj']
      simp [nth, List.getD_eq_getElem?_getD, hj']
    have T := Go.Proofs.AnyM.slices_Sort_int Tryz.sortA g 0 cap ys w hH (heap_lt hg) (by omega)
    rw [hln] at T
    refine (show Calls Tryz.prog 32 _ w _ from T).mono ?_
    rintro e w' ⟨rfl, nn, os, rfl⟩
    rw [sort_perm hp hm]
    obtain ⟨cs', h1, h2⟩ := row_sorted (n := nn) (os := os) (zs := m) hg (by omega)
    refine ⟨rfl, ⟨some ⟨g, 0, none⟩, cap, by rw [← hlm, hln], fun _ => ⟨g, cs', rfl, hB, h1, h2⟩, by omega⟩, ⟨rfl, rfl, rfl, ?_, fun k hk => ?_⟩⟩
    · simp
    · exact row_other (Nat.lt_of_lt_of_le hk (Nat.le_of_lt (Nat.lt_of_le_of_lt hB (heap_lt hg)))) (by omega)
set_option maxRecDepth 100000 in
set_option maxHeartbeats 4000000 in
theorem addrs33 {w : World} {H mb : Nat} {t : Ts} {bk gk : Int → Nat} {O : Nat → Prop} (hok : Ok t) (k : Bool) (hT : Tab w H mb t bk gk O) : Calls Tryz.prog 16 #[.pointer (some ⟨H, 0, none⟩), .bool k] w fun e w' => ∃ A cap, e = .returned (.slice A (addrsT t k).length cap) ∧ Own .i64 w' w.heap.size A 3 (addrsT t k) ∧ (addrsT t k).length ≤ cap ∧ Below w.heap.size w w' := by
  obtain ⟨i0, hi0, hz0, hz1, hz2⟩ := info_parts int_info
  obtain ⟨c0, c1, c2, c3, c4⟩ := hT.c.cell
  have hmb := hT.c.lt mb hT.c.om
  go_enter Tryz.func16, Tryz.ntmps16
  go_wp2_with (first
    | (go_at_call 17; refine (none32 _ H mb c4).mono ?_; rintro e w1 ⟨rfl, hw⟩; rw [hw]; clear hw w1)
    | (at_range; refine wpList_range_own _ rfl _ 34 rfl 3 63 int_law Tryz.underlying34 Rp mb 1000 _ rfl hT.own ?_; intro w2 hrg2 hg2 hs2)
    | go_in)
  try go_frame
  go_loopw [4, 5, 6] (fun v _ _ wr => ∃ (left : Lit → Bool) (cnt : Nat) (ys : List Int), wr.ranges Tryz.prog 3 Rp mb w.heap.size 1000 (.map (encE bk t.es)) left cnt ∧ Acc .i64 wr (w.heap.size + 1) 3 1 v ys.length ys ∧ ys.Perm (seenA t k left) ∧ Below w.heap.size w wr ∧ w.heap.size < wr.heap.size)
    (fun _ _ _ wr => wr.rangeLeft mb w.heap.size)
  case atStart => exact ⟨_, _, [], hrg2, Acc.nil _ _ _ _ _, by rw [seen_start], ⟨hg2.os, hg2.tape, hg2.output, hg2.size, fun k hk => hg2.block k hk (by simp)⟩, by omega⟩
  case round =>
    obtain ⟨left, cnt, ys, hrg, hacc, hperm, hbl, hsr⟩ := hrel
    go_wp2_with (first
      | (at_next; refine wpList_next_ranges _ rfl _ rfl 3 int_law Rp (Value.int .i64) (fun b : Nat => Value.pointer (some ⟨b, 0, none⟩)) (fun key kl hkey => by obtain ⟨x, rfl, _⟩ := keyOf_int_inv Tryz.underlying3 hkey; exact ⟨x, rfl⟩) (fun v y hv => by obtain ⟨b, rfl, _⟩ := Rp_inv hv; exact ⟨b, rfl⟩) mb w.heap.size 1000 _ _ _ rfl hrg ?_ ?_)
      | go_in)
    · intro _ hl0
      rw [seen_end hl0] at hperm
      have hm : (addrsT t k).Pairwise (· < ·) := Asc.keys (hok.asc.filter _)
      have hlen : ys.length ≤ 1000 := by have := hperm.length_eq; have := List.length_filter_le (fun p : Int × Tk => p.2.kn == k) t.es; have := hok.len; unfold addrsT at *; rw [List.length_map] at *; omega
      go_wp2_with (first
        | (go_at_call 32; refine (sort52 hacc hperm hm hlen).mono ?_; rintro e w3 ⟨rfl, ⟨A, cap, rfl, hown, hcap⟩, hb3⟩)
        | go_in)
      go_ret
      exact ⟨A, cap, rfl, fun h => by
        obtain ⟨g, cs, e1, e2, e3⟩ := hown h
        exact ⟨g, cs, e1, by omega, e3⟩, hcap, hbl.trans (hb3.mono (by omega))⟩
    · intro x c kl y yp w3 cnt3 hkey hlk hR hat hrg3 hlt hg3 hs3 hen
      obtain ⟨x', hx1, rfl, hxw⟩ := keyOf_int_inv Tryz.underlying3 hkey
      obtain rfl : x = x' := by injection hx1
      obtain rfl : y = .lit (.int .i64 c) := by have := hR; simp [Rp] at this; exact this.1.symm
      obtain ⟨q, hq, hqx⟩ := enc_found hat
      obtain ⟨qa, e⟩ := q
      obtain rfl : qa = x := hqx
      have hbk : c = bk qa := by
        have := enc_at (bk := bk) (x := qa) (es := t.es) (z := .lit (.int .i64 0)) ⟨_, hq, rfl⟩
        rw [hat] at this
        simp at this
        omega
      subst hbk
      have hOb := hT.c.lt _ (hT.c.ob _ hq).1
      have hbl3 : Below w.heap.size w w3 := hbl.grown hg3 (Nat.le_of_lt hsr) (fun j hj => by cases hj; exact Nat.le_refl _)
      obtain ⟨off, cap0, cur, hb, _⟩ := hT.c.ent _ hq
      have f0 : w3.cell? ⟨bk qa, 0, none⟩ = some (.bool e.kn) := cellOf ((hbl3.block _ hOb).trans hb)
      have hacc3 : Acc .i64 w3 (w.heap.size + 1) 3 1 u4 ys.length ys := by
        obtain ⟨h1, h2⟩ := hacc
        refine ⟨h1, ?_⟩
        rcases h2 with h2 | ⟨g, cap, cur, h2, h3, h4, h5⟩
        · exact .inl h2
        · exact .inr ⟨g, cap, cur, h2, h3, (hg3.block _ (heap_lt h4) (fun e => by have := Option.some.inj e; omega)).trans h4, h5⟩
      have hse := seen_step hok.asc (k := k) hq hlk
      have hlen : ys.length ≤ 1000 := by have := hperm.length_eq; have := seen_len t k left; have := hok.len; omega
      have hs3' : w.heap.size < w3.heap.size := by omega
      clear hs3
      cases hkk : (e.kn == k) with
      | true =>
        rw [hkk] at hse
        have hkq : e.kn = k := by simpa using hkk
        rw [hkq] at f0
        clear hkk hkq
        go_wp2_with (first
          | (at_builtin; refine wpList_app rfl _ _ 31 rfl .i64 (w.heap.size + 1) 3 i0 _ 1 8 Tryz.underlying31 hi0 hz0 hz1 hz2 rfl (by decide) _ _ _ [qa] rfl hacc3 _ rfl rfl rfl (by omega) (by decide) (by omega) ?_; intro v' w4 hacc4 hb4)
          | go_in)
        have hrg4 := ranges_kept hrg3 (hb4.block mb (by omega)) (hb4.block _ (Nat.lt_succ_self _))
        have hs4 := hb4.size
        refine ⟨⟨_, cnt3, ys ++ [qa], hrg4, by rw [List.length_append]; exact hacc4, ?_, hbl3.trans (hb4.mono (Nat.le_succ _)), by omega⟩, by rw [hrg4.left_eq, hrg.left_eq]; exact hlt⟩
        exact (List.perm_append_comm.trans (List.Perm.append_left [qa] hperm)).trans hse.symm
      | false =>
        rw [hkk] at hse
        go_wp2_with fail
        exact ⟨⟨_, cnt3, ys, hrg3, hacc3, hperm.trans hse.symm, hbl3, hs3'⟩, by rw [hrg3.left_eq, hrg.left_eq]; exact hlt⟩
theorem known15 {w : World} {H mb : Nat} {t : Ts} {bk gk : Int → Nat} {O : Nat → Prop} (hok : Ok t) (hT : Tab w H mb t bk gk O) : Calls Tryz.prog 7 #[.pointer (some ⟨H, 0, none⟩)] w fun e w' => ∃ A cap, e = .returned (.slice A (addrsT t true).length cap) ∧ Own .i64 w' w.heap.size A 3 (addrsT t true) ∧ (addrsT t true).length ≤ cap ∧ Below w.heap.size w w' := by
  go_enter Tryz.func7, Tryz.ntmps7
  go_wp2_with (first | (go_at_call 16; refine (addrs33 hok true hT).mono ?_; rintro e w1 ⟨A, cap, rfl, h1, h2, h3⟩) | go_in)
  go_ret
  exact ⟨A, cap, rfl, h1, h2, h3⟩
theorem pend16 {w : World} {H mb : Nat} {t : Ts} {bk gk : Int → Nat} {O : Nat → Prop} (hok : Ok t) (hT : Tab w H mb t bk gk O) : Calls Tryz.prog 10 #[.pointer (some ⟨H, 0, none⟩)] w fun e w' => ∃ A cap, e = .returned (.slice A (addrsT t false).length cap) ∧ Own .i64 w' w.heap.size A 3 (addrsT t false) ∧ (addrsT t false).length ≤ cap ∧ Below w.heap.size w w' := by
  go_enter Tryz.func10, Tryz.ntmps10
  go_wp2_with (first | (go_at_call 16; refine (addrs33 hok false hT).mono ?_; rintro e w1 ⟨A, cap, rfl, h1, h2, h3⟩) | go_in)
  go_ret
  exact ⟨A, cap, rfl, h1, h2, h3⟩
end Go.Proofs.YtkikokldijccnaaGreatDoor
