/- Replies of package whisper. -/
import Derived.Test.YtlbchidgadcmpaaRows
import Derived.WalkKit
import Derived.WalkLawsBesides
import Derived.WalkSpells
import Derived.ProofKit
import Derived.Below
import Derived.Outline
import Derived.Lib.Hide
import Derived.Deep.RegionWith
import Derived.Deep.RegionHeld3
import Derived.Deep.DrawnRows
import Derived.StillTailTactics
import Derived.BigQuiet
import Derived.Deep.QuietTactic
import Derived.Deep.LoopGhost
import Derived.IntWalk
import Derived.Test.YtlbchidgadcmpaaWhA
namespace Go.Proofs.Ytlbchidgadcmpaa
open Go.RowKit
attribute [local go_sem ↓] Go.wp_at_zero Go.wp_at_succ
attribute [local go_sem] wrap_lit
theorem R_info : (Try.prog.info? 23).map (fun i => (i.zero, i.size, i.bytes)) = some (some (.slice none 0 0), 1, 24) := by kernel_rfl

/-- v is a slice of the numbers xs, whole in a block of its own from B on, not g. -/
def RowAt (w : World) (B g : Nat) (v : Value) (xs : List Int) : Prop := ∃ A C, v = .slice A xs.length C ∧ (0 < xs.length → ∃ gr cs, A = some ⟨gr, 0, none⟩ ∧ B ≤ gr ∧ gr ≠ g ∧ w.heap[gr]? = some (.cells cs 3 (0, 0)) ∧ ∀ j, j < xs.length → cs[j]? = some (.int .i64 (nth xs j)))
/-- Block g holds the headers of n rows, of which row r reads as f r. -/
def HdAt (w : World) (B g n : Nat) (cs : Array Value) (k : Nat) (f : Nat → List Int) : Prop := cs.size = n ∧ B ≤ g ∧ w.heap[g]? = some (.cells cs 23 (0, 0)) ∧ ∀ r, r < k → ∃ v, cs[r]? = some v ∧ RowAt w B g v (f r)
def ROw (w : World) (B : Nat) (A : Option Addr) (rows : List (List Int)) : Prop := 0 < rows.length → ∃ g cs, A = some ⟨g, 0, none⟩ ∧ HdAt w B g rows.length cs rows.length (row rows)
theorem RowAt.keep {w w1 : World} {B g : Nat} {v : Value} {xs : List Int} (h : RowAt w B g v xs) (hk : ∀ b, b ≠ g → b < w.heap.size → w1.heap[b]? = w.heap[b]?) : RowAt w1 B g v xs := by
  obtain ⟨A, C, e, h⟩ := h
  refine ⟨A, C, e, fun hn => ?_⟩
  obtain ⟨gr, cs, e1, e2, e3, e4, e5⟩ := h hn
  exact ⟨gr, cs, e1, e2, e3, (hk gr e3 (heap_lt e4)).trans e4, e5⟩
theorem RowAt.is {w : World} {B g : Nat} {v : Value} {xs : List Int} (h : RowAt w B g v xs) : ∃ A C, v = .slice A xs.length C ∧ Is .i64 w w.heap.size A xs := by
  obtain ⟨A, C, e, h⟩ := h
  refine ⟨A, C, e, fun hn => ?_⟩
  obtain ⟨gr, cs, e1, e2, e3, e4, e5⟩ := h hn
  exact ⟨gr, 0, e1, heap_lt e4, fun j hj => by simp [World.cell?, e4, e5 j hj]⟩
theorem ROw.ris {w : World} {B : Nat} {A : Option Addr} {rows : List (List Int)} (h : ROw w B A rows) : RIs .i64 w w.heap.size A rows := fun hn => by
  obtain ⟨g, cs, e, hs, hB, hh, hr⟩ := h hn
  refine ⟨g, 0, e, heap_lt hh, fun r hlt => ?_⟩
  obtain ⟨v, h1, h2⟩ := hr r hlt
  obtain ⟨A', C', e2, h3⟩ := h2.is
  exact ⟨A', C', by rw [Nat.zero_add]; simp [World.cell?, hh, h1, e2], h3⟩
theorem ROw.nil {w : World} {B : Nat} {A : Option Addr} : ROw w B A [] := fun h => by simp at h
theorem ROw.below {w w1 : World} {B : Nat} {A : Option Addr} {rows : List (List Int)} (h : ROw w B A rows) (hb : Below w.heap.size w w1) : ROw w1 B A rows := fun hn => by
  obtain ⟨g, cs, e, hs, hB, hh, hr⟩ := h hn
  refine ⟨g, cs, e, hs, hB, (hb.block g (heap_lt hh)).trans hh, fun r hlt => ?_⟩
  obtain ⟨v, h1, h2⟩ := hr r hlt
  exact ⟨v, h1, h2.keep fun b _ hlt => hb.block b hlt⟩
def RpP (w : World) (E : Int) (rows : List (List Int)) (e : Ending) (w' : World) : Prop := ∃ A C, e = .returned (.tuple #[.slice A rows.length C, .int .i64 E]) ∧ ROw w' w.heap.size A rows ∧ Below w.heap.size w w'
theorem Acc.rowAt {w : World} {base B g : Nat} {v : Value} {ys : List Int} (h : Acc .i64 w base 3 1 v ys.length ys) (hB : B ≤ base) (hg : g < base) : RowAt w B g v ys := by
  obtain ⟨A, C, e, ho⟩ := h.own
  refine ⟨A, C, e, fun hn => ?_⟩
  obtain ⟨gr, cs, e1, e2, e3, e4⟩ := ho hn
  exact ⟨gr, cs, e1, by omega, by omega, e3, e4⟩
/-- What the inner loop keeps. -/
def RpI (w X : World) (g n i : Nat) (cs0 : Array Value) (base : Nat) (ys : List Int) (wx : World) : Prop := ∃ cs v, cs.size = n ∧ wx.heap[g]? = some (.cells cs 23 (0, 0)) ∧ cs[i]? = some v ∧ (∀ r, r ≠ i → cs[r]? = cs0[r]?) ∧ Acc .i64 wx base 3 1 v ys.length ys ∧ (∀ b, b < base → b ≠ g → wx.heap[b]? = X.heap[b]?) ∧ base ≤ wx.heap.size ∧ Below w.heap.size w wx
theorem Acc.setG {w : World} {base g i : Nat} {v : Value} {n : Nat} {ys : List Int} (h : Acc .i64 w base 3 1 v n ys) (hg : g < base) (u : Value) : Acc .i64 (w.setCell ⟨g, i, none⟩ u) base 3 1 v n ys := h.setCell (p := ⟨g, i, none⟩) hg u
theorem RpI.step {w X wx w5 : World} {g n i base : Nat} {cs0 : Array Value} {ys ys' : List Int} {v' : Value} (h : RpI w X g n i cs0 base ys wx) (hi : i < n) (hg : g < base) (hB : w.heap.size ≤ g) (ha : Acc .i64 w5 base 3 1 v' ys'.length ys') (hb : Below base wx w5) : RpI w X g n i cs0 base ys' (w5.setCell ⟨g, i, none⟩ v') := by
  obtain ⟨cs, v, h1, h2, h3, h4, h5, h6, h7, h8⟩ := h
  have q := (hb.block g hg).trans h2
  refine ⟨cs.setIfInBounds i v', v', by simp [h1], setH q, ?_, fun r hr => ?_, ha.setG hg _, fun b hlt hne => ?_, ?_, ?_⟩
  · rw [Array.getElem?_setIfInBounds, if_pos rfl, if_pos (by omega)]
  · rw [Array.getElem?_setIfInBounds, if_neg (Ne.symm hr)]; exact h4 r hr
  · exact ((Below.heap_setCell _ _ _ _ hne).trans (hb.block b hlt)).trans (h6 b hlt hne)
  · have := hb.size
    simp [World.setCell]; omega
  · exact (h8.trans (hb.mono (by omega))).setCell (p := ⟨g, i, none⟩) hB _
theorem RpI.cell {w X wx w5 : World} {g n i base : Nat} {cs0 : Array Value} {ys : List Int} (h : RpI w X g n i cs0 base ys wx) (hb : Below base wx w5) (hg : g < base) : ∃ v, w5.cell? ⟨g, i, none⟩ = some v ∧ w5.frozen? ⟨g, i, none⟩ = false ∧ Acc .i64 wx base 3 1 v ys.length ys := by
  obtain ⟨cs, v, h1, h2, h3, h4, h5, h6, h7, h8⟩ := h
  have q := (hb.block g hg).trans h2
  exact ⟨v, by simp [World.cell?, q, h3], by simp [World.frozen?, q], h5⟩
theorem RpI.done {w X wx wr : World} {g n k base : Nat} {cs0 : Array Value} {ys : List Int} {f : Nat → List Int} (h : RpI w X g n k cs0 base ys wx) (hd : HdAt wr w.heap.size g n cs0 k f) (hX : Below wr.heap.size wr X) (hb : wr.heap.size ≤ base) (hgb : g < base) (hB : w.heap.size ≤ base) (hf : f k = ys) (hnil : ∀ r, k ≤ r → r < n → cs0[r]? = some (.slice none 0 0)) :
    ∃ cs', HdAt wx w.heap.size g n cs' (k + 1) f ∧ (∀ r, k + 1 ≤ r → r < n → cs'[r]? = some (.slice none 0 0)) ∧ Below w.heap.size w wx := by
  obtain ⟨cs, v, h1, h2, h3, h4, h5, h6, h7, h8⟩ := h
  obtain ⟨d1, d2, d3, d4⟩ := hd
  refine ⟨cs, ⟨h1, d2, h2, fun r hr => ?_⟩, fun r hr hn => by rw [h4 r (by omega)]; exact hnil r (by omega) hn, h8⟩
  rcases Nat.lt_or_ge r k with e | e
  · obtain ⟨u, e1, e2⟩ := d4 r e
    exact ⟨u, (h4 r (by omega)).trans e1, e2.keep fun b hne hlt => (h6 b (by omega) hne).trans (hX.block b hlt)⟩
  · obtain rfl : r = k := by omega
    exact ⟨v, h3, by rw [hf]; exact Acc.rowAt h5 hB hgb⟩
theorem rows_made (n j : Nat) (h : j < n) : (madeCells #[Value.slice none 0 0] n)[j]? = some (.slice none 0 0) := by
  simp [madeCells, h, Nat.mod_one]
set_option maxHeartbeats 2000000 in
theorem rep13a (A A' : Option Addr) (cap cap' : Nat) (st : List (Int × Int)) (xs : List Int) (B : Nat) (w : World) (hB : B ≤ w.heap.size) (hA : Is .i64 w B A (flatS st)) (hA' : Is .i64 w B A' xs) (hl : st.length ≤ 1000000) (hl' : xs.length ≤ 1000000) (h0 : ¬ rpE st xs = 0) :
    Calls Try.prog 13 #[.slice A st.length cap, .slice A' xs.length cap'] w (RpP w (rpE st xs) (rpL st xs)) := by
  rw [rpL_bad h0]
  have C1 := Lib.hid (check19 A cap st B w hB hA hl)
  have C2 := Lib.hid (fun W (h : Below w.heap.size w W) => sens30 A' cap' xs B W (hA'.below (h.mono hB)) hl')
  by_cases h1 : ckT st = 0
  · have h2 : ¬ ckN xs = 0 := fun g => h0 (rpE_ok.2 ⟨h1, g⟩)
    have e : rpE st xs = ckN xs := by unfold rpE; rw [if_pos h1]
    rw [e]
    have b1 : (ckT st != 0) = false := by simp [h1]
    have b2 : (ckN xs != 0) = true := by simp [h2]
    clear hA hA' h0 h1 h2 e
    go_enter Try.func13, Try.ntmps13
    go_wp2_with fail
    refine C1.out.mono ?_
    rintro e w1 ⟨rfl, hb1⟩
    have HB := Lib.hid hb1
    clear hb1
    go_wp2_with fail
    refine (C2.out _ HB.out).mono ?_
    rintro e w2 ⟨rfl, rfl⟩
    go_wp2_with fail
    go_ret2
    exact ⟨none, 0, rfl, ROw.nil, HB.out⟩
  · have e : rpE st xs = ckT st := by unfold rpE; rw [if_neg h1]
    rw [e]
    have b1 : (ckT st != 0) = true := by simp [h1]
    clear hA hA' h0 h1 e
    go_enter Try.func13, Try.ntmps13
    go_wp2_with fail
    refine C1.out.mono ?_
    rintro e w1 ⟨rfl, hb1⟩
    have HB := Lib.hid hb1
    clear hb1
    go_wp2_with fail
    go_ret2
    exact ⟨none, 0, rfl, ROw.nil, HB.out⟩
set_option maxHeartbeats 4000000 in
theorem rep13b (A A' : Option Addr) (cap cap' : Nat) (st : List (Int × Int)) (xs : List Int) (B : Nat) (w : World) (hB : B ≤ w.heap.size) (hA : Is .i64 w B A (flatS st)) (hA' : Is .i64 w B A' xs) (hl : st.length ≤ 1000000) (hl' : xs.length ≤ 1000000) (h0 : rpE st xs = 0) :
    Calls Try.prog 13 #[.slice A st.length cap, .slice A' xs.length cap'] w (RpP w (rpE st xs) (rpL st xs)) := by
  rw [rpL_ok h0, h0]
  obtain ⟨h1, h2⟩ := rpE_ok.1 h0
  obtain ⟨⟨n0, n32⟩, hok⟩ := ckT_ok.1 h1
  obtain ⟨m64, mok⟩ := ckN_ok.1 h2
  have C1 := check19 A cap st B w hB hA hl
  have C2 := Lib.hid (fun W (h : Below w.heap.size w W) => sens30 A' cap' xs B W (hA'.below (h.mono hB)) hl')
  rw [h1] at C1
  rw [h2] at C2
  have C1 := Lib.hid C1
  have HA := Lib.hid hA
  have HA' := Lib.hid hA'
  have HS := Lib.hid hok
  have HN := Lib.hid mok
  obtain ⟨i0, hi0, hz0, hz1, hz2⟩ := info_parts int_info
  obtain ⟨i1, hj0, hy0, hy1, hy2⟩ := info_parts R_info
  have hmk : ∀ W : World, (Instr.makeSlice 28 (.int .i64 (st.length : Int)) (.int .i64 (st.length : Int))).run Try.prog W = .ok (.slice (some ⟨W.heap.size, 0, none⟩) st.length st.length) (W.alloc (.cells (madeCells #[.slice none 0 0] st.length) 23)) := fun W => by
    have h := run_makeN (P := Try.prog) 28 23 i1 _ Try.underlying28 hj0 hy0 st.length (by omega) (by omega) W
    rw [hy1, Nat.mul_one] at h
    simpa [Value.cells] using h
  clear hA hA' h0 h1 h2 hok mok hj0 hy0 hy1 hy2
  go_enter Try.func13, Try.ntmps13
  go_wp2_with fail
  refine C1.out.mono ?_
  rintro e w1 ⟨rfl, hb1⟩
  have HB1 := Lib.hid hb1
  have s1 := hb1.size
  clear hb1
  go_wp2_with fail
  refine (C2.out _ HB1.out).mono ?_
  rintro e w2 ⟨rfl, rfl⟩
  go_wp2_with fail
  clear hmk C1 C2
  obtain ⟨g, hg⟩ : ∃ g, g = w1.heap.size := ⟨_, rfl⟩
  rw [← hg]
  have hB0 : w.heap.size ≤ g := by omega
  have I0 : HdAt (w1.alloc (.cells (madeCells #[.slice none 0 0] st.length) 23)) w.heap.size g st.length (madeCells #[.slice none 0 0] st.length) 0 (fun r => rp xs (stl st r) (sth st r) xs.length) :=
    ⟨by simp [size_madeCells], hB0, by rw [hg]; exact heap_alloc_new w1 _, fun r h => absurd h (by omega)⟩
  have N0 : ∀ r, 0 ≤ r → r < st.length → (madeCells #[Value.slice none 0 0] st.length)[r]? = some (.slice none 0 0) := fun r _ h => rows_made _ r h
  have HI := Lib.hid (show ∃ cs, HdAt (w1.alloc (.cells (madeCells #[.slice none 0 0] st.length) 23)) w.heap.size g st.length cs 0 (fun r => rp xs (stl st r) (sth st r) xs.length) ∧ (∀ r, 0 ≤ r → r < st.length → cs[r]? = some (.slice none 0 0)) ∧ Below w.heap.size w (w1.alloc (.cells (madeCells #[.slice none 0 0] st.length) 23)) from ⟨_, I0, N0, HB1.out.alloc s1 _⟩)
  clear I0 N0 hg
  go_loopw [28] (fun i wr => ∃ k : Nat, k ≤ st.length ∧ i = .int .i64 k ∧ ∃ cs, HdAt wr w.heap.size g st.length cs k (fun r => rp xs (stl st r) (sth st r) xs.length) ∧ (∀ r, k ≤ r → r < st.length → cs[r]? = some (.slice none 0 0)) ∧ Below w.heap.size w wr) (fun i _ => st.length - (intOf i).toNat)
  case atStart => exact ⟨0, Nat.zero_le _, rfl, HI.out⟩
  case round =>
    clear HI
    obtain ⟨k, hk, rfl, cs, hd, hnil, hb⟩ := hrel
    have HD := Lib.hid hd
    have HNil := Lib.hid hnil
    have HB := Lib.hid hb
    have sB := hb.size
    have hgs : g < wr.heap.size := heap_lt hd.2.2.1
    clear hd hnil hb
    by_cases hlt : k < st.length
    · obtain ⟨b, off, rfl, hbb, c1, c2⟩ := step_at (HA.out.below (HB.out.mono hB)) hlt
      have hkI : (k : Int) < (st.length : Int) := by omega
      have hk0 : (0 : Int) ≤ (k : Int) := by omega
      obtain ⟨l, hll⟩ : ∃ l, l = stl st k := ⟨_, rfl⟩
      obtain ⟨h, hhh⟩ : ∃ h, h = sth st k := ⟨_, rfl⟩
      rw [← hll] at c1
      rw [← hhh] at c2
      have HL := Lib.hid (And.intro hll hhh)
      clear hll hhh
      go_wp2_with fail
      obtain ⟨X, hX⟩ : ∃ X, X = wr.alloc (.cells #[.int .i64 l, .int .i64 h] 44) := ⟨_, rfl⟩
      have BX : Below wr.heap.size wr X := by rw [hX]; exact (Below.refl _ _).alloc (Nat.le_refl _) _
      have xH : X.heap[wr.heap.size]? = some (.cells #[.int .i64 l, .int .i64 h] 44 (0, 0)) := by rw [hX]; exact heap_alloc_new wr _
      have zX : X.heap.size = wr.heap.size + 1 := by rw [hX]; simp
      rw [← hX]
      obtain ⟨p, hp⟩ : ∃ p, p = wr.heap.size := ⟨_, rfl⟩
      have HDone := Lib.hid (fun (wx : World) ys (hI : RpI w X g st.length k cs X.heap.size ys wx) (hf : rp xs (stl st k) (sth st k) xs.length = ys) => hI.done HD.out BX (by omega) (by omega) (by omega) hf HNil.out)
      have hgX : g < X.heap.size := by omega
      rw [← hp] at xH zX ⊢
      have hpX : p < X.heap.size := by omega
      have hgp : g < p := by omega
      clear hp zX
      have HII := Lib.hid (show RpI w X g st.length k cs X.heap.size [] X from ⟨cs, .slice none 0 0, HD.out.1, (BX.block g hgs).trans HD.out.2.2.1, HNil.out k (Nat.le_refl _) hlt, fun _ _ => rfl, Acc.nil _ _ _ _ _, fun _ _ _ => rfl, Nat.le_refl _, HB.out.trans (BX.mono sB)⟩)
      have HBX := Lib.hid BX
      have HXH := Lib.hid xH
      clear hX c1 c2 BX xH
      go_loopw [35] (fun i wx => ∃ q : Nat, q ≤ xs.length ∧ i = .int .i64 q ∧ RpI w X g st.length k cs X.heap.size (rp xs l h q) wx) (fun i _ => xs.length - (intOf i).toNat)
      case atStart => exact ⟨0, Nat.zero_le _, rfl, HII.out⟩
      case round =>
        clear HII
        obtain ⟨q, hq, rfl, hI⟩ := hrel
        have HI := Lib.hid hI
        obtain ⟨_, _, _, _, _, _, _, hold, hbs, hbw⟩ := hI
        have HBW := Lib.hid hbw
        by_cases hqlt : q < xs.length
        · obtain ⟨b', off', rfl, hbb', hc'⟩ := (HA'.out.below (hbw.mono hB)) (by omega)
          have c5 := hc' q hqlt
          have ph := (hold p (by omega) (by omega)).trans HXH.out
          have p1 : wr.cell? ⟨p, 0, none⟩ = some (.int .i64 l) := by simp [World.cell?, ph]
          have p2 : wr.cell? ⟨p, 1, none⟩ = some (.int .i64 h) := by simp [World.cell?, ph]
          obtain ⟨s, hs⟩ : ∃ s, s = nth xs q := ⟨_, rfl⟩
          rw [← hs] at c5
          have HSS := Lib.hid hs
          obtain ⟨v, r1, r2, ha⟩ := HI.out.cell (Below.refl _ _) hgX
          obtain ⟨A5, C5, rfl, -⟩ := ha.own
          have HAcc := Lib.hid ha
          have hrl := rp_len xs l h q
          have hqI : (q : Int) < (xs.length : Int) := by omega
          have hq0 : (0 : Int) ≤ (q : Int) := by omega
          have hgr : g < wr.heap.size := by omega
          clear hold hbw hc' ph hs ha
          by_cases g1 : l < s
          · by_cases g2 : s ≤ h
            · have hst := Lib.hid (show rp xs l h (q + 1) = rp xs l h q ++ [(q : Int)] by rw [rp, if_pos (by rw [← HSS.out]; exact ⟨g1, g2⟩)])
              go_wp2_with (at_builtin; refine wpList_app rfl _ _ 23 rfl .i64 X.heap.size 3 i0 _ 1 8 Try.underlying23 hi0 hz0 hz1 hz2 rfl (by decide) _ _ _ [(q : Int)] rfl HAcc.out _ rfl rfl rfl (by omega) (by decide) hbs ?_; intro v' w5 hown5 hb5; obtain ⟨v9, r3, r4, -⟩ := HI.out.cell hb5 hgX; obtain ⟨A9, C9, rfl, -⟩ := hown5.own)
              exact ⟨⟨q + 1, by omega, by go_num, by rw [hst.out]; exact HI.out.step hlt hgX hB0 (by rw [List.length_append]; exact hown5) hb5⟩, by simp [intOf]; omega⟩
            · have hst := Lib.hid (show rp xs l h (q + 1) = rp xs l h q by rw [rp, if_neg (by rw [← HSS.out]; exact fun e => g2 e.2)])
              go_wp2_with fail
              exact ⟨⟨q + 1, by omega, by go_num, by rw [hst.out]; exact HI.out⟩, by simp [intOf]; omega⟩
          · have hst := Lib.hid (show rp xs l h (q + 1) = rp xs l h q by rw [rp, if_neg (by rw [← HSS.out]; exact fun e => g1 e.1)])
            go_wp2_with fail
            exact ⟨⟨q + 1, by omega, by go_num, by rw [hst.out]; exact HI.out⟩, by simp [intOf]; omega⟩
        · obtain rfl : q = xs.length := by omega
          have hdone := Lib.hid (HDone.out _ _ HI.out (by rw [← HL.out.1, ← HL.out.2]))
          clear hold hbw
          go_wp2_with fail
          exact ⟨⟨k + 1, by omega, by go_num, hdone.out⟩, by simp [intOf]; omega⟩
    · obtain rfl : k = st.length := by omega
      go_wp2_with fail
      go_ret2
      obtain ⟨d1, d2, d3, d4⟩ := HD.out
      refine ⟨some ⟨g, 0, none⟩, st.length, by rw [rpR_len]; rfl, fun _ => ⟨g, cs, rfl, ?_, d2, d3, fun r hr => ?_⟩, HB.out⟩
      · rw [rpR_len]; exact d1
      · rw [rpR_len] at hr
        rw [rpR_row hr]
        exact d4 r hr
theorem rep13 (A A' : Option Addr) (cap cap' : Nat) (st : List (Int × Int)) (xs : List Int) (B : Nat) (w : World) (hB : B ≤ w.heap.size) (hA : Is .i64 w B A (flatS st)) (hA' : Is .i64 w B A' xs) (hl : st.length ≤ 1000000) (hl' : xs.length ≤ 1000000) :
    Calls Try.prog 13 #[.slice A st.length cap, .slice A' xs.length cap'] w (RpP w (rpE st xs) (rpL st xs)) := by
  by_cases h0 : rpE st xs = 0
  · exact rep13b A A' cap cap' st xs B w hB hA hA' hl hl' h0
  · exact rep13a A A' cap cap' st xs B w hB hA hA' hl hl' h0
end Go.Proofs.Ytlbchidgadcmpaa
