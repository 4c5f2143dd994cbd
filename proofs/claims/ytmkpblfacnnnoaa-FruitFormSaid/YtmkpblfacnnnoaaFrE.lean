/- The reference of package fruit: the table of the greatest numbers. -/
import Derived.Test.YtmkpblfacnnnoaaFrD
namespace Go.Proofs.Ytmkpblfacnnnoaa
open Go.RowKit
attribute [local go_sem ↓] Go.wp_at_zero Go.wp_at_succ
attribute [local go_sem] wrap_lit

/-- The table's outer block, and its rows behind it. -/
def TbO (w : World) (G la lb : Nat) : Prop := ∀ i, i ≤ la → w.cell? ⟨G, i, none⟩ = some (.slice (some ⟨G + 1 + i, 0, none⟩) (lb + 1) (lb + 1))
def TbR (w : World) (G la lb : Nat) (T : Nat → Nat → Nat) : Prop := ∀ i j, i ≤ la → j ≤ lb → w.cell? ⟨G + 1 + i, j, none⟩ = some (.int .i64 (T i j : Int)) ∧ w.frozen? ⟨G + 1 + i, j, none⟩ = false
def updT (T : Nat → Nat → Nat) (i j v : Nat) : Nat → Nat → Nat := fun x y => if x = i ∧ y = j then v else T x y
theorem TbO.below {w w1 : World} {G la lb B : Nat} (h : TbO w G la lb) (hG : G < B) (hb : Below B w w1) : TbO w1 G la lb := fun i hi => (hb.cell (p := ⟨G, i, none⟩) hG).trans (h i hi)
theorem TbR.below {w w1 : World} {G la lb B : Nat} {T : Nat → Nat → Nat} (h : TbR w G la lb T) (hG : G + 1 + la < B) (hb : Below B w w1) : TbR w1 G la lb T := fun i j hi hj =>
  ⟨(hb.cell (p := ⟨G + 1 + i, j, none⟩) (show G + 1 + i < B by omega)).trans (h i j hi hj).1, (hb.frozen (p := ⟨G + 1 + i, j, none⟩) (show G + 1 + i < B by omega)).trans (h i j hi hj).2⟩
theorem TbO.set {w : World} {G la lb : Nat} (h : TbO w G la lb) {g j : Nat} (hg : G ≠ g) (u : Value) : TbO (w.setCell ⟨g, j, none⟩ u) G la lb := fun i hi => by
  rw [World.cell?_of_block (Below.heap_setCell _ _ _ _ hg)]; exact h i hi
theorem TbR.set {w : World} {G la lb : Nat} {T : Nat → Nat → Nat} (h : TbR w G la lb T) {i j v : Nat} (hi : i ≤ la) (hj : j ≤ lb) : TbR (w.setCell ⟨G + 1 + i, j, none⟩ (.int .i64 (v : Int))) G la lb (updT T i j v) := fun x y hx hy => by
  refine ⟨?_, by rw [World.frozen?_setCell]; exact (h x y hx hy).2⟩
  unfold updT
  by_cases e : x = i ∧ y = j
  · rw [if_pos e, e.1, e.2]
    exact World.cell?_setCell_same' _ _ _ (by rw [(h i j hi hj).1]; rfl)
  · rw [if_neg e]
    by_cases ex : x = i
    · have ey : y ≠ j := fun g => e ⟨ex, g⟩
      subst ex
      exact (World.cell?_setCell_other _ _ _ _ (fun g => ey (by cases g; rfl))).trans (h x y hx hy).1
    · rw [World.cell?_of_block (Below.heap_setCell _ _ _ _ (show G + 1 + x ≠ G + 1 + i by omega))]
      exact (h x y hx hy).1
theorem nth_zero (n j : Nat) : nth (List.replicate n 0) j = 0 := by
  unfold nth; rw [List.getD_eq_getElem?_getD, List.getElem?_replicate]; split <;> rfl
theorem setH {w : World} {g : Nat} {cs : Array Value} {T : TypeId} {i : Nat} {a : Value} (h : w.heap[g]? = some (.cells cs T (0, 0))) :
    (w.setCell ⟨g, i, none⟩ a).heap[g]? = some (.cells (cs.setIfInBounds i a) T (0, 0)) := by
  simp [World.setCell, Array.getElem?_modify, h]
theorem made_at (n j : Nat) (h : j < n) : (madeCells #[Value.int .i64 0] n)[j]? = some (.int .i64 0) := by
  simp [madeCells, h, Nat.mod_one]
theorem Mo_64 (u : Int) (a b : List Int) (ha : okTo a a.length = true) (hb : okTo b b.length = true) (hl : a.length ≤ 64) (i j : Nat) : Mo u a b i j ≤ 64 := by
  have := gr_len (w := u) ha hb _ i j (Nat.le_refl _)
  have := (gr_le u a b _ i j (Nat.le_refl _)).1
  omega
theorem nr_dec {x y w : Int} : (nrB x y w = true) ↔ (x - y ≤ w ∧ y - x ≤ w) := by unfold nrB; simp
theorem TbR.congr {w : World} {G la lb : Nat} {T T' : Nat → Nat → Nat} (h : TbR w G la lb T) (e : ∀ i j, i ≤ la → j ≤ lb → T i j = T' i j) : TbR w G la lb T' := fun i j hi hj => by rw [← e i j hi hj]; exact h i j hi hj
/-- What is done of the table when the rows from i on are. -/
def Dn (u : Int) (a b : List Int) (T : Nat → Nat → Nat) (P : Nat → Nat → Prop) : Prop := ∀ i j, i ≤ a.length → j ≤ b.length → (P i j ∨ i = a.length ∨ j = b.length) → T i j = Mo u a b i j
theorem Dn.skip {u : Int} {a b : List Int} {T : Nat → Nat → Nat} {n m v : Nat} (h : Dn u a b T (fun x y => n < x ∨ x = n ∧ m + 1 ≤ y)) (hn : n < a.length) (hm : m < b.length) : Dn u a b (updT T n m v) (fun x y => n < x ∨ x = n ∧ m + 1 ≤ y) := fun i j hi hj hp => by
  unfold updT
  rw [if_neg (by omega)]
  exact h i j hi hj hp
theorem Dn.step {u : Int} {a b : List Int} {T : Nat → Nat → Nat} {n m v : Nat} (h : Dn u a b T (fun x y => n < x ∨ x = n ∧ m + 1 ≤ y)) (_hn : n < a.length) (_hm : m < b.length) (hv : v = Mo u a b n m) : Dn u a b (updT T n m v) (fun x y => n < x ∨ x = n ∧ m ≤ y) := fun i j hi hj hp => by
  unfold updT
  by_cases e : i = n ∧ j = m
  · rw [if_pos e, e.1, e.2]; exact hv
  · rw [if_neg e]
    exact h i j hi hj (by omega)

theorem R_info : (Try.prog.info? 22).map (fun i => (i.zero, i.size, i.bytes)) = some (some (.slice none 0 0), 1, 24) := by kernel_rfl
theorem rest_mk {w : World} {G k la lb : Nat} (hk : k = la + 1) {cs : Array Value} (h1 : w.heap[G]? = some (.cells cs 22 (0, 0))) (h2 : ∀ r, r < k → cs[r]? = some (.slice (some ⟨G + 1 + r, 0, none⟩) (lb + 1) (lb + 1))) (h3 : ∀ r, r < k → w.heap[G + 1 + r]? = some (.cells (madeCells #[.int .i64 0] (lb + 1)) 3 (0, 0))) :
    TbO w G la lb ∧ TbR w G la lb (fun _ _ => 0) := by
  refine ⟨fun i hi => by simp [World.cell?, h1, h2 i (by omega)], fun i j hi hj => ?_⟩
  have hc := made_at (lb + 1) j (by omega)
  simp [World.cell?, World.frozen?, h3 i (by omega), hc]

set_option maxRecDepth 100000 in
set_option maxHeartbeats 8000000 in
theorem most32 (A A' : Option Addr) (cap cap' : Nat) (a b : List Int) (u : Int) (B : Nat) (w : World) (ha : okTo a a.length = true) (hb : okTo b b.length = true) (hla : a.length ≤ 64) (hlb : b.length ≤ 64) (hBw : B ≤ w.heap.size)
    (hA : Is .i64 w B A a) (hA' : Is .i64 w B A' b) :
    Calls Try.prog 32 #[.slice A a.length cap, .slice A' b.length cap', .int .i64 u] w fun e w' => e = .returned (.slice (some ⟨w.heap.size, 0, none⟩) (a.length + 1) (a.length + 1)) ∧ TbO w' w.heap.size a.length b.length ∧ TbR w' w.heap.size a.length b.length (Mo u a b) ∧ Below w.heap.size w w' ∧ w.heap.size + 1 + a.length < w'.heap.size := by
  obtain ⟨i0, hi0, hz0, hz1, hz2⟩ := info_parts R_info
  obtain ⟨i1, hj0, hy0, hy1, hy2⟩ := info_parts int_info
  have hmk : ∀ W : World, (Instr.makeSlice 35 (.int .i64 ((a.length : Int) + 1)) (.int .i64 ((a.length : Int) + 1))).run Try.prog W = .ok (.slice (some ⟨W.heap.size, 0, none⟩) (a.length + 1) (a.length + 1)) (W.alloc (.cells (madeCells #[.slice none 0 0] (a.length + 1)) 22)) := fun W => by
    have h := run_makeN (P := Try.prog) 35 22 i0 _ Try.underlying35 hi0 hz0 (a.length + 1) (by omega) (by omega) W
    rw [hz1, Nat.mul_one] at h
    simpa [Value.cells] using h
  have hmk2 : ∀ W : World, (Instr.makeSlice 22 (.int .i64 ((b.length : Int) + 1)) (.int .i64 ((b.length : Int) + 1))).run Try.prog W = .ok (.slice (some ⟨W.heap.size, 0, none⟩) (b.length + 1) (b.length + 1)) (W.alloc (.cells (madeCells #[.int .i64 0] (b.length + 1)) 3)) := fun W => by
    have h := run_makeN (P := Try.prog) 22 3 i1 _ Try.underlying22 hj0 hy0 (b.length + 1) (by omega) (by omega) W
    rw [hy1, Nat.mul_one] at h
    simpa [Value.cells] using h
  have HA := Lib.hid hA
  have HA' := Lib.hid hA'
  have Hha := Lib.hid ha
  have Hhb := Lib.hid hb
  clear hA hA' ha hb hi0 hz0 hz1 hz2 hj0 hy0 hy1 hy2
  go_enter Try.func32, Try.ntmps32
  go_wp2_with fail
  clear hmk
  obtain ⟨G, hG⟩ : ∃ G, G = w.heap.size := ⟨_, rfl⟩
  have hX : (w.alloc (.cells (madeCells #[.slice none 0 0] (a.length + 1)) 22)).heap[G]? = some (.cells (madeCells #[.slice none 0 0] (a.length + 1)) 22 (0, 0)) := by rw [hG]; exact heap_alloc_new w _
  have hXB : Below G w (w.alloc (.cells (madeCells #[.slice none 0 0] (a.length + 1)) 22)) := by rw [hG]; exact (Below.refl _ _).alloc (Nat.le_refl _) _
  have hXs : (w.alloc (.cells (madeCells #[.slice none 0 0] (a.length + 1)) 22)).heap.size = G + 1 := by simp [hG]
  have hm : madeCells #[Value.slice none 0 0] (a.length + 1) = Array.replicate (a.length + 1) (.slice none 0 0) := by
    apply Array.ext
    · rw [size_madeCells]; try simp
    · intro i h1 h2; simp [madeCells, Nat.mod_one]
  have HG := Lib.hid hG
  rw [← hG] at ⊢
  clear hG
  have hXm := Lib.hid hm
  clear hm
  go_loopw [8] (fun i wr => ∃ (k : Nat) (cs : Array Value), k ≤ a.length + 1 ∧ i = .int .i64 k ∧ cs.size = a.length + 1 ∧ wr.heap[G]? = some (.cells cs 22 (0, 0)) ∧ (∀ r, r < k → cs[r]? = some (.slice (some ⟨G + 1 + r, 0, none⟩) (b.length + 1) (b.length + 1))) ∧
      (∀ r, r < k → wr.heap[G + 1 + r]? = some (.cells (madeCells #[.int .i64 0] (b.length + 1)) 3 (0, 0))) ∧ wr.heap.size = G + 1 + k ∧ Below G w wr) (fun i _ => a.length + 1 - (intOf i).toNat)
  case atStart => exact ⟨0, _, Nat.zero_le _, rfl, by simp [size_madeCells], hX, fun r h => absurd h (by omega), fun r h => absurd h (by omega), hXs, hXB⟩
  case round =>
    obtain ⟨k, cs, hk, rfl, hcs, hg, hr1, hr2, hsz, hB⟩ := hrel
    clear hX hXB hXs
    by_cases hlt : k ≤ a.length
    · have hlI : (k : Int) ≤ (a.length : Int) := by omega
      have hkI : (k : Int) < (a.length : Int) + 1 := by omega
      have hk0 : (0 : Int) ≤ (k : Int) := by omega
      obtain ⟨c0, hc0⟩ : ∃ c0, (wr.alloc (.cells (madeCells #[.int .i64 0] (b.length + 1)) 3)).cell? ⟨G, k, none⟩ = some c0 := by
        refine ⟨cs[k]'(by omega), ?_⟩
        rw [World.cell?_alloc_old _ _ _ (by show G ≠ _; omega)]; simp [World.cell?, hg]
      have hf0 : (wr.alloc (.cells (madeCells #[.int .i64 0] (b.length + 1)) 3)).frozen? ⟨G, k, none⟩ = false := by
        have : (wr.alloc (.cells (madeCells #[.int .i64 0] (b.length + 1)) 3)).heap[G]? = some (.cells cs 22 (0, 0)) := (Below.heap_alloc wr _ G (by omega)).trans hg
        simp [World.frozen?, this]
      have hg' : (wr.alloc (.cells (madeCells #[.int .i64 0] (b.length + 1)) 3)).heap[G]? = some (.cells cs 22 (0, 0)) := (Below.heap_alloc wr _ G (by omega)).trans hg
      have hG1 : wr.heap.size = G + 1 + k := hsz
      have Hcs := Lib.hid hcs
      have Hg := Lib.hid hg'
      have Hgw := Lib.hid hg
      have Hr1 := Lib.hid hr1
      have Hr2 := Lib.hid hr2
      have HB := Lib.hid hB
      have Hsz := Lib.hid hsz
      clear hcs hg hg' hr1 hr2 hB hsz hG1
      go_wp2_with fail
      refine ⟨⟨k + 1, cs.setIfInBounds k (.slice (some ⟨wr.heap.size, 0, none⟩) (b.length + 1) (b.length + 1)), by omega, by go_num, by simp [Hcs.out], setH Hg.out, fun r hr => ?_, fun r hr => ?_, by simp [World.setCell]; have := Hsz.out; omega, (HB.out.alloc (by have := HG.out; have := HB.out.size; omega) _).setCell (p := ⟨G, k, none⟩) (Nat.le_refl _) _⟩, by simp [intOf]; omega⟩
      · have h1 := Hcs.out
        have h2 := Hsz.out
        rw [Array.getElem?_setIfInBounds]
        by_cases e : k = r
        · subst e; rw [if_pos rfl, if_pos (by omega), h2]
        · rw [if_neg e]; exact Hr1.out r (by omega)
      · have h2 := Hsz.out
        rw [Below.heap_setCell _ _ _ _ (show G + 1 + r ≠ G by omega)]
        rcases Nat.lt_or_ge r k with g | g
        · rw [Below.heap_alloc wr _ _ (by omega)]; exact Hr2.out r g
        · obtain rfl : r = k := by omega
          rw [← h2]; exact heap_alloc_new wr _
    · obtain ⟨tO, tR⟩ := rest_mk (G := G) (lb := b.length) (show k = a.length + 1 by omega) hg hr1 hr2
      have HO := Lib.hid tO
      have HR := Lib.hid tR
      have HB := Lib.hid hB
      have hW : G + 1 + a.length < wr.heap.size := by omega
      have hwI : (a.length : Int) < (k : Int) := by omega
      have HD := Lib.hid (show Dn u a b (fun _ _ => 0) (fun i _ => a.length ≤ i) from fun i j hi hj h => by
        show 0 = _
        rw [Mo_end (by omega)])
      clear hmk2 tO tR hB hg hr1 hr2 hcs hsz
      go_wp2_with fail
      obtain ⟨wo, rfl⟩ : ∃ wo : World, wo = wr := ⟨_, rfl⟩
      clear hlt hk hwI
      go_loopw [9, 10] (fun i _ wr => ∃ (n : Nat) (T : Nat → Nat → Nat), n ≤ a.length ∧ i = .int .i64 ((n : Int) - 1) ∧ TbO wr G a.length b.length ∧ TbR wr G a.length b.length T ∧ Dn u a b T (fun x _ => n ≤ x) ∧ G + 1 + a.length < wr.heap.size ∧ Below G w wr) (fun i _ _ => (intOf i + 1).toNat)
      case atStart => exact ⟨a.length, _, Nat.le_refl _, rfl, HO.out, HR.out, HD.out, hW, HB.out⟩
      case round =>
        obtain ⟨n, T, hn, rfl, tO, tR, tD, hW, hB⟩ := hrel
        have HO := Lib.hid tO
        have HR := Lib.hid tR
        have HB := Lib.hid hB
        have HD := Lib.hid tD
        clear tO tR hB tD
        cases n with
        | zero =>
          have d1 : decide ((0 : Int) ≤ ((0 : Nat) : Int) - 1) = false := by decide
          have e0 : (((0 : Nat) : Int) - 1) = -1 := rfl
          rw [e0]
          go_wp2_with fail
          have hG := HG.out
          subst hG
          go_ret
          exact ⟨rfl, HO.out, HR.out.congr fun i j hi hj => HD.out i j hi hj (.inl (Nat.zero_le _)), HB.out, hW⟩
        | succ n =>
          have e0 : (((n + 1 : Nat) : Int) - 1) = (n : Int) := by omega
          rw [e0]
          have hn' : n < a.length := by omega
          have n0 : (0 : Int) ≤ (n : Int) := by omega
          have n1 : (n : Int) < (a.length : Int) := by omega
          have n2 : (n : Int) + 1 < (a.length : Int) + 1 := by omega
          have n3 : (0 : Int) ≤ (n : Int) + 1 := by omega
          have n4 : ((n : Int) + 1).toNat = n + 1 := by omega
          clear e0 hn
          go_wp2_with fail
          obtain ⟨wo', rfl⟩ : ∃ wo : World, wo = wr := ⟨_, rfl⟩
          go_loopw [10] (fun j wr => ∃ (m : Nat) (T : Nat → Nat → Nat), m ≤ b.length ∧ j = .int .i64 ((m : Int) - 1) ∧ TbO wr G a.length b.length ∧ TbR wr G a.length b.length T ∧ Dn u a b T (fun x y => n < x ∨ x = n ∧ m ≤ y) ∧ G + 1 + a.length < wr.heap.size ∧ Below G w wr) (fun j _ => (intOf j + 1).toNat)
          case atStart => exact ⟨b.length, T, Nat.le_refl _, rfl, HO.out, HR.out, fun i j hi hj h => HD.out i j hi hj (by omega), hW, HB.out⟩
          case round =>
            clear HO HR HD HB hW
            obtain ⟨m, T, hm, rfl, tO, tR, tD, hW, hB⟩ := hrel
            cases m with
            | zero =>
              have HO := Lib.hid tO
              have HR := Lib.hid tR
              have HB := Lib.hid hB
              have HD := Lib.hid tD
              clear tO tR hB tD
              have e1 : (((0 : Nat) : Int) - 1) = -1 := rfl
              rw [e1]
              go_wp2_with fail
              exact ⟨⟨n, T, by omega, by go_num, HO.out, HR.out, fun i j hi hj h => HD.out i j hi hj (by omega), hW, HB.out⟩, by simp [intOf]⟩
            | succ m =>
              have e1 : (((m + 1 : Nat) : Int) - 1) = (m : Int) := by omega
              rw [e1]
              have hm' : m < b.length := by omega
              have m0 : (0 : Int) ≤ (m : Int) := by omega
              have m1 : (m : Int) < (b.length : Int) := by omega
              have m2 : (m : Int) + 1 < (b.length : Int) + 1 := by omega
              have m3 : (0 : Int) ≤ (m : Int) + 1 := by omega
              have m4 : ((m : Int) + 1).toNat = m + 1 := by omega
              have m5 : (m : Int) < (b.length : Int) + 1 := by omega
              have n5 : (n : Int) < (a.length : Int) + 1 := by omega
              have o1 := tO n (by omega)
              have o2 := tO (n + 1) (by omega)
              have r1 := (tR (n + 1) m (by omega) (by omega)).1
              have r2 := (tR n (m + 1) (by omega) (by omega)).1
              have r3 := (tR n m (by omega) (by omega)).1
              have r3f := (tR n m (by omega) (by omega)).2
              rw [tD (n + 1) m (by omega) (by omega) (by omega)] at r1
              rw [tD n (m + 1) (by omega) (by omega) (by omega)] at r2
              have b1 := Mo_64 u a b Hha.out Hhb.out hla (n + 1) m
              have b2 := Mo_64 u a b Hha.out Hhb.out hla n (m + 1)
              obtain ⟨p, hp⟩ : ∃ p, p = Mo u a b (n + 1) m := ⟨_, rfl⟩
              obtain ⟨q, hq⟩ : ∃ q, q = Mo u a b n (m + 1) := ⟨_, rfl⟩
              obtain ⟨z, hz⟩ : ∃ z, z = T n m := ⟨_, rfl⟩
              rw [← hp] at r1 b1
              rw [← hq] at r2 b2
              rw [← hz] at r3
              obtain ⟨v, hv⟩ : ∃ v, v = max p q := ⟨_, rfl⟩
              have hmx : max (p : Int) (q : Int) = (v : Int) := by omega
              have HO := Lib.hid tO
              have HR := Lib.hid tR
              have HB := Lib.hid hB
              have HD := Lib.hid tD
              have Hp := Lib.hid hp
              have Hq := Lib.hid hq
              have Hv := Lib.hid hv
              clear tO tR hB tD hp hq hv hz hm e1
              have wn : IntKind.i64.wrap ((n : Int) + 1) = (n : Int) + 1 := IntWalk.i64_in _ (by omega)
              have wm : IntKind.i64.wrap ((m : Int) + 1) = (m : Int) + 1 := IntWalk.i64_in _ (by omega)
              go_wp2_with fail
              refine still_drew 22 (by kernel_rfl) (by kernel_rfl) ?_
              simp only [List.take_succ_cons, List.take_zero, List.drop_succ_cons, List.drop_zero]
              repeat still_step
              refine wpStill_nil ?_
              go_wp2_with fail
              obtain ⟨X, hX⟩ : ∃ X, X = (wr.setCell ⟨G + 1 + n, m, none⟩ (.int .i64 (v : Int))).drew := ⟨_, rfl⟩
              have XO : TbO X G a.length b.length := by rw [hX]; exact HO.out.set (g := G + 1 + n) (by omega) _
              have XR : TbR X G a.length b.length (updT T n m v) := by rw [hX]; exact HR.out.set (by omega) (by omega)
              have XB : Below G w X := by rw [hX]; exact (HB.out.setCell (p := ⟨G + 1 + n, m, none⟩) (by show G ≤ G + 1 + n; omega) _).drew
              have XW : G + 1 + a.length < X.heap.size := by rw [hX]; simpa [World.setCell] using hW
              rw [← hX]
              clear hX r1 r2 r3 r3f o1 o2 hmx HO HR HB hW
              have hGw := HG.out
              obtain ⟨g1, s1, rfl, hg1, hc1⟩ := HA.out.below (XB.mono (by omega)) (by omega)
              obtain ⟨g2, s2, rfl, hg2, hc2⟩ := HA'.out.below (XB.mono (by omega)) (by omega)
              have x1 := hc1 n hn'
              have x2 := hc2 m hm'
              have D0 : 0 ≤ nth a n ∧ nth a n ≤ 1023 := ⟨okTo_pos Hha.out hn', (okTo_at Hha.out hn').2⟩
              have D1 : 0 ≤ nth b m ∧ nth b m ≤ 1023 := ⟨okTo_pos Hhb.out hm', (okTo_at Hhb.out hm').2⟩
              have HGw := Lib.hid hGw
              have NR := fun w => near38 (nth a n) (nth b m) u w D0 D1
              clear hc1 hc2 hGw hg1 hg2 D0 D1
              have HX := Lib.hid (And.intro XO (And.intro XR (And.intro XB XW)))
              have HS1 := Lib.hid (HD.out.skip (v := v) hn' hm')
              have HMo := Lib.hid (Mo_in (w := u) hn' hm')
              by_cases hN : nth a n - nth b m ≤ u ∧ nth b m - nth a n ≤ u
              · have hNB : nrB (nth a n) (nth b m) u = true := nr_dec.2 hN
                rw [hNB] at NR
                have NRH := Lib.hid NR
                have r4 := (XR (n + 1) (m + 1) (by omega) (by omega)).1
                have e4 : updT T n m v (n + 1) (m + 1) = Mo u a b (n + 1) (m + 1) := by unfold updT; rw [if_neg (by omega)]; exact HD.out _ _ (by omega) (by omega) (by omega)
                rw [e4] at r4
                have r5 := (XR n m (by omega) (by omega)).1
                have r5f := (XR n m (by omega) (by omega)).2
                have e5 : updT T n m v n m = v := by unfold updT; rw [if_pos ⟨rfl, rfl⟩]
                rw [e5] at r5
                have o1 := XO n (by omega)
                have o2 := XO (n + 1) (by omega)
                have b3 := Mo_64 u a b Hha.out Hhb.out hla (n + 1) (m + 1)
                obtain ⟨t, ht⟩ : ∃ t, t = Mo u a b (n + 1) (m + 1) := ⟨_, rfl⟩
                rw [← ht] at r4 b3
                obtain ⟨v2, hv2⟩ : ∃ v2, v2 = max v (1 + t) := ⟨_, rfl⟩
                have hmx2 : max (v : Int) (1 + (t : Int)) = (v2 : Int) := by omega
                have w1t : IntKind.i64.wrap (1 + (t : Int)) = 1 + (t : Int) := IntWalk.i64_in _ (by omega)
                have Hfin : Hid (v2 = Mo u a b n m) := Lib.hid (by
                  rw [HMo.out, if_pos hN, ← ht, ← Hp.out, ← Hq.out, ← Hv.out]
                  omega)
                clear XO XR XB hNB NR e4 e5 ht hv2 hN
                go_quiet ((go_at_call 38; exact Calls.quiet_of_same (flipc (NRH.out _))))
                go_wp2_with fail
                refine still_drew 23 (by kernel_rfl) (by kernel_rfl) ?_
                simp only [List.take_succ_cons, List.take_zero, List.drop_succ_cons, List.drop_zero]
                repeat still_step
                refine wpStill_nil ?_
                go_wp2_with fail
                obtain ⟨XO, XR, XB, XW⟩ := HX.out
                exact ⟨⟨m, updT (updT T n m v) n m v2, by omega, by go_num, TbO.set (w := X.drewN nq) XO (g := G + 1 + n) (by omega) _, TbR.set (w := X.drewN nq) XR (by omega) (by omega), HS1.out.step hn' hm' Hfin.out, by simpa [World.setCell] using XW, ((below_drewN XB nq).setCell (p := ⟨G + 1 + n, m, none⟩) (by show G ≤ G + 1 + n; omega) _).drew⟩, by simp [intOf]⟩
              · have hNB : nrB (nth a n) (nth b m) u = false := by
                  cases h : nrB (nth a n) (nth b m) u
                  · rfl
                  · exact absurd (nr_dec.1 h) hN
                rw [hNB] at NR
                have NRH := Lib.hid NR
                have Hfin : Hid (v = Mo u a b n m) := Lib.hid (by
                  rw [HMo.out, if_neg hN, ← Hp.out, ← Hq.out, ← Hv.out]
                  omega)
                clear XO XR XB hNB NR hN
                go_quiet ((go_at_call 38; exact Calls.quiet_of_same (flipc (NRH.out _))))
                go_wp2_with fail
                obtain ⟨XO, XR, XB, XW⟩ := HX.out
                exact ⟨⟨m, updT T n m v, by omega, by go_num, XO, XR, HD.out.step hn' hm' Hfin.out, XW, below_drewN XB nq⟩, by simp [intOf]⟩
end Go.Proofs.Ytmkpblfacnnnoaa
