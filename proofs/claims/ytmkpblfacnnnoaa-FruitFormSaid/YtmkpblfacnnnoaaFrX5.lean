/- FruitForm returns true for every input. -/
import Derived.Test.YtmkpblfacnnnoaaRows
import Derived.WalkKit
import Derived.WalkLawsBesides
import Derived.WalkSpells
import Derived.ProofKit
import Derived.Below
import Derived.Outline
import Derived.Lib.Hide
import Derived.Deep.RegionWith
import Derived.Deep.RegionHeld3
import Derived.Deep.DrawnRows
import Derived.StillTailTactics
import Derived.BigQuiet
import Derived.Deep.QuietTactic
import Derived.Deep.LoopGhost
import Derived.IntWalk
import Derived.Test.YtmkpblfacnnnoaaFrT
import Derived.Test.YtmkpblfacnnnoaaKO
import Derived.Deep.DeepCutAuto
import Derived.WalkKit
import Derived.ProofKit
import Derived.OpenShut
import Derived.ShutString
import Derived.ChangeOld
import Derived.Below
import Derived.Lib.SmallJoins
namespace Go.Proofs.Ytmkpblfacnnnoaa
open Go.RowKit
attribute [local go_sem ↓] Go.wp_at_zero Go.wp_at_succ
attribute [local go_sem] wrap_lit

theorem bool_info : (Try.prog.info? 4).map (fun i => (i.zero, i.size, i.bytes)) = some (some (.bool false), 1, 1) := by kernel_rfl
theorem made_marks (n : Nat) : madeCells #[Value.bool false] n = ((List.replicate n false).map Value.bool).toArray := by
  apply Array.ext
  · rw [size_madeCells]; simp
  · intro i h1 h2; simp [madeCells, Nat.mod_one]
/-- Marks of the call's own, with all of S marked. -/
def MX (w : World) (g n : Nat) (S : Nat → Prop) : Prop := ∃ us : List Bool, us.length = n ∧ w.heap[g]? = some (.cells (us.map Value.bool).toArray 4 (0, 0)) ∧ ∀ z, z < n → S z → us.getD z false = true
theorem MX.below {w w1 : World} {g n : Nat} {S : Nat → Prop} (h : MX w g n S) (hb : Below w.heap.size w w1) : MX w1 g n S := by
  obtain ⟨us, h1, h2, h3⟩ := h
  exact ⟨us, h1, (hb.block g (heap_lt h2)).trans h2, h3⟩
/-- What the first loop keeps. -/
def FmR (w : World) (A A' A2 A3 : Option Addr) (a b : List Int) (G : List (Nat × Nat)) (g1 g2 : Nat) (W : World) (k : Nat) : Prop :=
  MX W g1 a.length (fun z => ∃ p ∈ G.take k, p.1 = z) ∧ MX W g2 b.length (fun z => ∃ p ∈ G.take k, p.2 = z) ∧ Is .i64 W W.heap.size A2 (flat G) ∧ Is .i64 W W.heap.size A3 (flat (G.map fun p => (p.2, p.1))) ∧ Is .i64 W W.heap.size A a ∧ Is .i64 W W.heap.size A' b ∧ Below w.heap.size w W
theorem FmR.on {w W W1 : World} {A A' A2 A3 : Option Addr} {a b : List Int} {G : List (Nat × Nat)} {g1 g2 k : Nat} (h : FmR w A A' A2 A3 a b G g1 g2 W k) (hb : Below W.heap.size W W1) : FmR w A A' A2 A3 a b G g1 g2 W1 k := by
  obtain ⟨h1, h2, h3, h4, h5, h6, h7⟩ := h
  exact ⟨h1.below hb, h2.below hb, (h3.below hb).mono hb.size, (h4.below hb).mono hb.size, (h5.below hb).mono hb.size, (h6.below hb).mono hb.size, h7.trans (hb.mono h7.size)⟩
theorem mark_at {us : List Bool} {x z : Nat} (hx : x < us.length) (h : us.getD z false = true ∨ z = x) : (us.set x true).getD z false = true := by
  by_cases e : z = x
  · subst e; simp [List.getD_eq_getElem?_getD, hx]
  · have h' := h.resolve_right e
    rw [List.getD_eq_getElem?_getD] at h' ⊢
    rw [List.getElem?_set_ne (Ne.symm e)]
    exact h'
theorem mark_or1 {G : List (Nat × Nat)} {k x y z : Nat} (hp : (x, y) = G.getD k (0, 0)) (hk : k < G.length) (h : ∃ p ∈ G.take (k + 1), p.1 = z) : (∃ p ∈ G.take k, p.1 = z) ∨ z = x := by
  obtain ⟨p, h1, h2⟩ := h
  rw [List.take_succ_eq_append_getElem hk, List.mem_append] at h1
  rcases h1 with h1 | h1
  · exact .inl ⟨p, h1, h2⟩
  · rw [List.getD_eq_getElem?_getD, List.getElem?_eq_getElem hk] at hp
    have e : p = (x, y) := by rw [hp]; simpa using h1
    exact .inr (by rw [← h2, e])
theorem mark_or2 {G : List (Nat × Nat)} {k x y z : Nat} (hp : (x, y) = G.getD k (0, 0)) (hk : k < G.length) (h : ∃ p ∈ G.take (k + 1), p.2 = z) : (∃ p ∈ G.take k, p.2 = z) ∨ z = y := by
  obtain ⟨p, h1, h2⟩ := h
  rw [List.take_succ_eq_append_getElem hk, List.mem_append] at h1
  rcases h1 with h1 | h1
  · exact .inl ⟨p, h1, h2⟩
  · rw [List.getD_eq_getElem?_getD, List.getElem?_eq_getElem hk] at hp
    have e : p = (x, y) := by rw [hp]; simpa using h1
    exact .inr (by rw [← h2, e])
theorem FmR.mark {w W : World} {A A' A2 A3 : Option Addr} {a b : List Int} {G : List (Nat × Nat)} {g1 g2 k x y : Nat} (h : FmR w A A' A2 A3 a b G g1 g2 W k) (hp : (x, y) = G.getD k (0, 0)) (hk : k < G.length) (hx : x < a.length) (hy : y < b.length) (hg : g1 ≠ g2) (hw1 : w.heap.size ≤ g1) (hw2 : w.heap.size ≤ g2) :
    FmR w A A' A2 A3 a b G g1 g2 ((W.setCell ⟨g1, x, none⟩ (.bool true)).setCell ⟨g2, y, none⟩ (.bool true)) (k + 1) := by
  obtain ⟨⟨u1, l1, e1, m1⟩, ⟨u2, l2, e2, m2⟩, h3, h4, h5, h6, h7⟩ := h
  have q : (W.setCell ⟨g1, x, none⟩ (.bool true)).heap[g2]? = _ := (Below.heap_setCell _ _ _ _ (show g2 ≠ g1 from Ne.symm hg)).trans e2
  have hs : ((W.setCell ⟨g1, x, none⟩ (.bool true)).setCell ⟨g2, y, none⟩ (.bool true)).heap.size = W.heap.size := by simp [World.setCell]
  refine ⟨⟨u1.set x true, by simp [l1], (Below.heap_setCell _ _ _ _ (show g1 ≠ g2 from hg)).trans (set_marks e1), fun z hz hS => mark_at (by rw [l1]; exact hx) ((mark_or1 hp hk hS).imp (m1 z hz) id)⟩, ⟨u2.set y true, by simp [l2], set_marks q, fun z hz hS => mark_at (by rw [l2]; exact hy) ((mark_or2 hp hk hS).imp (m2 z hz) id)⟩, ?_, ?_, ?_, ?_, (h7.setCell (p := ⟨g1, x, none⟩) hw1 _).setCell (p := ⟨g2, y, none⟩) hw2 _⟩
  · rw [hs]; exact (h3.setB e1).setB q
  · rw [hs]; exact (h4.setB e1).setB q
  · rw [hs]; exact (h5.setB e1).setB q
  · rw [hs]; exact (h6.setB e1).setB q
theorem FmR.mark2 {w W : World} {A A' A2 A3 : Option Addr} {a b : List Int} {G : List (Nat × Nat)} {g1 g2 k x y : Nat} (h : FmR w A A' A2 A3 a b G g1 g2 W k) (hp : (x, y) = G.getD k (0, 0)) (hk : k < G.length) (hx : x < a.length) (hy : y < b.length) (hg : g1 ≠ g2) (hw1 : w.heap.size ≤ g1) (hw2 : w.heap.size ≤ g2) :
    FmR w A A' A2 A3 a b G g1 g2 ((W.setCell ⟨g2, y, none⟩ (.bool true)).setCell ⟨g1, x, none⟩ (.bool true)) (k + 1) := by
  obtain ⟨⟨u1, l1, e1, m1⟩, ⟨u2, l2, e2, m2⟩, h3, h4, h5, h6, h7⟩ := h
  have q : (W.setCell ⟨g2, y, none⟩ (.bool true)).heap[g1]? = _ := (Below.heap_setCell _ _ _ _ (show g1 ≠ g2 from hg)).trans e1
  have hs : ((W.setCell ⟨g2, y, none⟩ (.bool true)).setCell ⟨g1, x, none⟩ (.bool true)).heap.size = W.heap.size := by simp [World.setCell]
  refine ⟨⟨u1.set x true, by simp [l1], set_marks q, fun z hz hS => mark_at (by rw [l1]; exact hx) ((mark_or1 hp hk hS).imp (m1 z hz) id)⟩, ⟨u2.set y true, by simp [l2], (Below.heap_setCell _ _ _ _ (show g2 ≠ g1 from Ne.symm hg)).trans (set_marks e2), fun z hz hS => mark_at (by rw [l2]; exact hy) ((mark_or2 hp hk hS).imp (m2 z hz) id)⟩, ?_, ?_, ?_, ?_, (h7.setCell (p := ⟨g2, y, none⟩) hw2 _).setCell (p := ⟨g1, x, none⟩) hw1 _⟩
  · rw [hs]; exact (h3.setB e2).setB q
  · rw [hs]; exact (h4.setB e2).setB q
  · rw [hs]; exact (h5.setB e2).setB q
  · rw [hs]; exact (h6.setB e2).setB q
theorem asc_at : ∀ {G : List (Nat × Nat)} {k : Nat}, Asc G → k + 1 < G.length → (G.getD k (0, 0)).1 < (G.getD (k + 1) (0, 0)).1 ∧ (G.getD k (0, 0)).2 < (G.getD (k + 1) (0, 0)).2
  | [], _, _, h => by simp at h
  | [_], _, _, h => by simp at h
  | _ :: q :: _, 0, h, _ => h.1 q (List.mem_cons_self ..)
  | _ :: q :: G, k + 1, h, hk => asc_at (G := q :: G) (k := k) h.2 (by simpa using hk)
theorem sw_nth {G : List (Nat × Nat)} {k : Nat} (h : k < G.length) : (G.map fun p => (p.2, p.1)).getD k (0, 0) = ((G.getD k (0, 0)).2, (G.getD k (0, 0)).1) := by
  simp [List.getD_eq_getElem?_getD, h]
theorem two_marks (w : World) (m n : Nat) : MX ((w.alloc (.cells (madeCells #[.bool false] m) 4)).alloc (.cells (madeCells #[.bool false] n) 4)).drew w.heap.size m (fun _ => False) ∧ MX ((w.alloc (.cells (madeCells #[.bool false] m) 4)).alloc (.cells (madeCells #[.bool false] n) 4)).drew (w.heap.size + 1) n (fun _ => False) ∧ Below w.heap.size w ((w.alloc (.cells (madeCells #[.bool false] m) 4)).alloc (.cells (madeCells #[.bool false] n) 4)).drew := by
  have hs : (w.alloc (.cells (madeCells #[.bool false] m) 4)).heap.size = w.heap.size + 1 := by simp
  refine ⟨⟨List.replicate m false, by simp, ?_, fun _ _ h => h.elim⟩, ⟨List.replicate n false, by simp, ?_, fun _ _ h => h.elim⟩, (((Below.refl _ _).alloc (Nat.le_refl _) _).alloc (by omega) _).drew⟩
  · show ((w.alloc _).alloc _).heap[w.heap.size]? = _
    rw [Below.heap_alloc _ _ _ (by omega), ← made_marks]
    exact Array.getElem?_push_size
  · show ((w.alloc _).alloc _).heap[w.heap.size + 1]? = _
    rw [← hs, ← made_marks]
    exact Array.getElem?_push_size
set_option maxRecDepth 100000 in
set_option maxHeartbeats 8000000 in
theorem frForm (A A' : Option Addr) (cap cap' : Nat) (a b : List Int) (u : Int) (w : World) (hA : Is .i64 w w.heap.size A a) (hA' : Is .i64 w w.heap.size A' b) : Calls Try.prog 6 #[.slice A a.length cap, .slice A' b.length cap', .int .i64 u] w fun e w' => e = .returned (.bool true) ∧ Below w.heap.size w w' := by
  have R0 := two_rows (cap := cap) (cap' := cap') (Nat.le_refl _) hA hA'
  have B0 : Below w.heap.size w (w.alloc (.cells #[.slice A a.length cap, .slice A' b.length cap'] 22)) := (Below.refl _ _).alloc (Nat.le_refl _) _
  by_cases hl : lngP [a, b]
  · have L := Lib.hid (long_t _ 2 [a, b] _ _ R0 (show (2 : Nat) ≤ maxLen by unfold maxLen; decide) hl)
    clear R0 hA hA'
    go_enter Try.func6, Try.ntmps6
    go_wp2_with fail
    refine L.out.mono ?_
    rintro e w' ⟨rfl, rfl⟩
    go_wp2_with fail
    refine (awake11 _).mono ?_
    rintro e w2 ⟨rfl, hb2⟩
    go_wp2_with fail
    go_ret
    exact ⟨rfl, B0.trans (hb2.mono (by simp))⟩
  · have L := Lib.hid (long_f _ 2 [a, b] _ _ R0 hl)
    have h70 : a.length ≤ 70 ∧ b.length ≤ 70 := by rw [lng_two] at hl; omega
    obtain ⟨ha70, hb70⟩ := h70
    have HA := Lib.hid hA
    have HA' := Lib.hid hA'
    obtain ⟨i0, hi0, hz0, hz1, hz2⟩ := info_parts bool_info
    have hmk : ∀ (n : Nat), n ≤ 1000 → ∀ W : World, (Instr.makeSlice 44 (.int .i64 (n : Int)) (.int .i64 (n : Int))).run Try.prog W = .ok (.slice (some ⟨W.heap.size, 0, none⟩) n n) (W.alloc (.cells (madeCells #[.bool false] n) 4)) := fun n hn W => by
      have h := run_makeN (P := Try.prog) 44 4 i0 _ Try.underlying44 hi0 hz0 n (by omega) (by omega) W
      rw [hz1, Nat.mul_one] at h
      simpa [Value.cells] using h
    have hmk1 := hmk a.length (by omega)
    have hmk2 := hmk b.length (by omega)
    have Hmk := Lib.hid (And.intro hmk1 hmk2)
    clear R0 hA hA' hl hmk hmk1 hmk2
    go_enter Try.func6, Try.ntmps6
    go_wp2_with fail
    refine L.out.mono ?_
    rintro e w' ⟨rfl, rfl⟩
    go_wp2_with fail
    obtain ⟨X, hX⟩ : ∃ X, X = w.alloc (.cells #[.slice A a.length cap, .slice A' b.length cap'] 22) := ⟨_, rfl⟩
    rw [← hX] at B0 ⊢
    clear hX L
    have s0 := B0.size
    refine (awake11 _).mono ?_
    rintro e w1 ⟨rfl, hb1⟩
    have HB1 := Lib.hid (B0.trans (hb1.mono s0))
    have s1 := hb1.size
    clear hb1 B0
    go_wp2_with fail
    refine (match13 A A' cap cap' a b u w.heap.size w1 (by omega) (HA.out.below HB1.out) (HA'.out.below HB1.out) (by omega) (by omega)).mono ?_
    rintro e w2 ⟨v2, rfl, hv2, hb2⟩
    obtain ⟨A2, cap2, rfl, own2⟩ := hv2.own
    have s2 := hb2.size
    have HB2 := Lib.hid (HB1.out.trans (hb2.mono (by omega)))
    have O2 := Lib.hid own2
    clear hv2 own2 hb2 HB1
    go_wp2_with fail
    refine (match13 A' A cap' cap b a u w.heap.size w2 (by omega) (HA'.out.below HB2.out) (HA.out.below HB2.out) (by omega) (by omega)).mono ?_
    rintro e w3 ⟨v3, rfl, hv3, hb3⟩
    obtain ⟨A3, cap3, rfl, own3⟩ := hv3.own
    have s3 := hb3.size
    have HB3 := Lib.hid (HB2.out.trans (hb3.mono (by omega)))
    have O3 := Lib.hid (O2.out.below hb3)
    have P3 := Lib.hid own3
    clear hv3 own3 hb3 HB2 O2
    by_cases hE : mtE a b u = 0
    · as_aux_lemma =>
      obtain ⟨ca, cb, hu0, hu1⟩ := mtE_ok.1 hE
      have hE' : mtE b a u = 0 := mtE_ok.2 ⟨cb, ca, hu0, hu1⟩
      have oa := (ckS_ok.1 ca).2
      have ob := (ckS_ok.1 cb).2
      have hsw := gr_swap hu0 a b _ 0 0 (Nat.le_refl _)
      have hmax := gr_max (w := u) oa ob _ 0 0 (Nat.le_refl _)
      have hasc := gr_Asc u a b _ 0 0 (Nat.le_refl _)
      have hat : ∀ p ∈ gr u a b 0 0, p.1 < a.length ∧ p.2 < b.length ∧ ner u a b p.1 p.2 := fun p hp => by
        obtain ⟨-, k1, -, k2, k3⟩ := gr_at hp
        exact ⟨k1, k2, k3⟩
      rw [mtL_ok hE] at O3
      rw [mtL_ok hE'] at P3
      rw [mtL_ok hE, mtL_ok hE', hE, hE']
      rw [hsw] at P3 ⊢
      have hl64 := mtL_64 a b u
      rw [mtL_ok hE] at hl64
      obtain ⟨G, hG⟩ : ∃ G, G = gr u a b 0 0 := ⟨_, rfl⟩
      rw [← hG] at O3 P3 hat hasc hmax hl64 ⊢
      have Hx := Lib.hid (And.intro hmax (And.intro hasc hat))
      have Hoa := Lib.hid oa
      have Hob := Lib.hid ob
      have hml : (G.map fun p => (p.2, p.1)).length = G.length := List.length_map _
      rw [hml]
      clear hE hE' ca cb oa ob hsw hmax hasc hat hG hml
      have hz3 : ((G.length : Int) != (G.length : Int)) = false := by simp
      go_wp2_with fail
      go_cut [11, 12] (fun s11 s12 wx => ∃ g1 g2, s11 = .slice (some ⟨g1, 0, none⟩) a.length a.length ∧ s12 = .slice (some ⟨g2, 0, none⟩) b.length b.length ∧ g1 ≠ g2 ∧ w3.heap.size ≤ g1 ∧ w3.heap.size ≤ g2 ∧ MX wx g1 a.length (fun _ => False) ∧ MX wx g2 b.length (fun _ => False) ∧ Below w3.heap.size w3 wx)
      case first =>
        obtain ⟨hmk1, hmk2⟩ := Hmk.out
        go_region
        all_goals go_wp2_with fail
        all_goals go_meet
        · obtain ⟨t1, t2, t3⟩ := two_marks w3 a.length b.length
          exact ⟨_, _, rfl, rfl, by omega, Nat.le_refl _, Nat.le_succ _, t1, t2, t3⟩
        · obtain ⟨t1, t2, t3⟩ := two_marks w3 b.length a.length
          exact ⟨_, _, rfl, rfl, by omega, Nat.le_succ _, Nat.le_refl _, t2, t1, t3⟩
      case rest =>
        obtain ⟨g1, g2, rfl, rfl, hg12, hg1, hg2, M1, M2, B4⟩ := hcut
        have s4 := B4.size
        have B5 := HB3.out.trans (B4.mono (by omega))
        have HF := Lib.hid (show FmR w A A' A2 A3 a b G g1 g2 wc 0 from ⟨M1.imp fun us h => ⟨h.1, h.2.1, fun z _ hz => by obtain ⟨p, hp, -⟩ := hz; simp at hp⟩, M2.imp fun us h => ⟨h.1, h.2.1, fun z _ hz => by obtain ⟨p, hp, -⟩ := hz; simp at hp⟩, (O3.out.below B4).is, (P3.out.below B4).is, (HA.out.below B5).mono B5.size, (HA'.out.below B5).mono B5.size, B5⟩)
        clear M1 M2 B4 B5 O3 P3 HB3 Hmk s4
        go_wp2_with fail
        go_loopw [6, 13] (fun r i wr => ∃ k, k ≤ G.length ∧ i = .int .i64 (k : Nat) ∧ r = .bool false ∧ FmR w A A' A2 A3 a b G g1 g2 wr k) (fun _ i _ => G.length - (intOf i).toNat)
        case atStart => exact ⟨0, Nat.zero_le _, rfl, rfl, HF.out⟩
        case round =>
          clear HF
          obtain ⟨k, hk, rfl, rfl, hF⟩ := hrel
          by_cases hlt : k < G.length
          · as_aux_lemma =>
            have HF := Lib.hid hF
            obtain ⟨-, -, f3, f4, f5, f6, f7⟩ := hF
            have f0 := flat_len G
            obtain ⟨bl, ol, rfl, hbl, hcl⟩ := f3 (by omega)
            have c1 := hcl (k * 2) (by omega)
            have c2 := hcl (k * 2 + 1) (by omega)
            obtain ⟨e1, e2⟩ := flat_nth G k hlt
            rw [e1] at c1
            rw [e2, ← Nat.add_assoc] at c2
            have hkI : (k : Int) < (G.length : Int) := by omega
            have hk0 : (0 : Int) ≤ (k : Int) := by omega
            obtain ⟨p, hp⟩ : ∃ p, p = G.getD k (0, 0) := ⟨_, rfl⟩
            rw [← hp] at c1 c2
            have HP := Lib.hid hp
            obtain ⟨x, y⟩ := p
            simp only at c1 c2
            clear hp e1 e2 f0 hcl f3 f4 f5 f6 f7
            go_wp2_with fail
            obtain ⟨X, hX⟩ : ∃ X, X = wr.alloc (.cells #[.int .i64 (x : Int), .int .i64 (y : Int)] 46) := ⟨_, rfl⟩
            have BX1 : Below wr.heap.size wr X := by rw [hX]; exact (Below.refl _ _).alloc (Nat.le_refl _) _
            have px : X.cell? ⟨wr.heap.size, 0, none⟩ = some (.int .i64 (x : Int)) := by rw [hX]; exact World.cell?_alloc_at _ _ _ _ rfl
            have py : X.cell? ⟨wr.heap.size, 1, none⟩ = some (.int .i64 (y : Int)) := by rw [hX]; exact World.cell?_alloc_at _ _ _ _ rfl
            rw [← hX]
            have lg1 : g1 < wr.heap.size := by obtain ⟨⟨_, _, q1, -⟩, -⟩ := HF.out; exact heap_lt q1
            have lg2 : g2 < wr.heap.size := by obtain ⟨-, ⟨_, _, q2, -⟩, -⟩ := HF.out; exact heap_lt q2
            have HF := Lib.hid (HF.out.on BX1)
            clear hX c1 c2
            obtain ⟨-, -, f3, f4, f5, f6, f7⟩ := HF.out
            have hmem : (x, y) ∈ G := by rw [HP.out, List.getD_eq_getElem?_getD, List.getElem?_eq_getElem hlt]; exact List.getElem_mem hlt
            obtain ⟨xa, yb, nr1, nr2⟩ := Hx.out.2.2 (x, y) hmem
            simp only at xa yb nr1 nr2
            have f0 := flat_len (G.map fun p => (p.2, p.1))
            rw [List.length_map] at f0
            obtain ⟨b3, o3, rfl, hb3, hc3⟩ := f4 (by omega)
            have c3 := hc3 (k * 2) (by omega)
            have c4 := hc3 (k * 2 + 1) (by omega)
            obtain ⟨e1, e2⟩ := flat_nth (G.map fun p => (p.2, p.1)) k (by rw [List.length_map]; exact hlt)
            rw [e1, sw_nth hlt, ← HP.out] at c3
            rw [e2, sw_nth hlt, ← HP.out, ← Nat.add_assoc] at c4
            simp only at c3 c4
            obtain ⟨ba, oa, rfl, hba, hca⟩ := f5 (by omega)
            obtain ⟨bb, ob, rfl, hbb, hcb⟩ := f6 (by omega)
            have c5 := hca x xa
            have c6 := hcb y yb
            have x0 := okTo_pos Hoa.out xa
            have x1 := (okTo_at Hoa.out xa).2
            have y0 := okTo_pos Hob.out yb
            have y1 := (okTo_at Hob.out yb).2
            obtain ⟨vx, hvx⟩ : ∃ v, v = nth a x := ⟨_, rfl⟩
            obtain ⟨vy, hvy⟩ : ∃ v, v = nth b y := ⟨_, rfl⟩
            rw [← hvx] at c5 x0 x1 nr1 nr2
            rw [← hvy] at c6 y0 y1 nr1 nr2
            have k1 : (0 : Int) ≤ (x : Int) := by omega
            have k2 : (x : Int) < (a.length : Int) := by omega
            have k3 : (0 : Int) ≤ (y : Int) := by omega
            have k4 : (y : Int) < (b.length : Int) := by omega
            have d1 : decide (u < vx - vy) = false := decide_eq_false (by omega)
            have d2 : decide (u < vy - vx) = false := decide_eq_false (by omega)
            have d3 : decide ((x : Int) < 0) = false := decide_eq_false (by omega)
            have d4 : decide ((y : Int) < 0) = false := decide_eq_false (by omega)
            have d5 : decide (a.length ≤ x) = false := decide_eq_false (by omega)
            have d6 : decide (b.length ≤ y) = false := decide_eq_false (by omega)
            clear hc3 hca hcb e1 e2 f0 f3 f4 f5 f6 f7 hmem hvx hvy
            go_quiet (fail)
            go_wp2_with fail
            obtain ⟨Y, hY⟩ : ∃ Y, Y = X.drewN nq := ⟨_, rfl⟩
            have qx : Y.cell? ⟨wr.heap.size, 0, none⟩ = some (.int .i64 (x : Int)) := by rw [hY]; exact px
            have qy : Y.cell? ⟨wr.heap.size, 1, none⟩ = some (.int .i64 (y : Int)) := by rw [hY]; exact py
            have HF := Lib.hid (show FmR w _ _ _ _ a b G g1 g2 Y k by rw [hY]; exact HF.out.on (below_drewN (Below.refl _ _) nq))
            rw [← hY]
            clear hY px py c3 c4 c5 c6 d1 d2 d3 d4 d5 d6
            by_cases h0 : k = 0
            · as_aux_lemma =>
              subst h0
              go_quiet (fail)
              go_wp2_with fail
              obtain ⟨Z, hZ⟩ : ∃ Z, Z = Y.drewN nq := ⟨_, rfl⟩
              have zx : Z.cell? ⟨wr.heap.size, 0, none⟩ = some (.int .i64 (x : Int)) := by rw [hZ]; exact qx
              have zy : Z.cell? ⟨wr.heap.size, 1, none⟩ = some (.int .i64 (y : Int)) := by rw [hZ]; exact qy
              have HF := Lib.hid (show FmR w _ _ _ _ a b G g1 g2 Z 0 by rw [hZ]; exact HF.out.on (below_drewN (Below.refl _ _) nq))
              rw [← hZ]
              clear hZ qx qy
              obtain ⟨⟨v1, l1, q1, -⟩, ⟨v2, l2, q2, -⟩, -⟩ := HF.out
              obtain ⟨r1, r2⟩ := marks_cell q1 (by rw [l1]; exact xa : x < v1.length)
              obtain ⟨r3, r4⟩ := marks_cell q2 (by rw [l2]; exact yb : y < v2.length)
              have n1 : g1 ≠ wr.heap.size := Nat.ne_of_lt lg1
              have n2 : g2 ≠ wr.heap.size := Nat.ne_of_lt lg2
              have n3 := Ne.symm n1
              have n4 := Ne.symm n2
              have n5 := Ne.symm hg12
              clear q1 q2 l1 l2
              go_region
              all_goals go_wp2_with fail
              exact ⟨⟨1, by omega, by go_num, rfl, FmR.on (FmR.mark HF.out HP.out hlt xa yb hg12 (by omega) (by omega)) ((Below.refl _ _).drew)⟩, by simp [intOf]; omega⟩
            · as_aux_lemma =>
              obtain ⟨m, rfl⟩ : ∃ m, k = m + 1 := ⟨k - 1, by omega⟩
              obtain ⟨-, -, f3, -⟩ := HF.out
              have f0 := flat_len G
              obtain ⟨bl', ol', e0, hbl', hcl⟩ := f3 (by omega)
              obtain ⟨rfl, rfl⟩ : bl = bl' ∧ ol = ol' := by simpa using e0
              have c1 := hcl (m * 2) (by omega)
              have c2 := hcl (m * 2 + 1) (by omega)
              obtain ⟨e1, e2⟩ := flat_nth G m (by omega)
              rw [e1] at c1
              rw [e2, ← Nat.add_assoc] at c2
              have hlt2 := asc_at Hx.out.2.1 (k := m) hlt
              rw [← HP.out] at hlt2
              obtain ⟨p', hp'⟩ : ∃ p, p = G.getD m (0, 0) := ⟨_, rfl⟩
              rw [← hp'] at c1 c2 hlt2
              obtain ⟨x', y'⟩ := p'
              simp only at c1 c2 hlt2
              obtain ⟨lt1, lt2⟩ := hlt2
              have e9 : ((m + 1 : Nat) : Int) - 1 = (m : Int) := by omega
              have e8 : ((m : Int) + 1) - 1 = (m : Int) := by omega
              have k5 : (0 : Int) < ((m + 1 : Nat) : Int) := by omega
              have k6 : (0 : Int) < (m : Int) + 1 := by omega
              have k7 : (0 : Int) ≤ (m : Int) := by omega
              have k8 : (m : Int) < (G.length : Int) := by omega
              have d1 : decide (x ≤ x') = false := decide_eq_false (by omega)
              have d2 : decide (y ≤ y') = false := decide_eq_false (by omega)
              have j1 : (x' : Int) < (x : Int) := by omega
              have j2 : (y' : Int) < (y : Int) := by omega
              clear hcl e1 e2 f0 f3 e0 hbl' hp'
              go_quiet (fail)
              go_wp2_with fail
              obtain ⟨Z, hZ⟩ : ∃ Z, Z = Y.drewN nq := ⟨_, rfl⟩
              have zx : Z.cell? ⟨wr.heap.size, 0, none⟩ = some (.int .i64 (x : Int)) := by rw [hZ]; exact qx
              have zy : Z.cell? ⟨wr.heap.size, 1, none⟩ = some (.int .i64 (y : Int)) := by rw [hZ]; exact qy
              have HF := Lib.hid (show FmR w _ _ _ _ a b G g1 g2 Z (m + 1) by rw [hZ]; exact HF.out.on (below_drewN (Below.refl _ _) nq))
              rw [← hZ]
              clear hZ qx qy
              obtain ⟨⟨v1, l1, q1, -⟩, ⟨v2, l2, q2, -⟩, -⟩ := HF.out
              obtain ⟨r1, r2⟩ := marks_cell q1 (by rw [l1]; exact xa : x < v1.length)
              obtain ⟨r3, r4⟩ := marks_cell q2 (by rw [l2]; exact yb : y < v2.length)
              have n1 : g1 ≠ wr.heap.size := Nat.ne_of_lt lg1
              have n2 : g2 ≠ wr.heap.size := Nat.ne_of_lt lg2
              have n3 := Ne.symm n1
              have n4 := Ne.symm n2
              have n5 := Ne.symm hg12
              clear q1 q2 l1 l2
              go_region
              all_goals go_wp2_with fail
              exact ⟨⟨(m + 1 + 1), by omega, by go_num, rfl, FmR.on (FmR.mark HF.out HP.out hlt xa yb hg12 (by omega) (by omega)) ((Below.refl _ _).drew)⟩, by simp [intOf]; omega⟩
          · as_aux_lemma =>
            obtain rfl : k = G.length := by omega
            have HF := Lib.hid hF
            clear hF
            obtain ⟨V, hV⟩ : ∃ V, V = wr := ⟨_, rfl⟩
            rw [← hV] at HF ⊢
            clear hV
            go_wp2_with fail
            go_loopw [6, 15] (fun r i wx => ∃ x, x ≤ a.length ∧ i = .int .i64 (x : Nat) ∧ r = .bool false ∧ DrN V wx) (fun _ i _ => a.length - (intOf i).toNat)
            case atStart => exact ⟨0, Nat.zero_le _, rfl, rfl, DrN.refl _⟩
            case round =>
              obtain ⟨x, hx, rfl, rfl, hD⟩ := hrel
              have HD := Lib.hid hD
              clear hD
              by_cases hxa : x < a.length
              · have i1 : (x : Int) < (a.length : Int) := by omega
                have i2 : (0 : Int) ≤ (x : Int) := by omega
                go_wp2_with fail
                go_loopw [6, 16] (fun r i wx => ∃ y, y ≤ b.length ∧ i = .int .i64 (y : Nat) ∧ r = .bool false ∧ DrN V wx) (fun _ i _ => b.length - (intOf i).toNat)
                case atStart => exact ⟨0, Nat.zero_le _, rfl, rfl, HD.out⟩
                case round =>
                  clear HD
                  obtain ⟨y, hy, rfl, rfl, hD⟩ := hrel
                  have HD := Lib.hid hD
                  by_cases hyb : y < b.length
                  · have i3 : (y : Int) < (b.length : Int) := by omega
                    have i4 : (0 : Int) ≤ (y : Int) := by omega
                    obtain ⟨⟨v1, l1, q1, m1⟩, ⟨v2, l2, q2, m2⟩, -, -, f5, f6, -⟩ := HF.out.on hD.below
                    rw [List.take_length] at m1 m2
                    obtain ⟨r1, -⟩ := marks_cell q1 (by rw [l1]; exact hxa : x < v1.length)
                    obtain ⟨r3, -⟩ := marks_cell q2 (by rw [l2]; exact hyb : y < v2.length)
                    obtain ⟨ba, oa, rfl, hba, hca⟩ := f5 (by omega)
                    obtain ⟨bb, ob, rfl, hbb, hcb⟩ := f6 (by omega)
                    have c5 := hca x hxa
                    have c6 := hcb y hyb
                    have x0 := okTo_pos Hoa.out hxa
                    have x1 := (okTo_at Hoa.out hxa).2
                    have y0 := okTo_pos Hob.out hyb
                    have y1 := (okTo_at Hob.out hyb).2
                    have hM := Hx.out.1 x y (Nat.zero_le _) hxa (Nat.zero_le _) hyb
                    have hN : v1.getD x false = true ∨ v2.getD y false = true ∨ ¬ ner u a b x y := by
                      by_cases g : ner u a b x y
                      · exact (hM g).imp (fun h => m1 x hxa h) fun h => .inl (m2 y hyb h)
                      · exact .inr (.inr g)
                    unfold ner at hN
                    obtain ⟨vx, hvx⟩ : ∃ v, v = nth a x := ⟨_, rfl⟩
                    obtain ⟨vy, hvy⟩ : ∃ v, v = nth b y := ⟨_, rfl⟩
                    rw [← hvx, ← hvy] at hN
                    rw [← hvx] at c5 x0 x1
                    rw [← hvy] at c6 y0 y1
                    clear hca hcb hvx hvy hM m1 m2 q1 q2 l1 l2 hD f5 f6
                    rcases h1 : v1.getD x false with _ | _
                    · rcases h2 : v2.getD y false with _ | _
                      · rw [h1] at r1
                        rw [h2] at r3
                        rw [h1, h2] at hN
                        have hN : u < vx - vy ∨ vx - vy ≤ u ∧ u < vy - vx := by
                          rcases hN with h | h | h
                          · cases h
                          · cases h
                          · omega
                        clear h1 h2
                        rcases hN with g | ⟨g0, g⟩
                        · have d1 : decide (vx - vy ≤ u) = false := decide_eq_false (by omega)
                          go_wp2_with fail
                          go_quiet (fail)
                          go_wp2_with fail
                          exact ⟨⟨y + 1, by omega, by go_num, rfl, HD.out.on nq⟩, by simp [intOf]; omega⟩
                        · have d0 : decide (vx - vy ≤ u) = true := decide_eq_true g0
                          have d1 : decide (vy - vx ≤ u) = false := decide_eq_false (by omega)
                          go_wp2_with fail
                          go_quiet (fail)
                          go_wp2_with fail
                          exact ⟨⟨y + 1, by omega, by go_num, rfl, HD.out.on nq⟩, by simp [intOf]; omega⟩
                      · rw [h1] at r1
                        rw [h2] at r3
                        clear h1 h2 hN
                        go_wp2_with fail
                        go_quiet (fail)
                        go_wp2_with fail
                        exact ⟨⟨y + 1, by omega, by go_num, rfl, HD.out.on nq⟩, by simp [intOf]; omega⟩
                    · rw [h1] at r1
                      clear h1 hN
                      go_wp2_with fail
                      go_quiet (fail)
                      go_wp2_with fail
                      exact ⟨⟨y + 1, by omega, by go_num, rfl, HD.out.on nq⟩, by simp [intOf]; omega⟩
                  · obtain rfl : y = b.length := by omega
                    clear hD
                    go_wp2_with fail
                    exact ⟨⟨x + 1, by omega, by go_num, rfl, HD.out⟩, by simp [intOf]; omega⟩
              · obtain rfl : x = a.length := by omega
                go_wp2_with fail
                go_ret
                exact ⟨rfl, HF.out.2.2.2.2.2.2.trans (HD.out.below.mono HF.out.2.2.2.2.2.2.size)⟩
    · have hE' : ¬ mtE b a u = 0 := fun h => hE (by
        obtain ⟨ca, cb, hu0, hu1⟩ := mtE_ok.1 h
        exact mtE_ok.2 ⟨cb, ca, hu0, hu1⟩)
      rw [mtL_bad hE, mtL_bad hE']
      have hq : ((mtE a b u) != 0) = true := by simp [hE]
      have hq2 : ((mtE a b u) == 0) = false := by simp [hE]
      obtain ⟨E, hEe⟩ : ∃ E, E = mtE a b u := ⟨_, rfl⟩
      rw [← hEe] at hq hq2 hE ⊢
      clear hEe O3 P3 Hmk hE'
      go_wp2_with fail
      go_ret
      exact ⟨rfl, HB3.out⟩

theorem frFruitFormL (A0 : Option Addr) (len0 cap0 : Nat) (z0 : List Int) (A1 : Option Addr) (len1 cap1 : Nat) (z1 : List Int) (u : Int) (w : World) (h0 : IsRow .i64 w A0 len0 cap0 z0) (h1 : IsRow .i64 w A1 len1 cap1 z1) :
    Calls Try.prog 6 #[.slice A0 len0 cap0, .slice A1 len1 cap1, .int .i64 u] w fun e w' => e = .returned (.bool true) ∧ Below w.heap.size w w' := by
  obtain ⟨k1, k2, k3, -⟩ := Is.of_row h0
  obtain ⟨m1, m2, m3, -⟩ := Is.of_row h1
  have H := frForm A0 A1 cap0 cap1 (z0.take len0) (z1.take len1) u w k1 m1
  rw [k2, m2] at H
  exact H

namespace fruitFormRow
open Go.ChangeShapes Go.WideShapes Go.ChangeAt Go.RowKit
open Go.ChangeMaps (open_string shut_string)
set_option linter.unusedVariables false
theorem own : ownKnob Try.prog.godebug = none := by kernel_rfl
theorem laidOut : laidOutB Try.prog = true := by kernel_rfl
set_option maxRecDepth 100000 in
theorem lifted (os : Os) (started : os.Started) (H : Type) (enc : TypeId × Value → H) :
    ReturnsInHanded {} Try.checked os 6 .any (Rows.fruitFormSpec.pre6 enc Try.prog Try.f6 Rows.fruitFormRow.domain false) (Rows.fruitFormSpec.post enc Try.prog Try.f6 false true false false) := by
  refine returnsInHanded_of_change (C := Try.checked) own started (by kernel_rfl) Try.func6
    (ChangeSpec.witness6 (enc := enc) (C := Try.checked) false ⟨#[], #[.slice none 0 0, .slice none 0 0, .int .i64 0], []⟩ 8 (by kernel_rfl) (by kernel_rfl) (by kernel_rfl) (by kernel_rfl)) ?_
  intro W base args ds gs before hval0 hW hcnd _hsz
  have hval : ∀ (j : Nat) t v, Try.f6.params[j]? = some t → args[j]? = some v → Value.okWide Try.prog W .any base t v := hval0
  have hW' := hW
  obtain ⟨p, q, hA0, hV, rfl, hfz, hnd⟩ := hW
  have hA : DataW.TrodAll enc Try.prog W 0 (fun _ => true) true Try.f6.params.toList args.toList ds p := hA0
  rw [Try.params6] at hA hval
  obtain ⟨v0, vs0, d0, ds0, p0, q0, hargs, rfl, rfl, h0, r0⟩ := trodAll_cons hA
  obtain ⟨v1, vs1, d1, ds1, p1, q1, rfl, rfl, rfl, h1, r1⟩ := trodAll_cons r0
  obtain ⟨v2, vs2, d2, ds2, p2, q2, rfl, rfl, rfl, h2, r2⟩ := trodAll_cons r1
  obtain ⟨rfl, rfl, rfl⟩ := trodAll_nil r2
  obtain rfl : args = #[v0, v1, v2] := by cases args; simp_all
  obtain ⟨rfl, rfl⟩ := trodVars_none hV
  have k0 := h0
  have lt0 : ∀ x ∈ p0, x.block < W.heap.size := by obtain ⟨m, hm⟩ := k0; exact DataW.trod_lt m _ _ _ hm
  have k1 := h1
  have lt1 : ∀ x ∈ p1, x.block < W.heap.size := by obtain ⟨m, hm⟩ := k1; exact DataW.trod_lt m _ _ _ hm
  have k2 := h2
  have lt2 : ∀ x ∈ p2, x.block < W.heap.size := by obtain ⟨m, hm⟩ := k2; exact DataW.trod_lt m _ _ _ hm
  obtain ⟨a0, len0, cap0, rfl⟩ := okWide_slice Try.underlying22 (hval 0 22 v0 rfl rfl)
  obtain ⟨z0, w0⟩ : ∃ zs, IsRow .i64 W a0 len0 cap0 zs := by
    obtain ⟨fuel, hf⟩ := h0
    rcases open_ints Try.underlying22 Try.underlying3 (by kernel_rfl) hf with ⟨hcs, _⟩ | ⟨x, l, c, zs, hcs, _, hl, hm, hz, _, hcell, hwz⟩
    · simp [Value.cells] at hcs
      obtain ⟨rfl, rfl, rfl⟩ := hcs
      exact ⟨[], .inl ⟨rfl, rfl, rfl, rfl⟩⟩
    · simp [Value.cells] at hcs
      obtain ⟨rfl, rfl, rfl⟩ := hcs
      exact ⟨zs, .inr ⟨_, rfl, hl, hm, by simpa using hz, hcell, hwz⟩⟩
  obtain ⟨a1, len1, cap1, rfl⟩ := okWide_slice Try.underlying22 (hval 1 22 v1 rfl rfl)
  obtain ⟨z1, w1⟩ : ∃ zs, IsRow .i64 W a1 len1 cap1 zs := by
    obtain ⟨fuel, hf⟩ := h1
    rcases open_ints Try.underlying22 Try.underlying3 (by kernel_rfl) hf with ⟨hcs, _⟩ | ⟨x, l, c, zs, hcs, _, hl, hm, hz, _, hcell, hwz⟩
    · simp [Value.cells] at hcs
      obtain ⟨rfl, rfl, rfl⟩ := hcs
      exact ⟨[], .inl ⟨rfl, rfl, rfl, rfl⟩⟩
    · simp [Value.cells] at hcs
      obtain ⟨rfl, rfl, rfl⟩ := hcs
      exact ⟨zs, .inr ⟨_, rfl, hl, hm, by simpa using hz, hcell, hwz⟩⟩
  obtain ⟨a2, rfl, -, -, w2⟩ := open_int Try.underlying3 (hval 2 3 v2 rfl rfl) h2
  clear hA0 hval0
  refine (frFruitFormL a0 len0 cap0 z0 a1 len1 cap1 z1 a2 W w0 w1).mono fun e W' ⟨he, bel⟩ => ?_
  subst he
  exact ⟨_, rfl, _, _, _, [], _, [], hW', trodAll_mk1 (shut_bool Try.underlying4 _), (trodAll_cons_mk (Below.trod laidOut (by kernel_rfl) (of_decide_eq_true (by kernel_rfl)) k0 bel lt0) (trodAll_cons_mk (Below.trod laidOut (by kernel_rfl) (of_decide_eq_true (by kernel_rfl)) k1 bel lt1) (trodAll_cons_mk (Below.trod laidOut (by kernel_rfl) (of_decide_eq_true (by kernel_rfl)) k2 bel lt2) trodAll_mk0))), rfl, bel.frame _, fun h => by cases h⟩

theorem over : Rows.fruitFormRow.holds Try.pinned (OpenSpec.ofChange Rows.fruitFormSpec) :=
  OpenClaim.holds_of_wide 6 Try.f6 rfl rfl rfl rfl rfl rfl rfl ⟨rfl, rfl, rfl, rfl, rfl⟩ rfl rfl rfl rfl rfl (by kernel_rfl) Try.func6 (by kernel_rfl)
    (of_decide_eq_true (by kernel_rfl)) (by unfold Func.isWrapper; first | (rw [if_pos (by decide +kernel)]; kernel_rfl) | (rw [if_neg (by decide +kernel)]; exact ⟨rfl, rfl⟩))
    (fun os started H enc _ => lifted os started H enc)
theorem proved : Rows.FruitFormSaid := over
end fruitFormRow
end Go.Proofs.Ytmkpblfacnnnoaa
