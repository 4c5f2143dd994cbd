/- The search over all matchings: CopyPairs, tried. -/
import Derived.Test.YtmkpblfacnnnoaaRows
import Derived.WalkKit
import Derived.WalkLawsBesides
import Derived.WalkSpells
import Derived.ProofKit
import Derived.Below
import Derived.Outline
import Derived.Lib.Hide
import Derived.Deep.RegionWith
import Derived.Deep.RegionHeld3
import Derived.Deep.DrawnRows
import Derived.StillTailTactics
import Derived.BigQuiet
import Derived.Deep.QuietTactic
import Derived.Deep.LoopGhost
import Derived.IntWalk
import Derived.Test.YtmkpblfacnnnoaaFrS
namespace Go.Proofs.Ytmkpblfacnnnoaa
open Go.RowKit
attribute [local go_sem ↓] Go.wp_at_zero Go.wp_at_succ
attribute [local go_sem] wrap_lit

set_option maxHeartbeats 1000000 in
theorem copyPairs (A : Option Addr) (cap : Nat) (l : List (Nat × Nat)) (w : World) (hA : Is .i64 w w.heap.size A (flat l)) (hnil : l.length = 0 → A = none ∧ cap = 0) (hl : l.length ≤ 1000000) :
    Calls Try.prog 34 #[.slice A l.length cap] w fun e w' => ∃ v, e = .returned v ∧ Acc .i64 w' w.heap.size 46 2 v l.length (flat l) ∧ Below w.heap.size w w' := by
  obtain ⟨i0, hi0, hz0, hz1, hz2⟩ := info_parts Pair_info
  by_cases h0 : l.length = 0
  · obtain ⟨rfl, rfl⟩ := hnil h0
    obtain rfl : l = [] := List.eq_nil_of_length_eq_zero h0
    go_enter Try.func34, Try.ntmps34
    go_wp2_with (at_builtin; refine wpList_append_own_none rfl _ _ 26 rfl w.heap.size 46 i0 2 Try.underlying26 hi0 _ 0 [] rfl (World.ownsRow_nil _ _ _ _) rfl ?_)
    go_ret
    exact ⟨_, rfl, Acc.nil _ _ _ _ _, Below.refl _ _⟩
  · have fl := flat_len l
    obtain ⟨b, off, rfl, hb, hc⟩ := hA (by omega)
    have Hc := Lib.hid hc
    clear hc hA hnil
    go_enter Try.func34, Try.ntmps34
    go_wp2_with (at_builtin; refine wpList_append_own _ rfl _ _ 26 rfl w.heap.size 46 i0 _ 2 16 Try.underlying26 hi0 hz0 hz1 hz2 rfl (by decide) _ 0 [] rfl (World.ownsRow_nil _ _ _ _) ⟨b, off, none⟩ l.length cap ((flat l).map (Value.int .i64)) rfl (by simp [fl]) (fun j v hv => ?_) (fun v hv => ?_) (by unfold maxLen; omega) (by omega) (Nat.le_refl _) ?_)
    · rw [List.getElem?_map] at hv
      rw [addr_add]
      rcases hj : (flat l)[j]? with _ | x
      · rw [hj] at hv; simp at hv
      · obtain ⟨hjl, rfl⟩ := List.getElem?_eq_some_iff.1 hj
        rw [hj] at hv
        rw [Hc.out j hjl]
        simpa [nth, List.getD_eq_getElem?_getD, hjl] using hv
    · obtain ⟨q, _, rfl⟩ := List.mem_map.1 hv; rfl
    · intro v' w1 hown hg _
      have hb1 : Below w.heap.size w w1 := (Below.refl _ w).grown hg (Nat.le_refl _) (fun k hk => by simp [Value.ownBlock] at hk)
      go_wp2_with fail
      go_ret
      exact ⟨_, rfl, hown, hb1⟩
/-- The marks of what is taken: a whole block of Bools. -/
def BX (w : World) (A : Option Addr) (us : List Bool) : Prop := 0 < us.length → ∃ g, A = some ⟨g, 0, none⟩ ∧ w.heap[g]? = some (.cells (us.map Value.bool).toArray 4 (0, 0))
theorem BX.below {w w1 : World} {A : Option Addr} {us : List Bool} (h : BX w A us) (hb : Below w.heap.size w w1) : BX w1 A us := fun hn => by
  obtain ⟨g, e, hg⟩ := h hn
  exact ⟨g, e, (hb.block g (heap_lt hg)).trans hg⟩
theorem set_marks {w : World} {g k : Nat} {us : List Bool} {T : TypeId} {v : Bool} (h : w.heap[g]? = some (.cells (us.map Value.bool).toArray T (0, 0))) :
    (w.setCell ⟨g, k, none⟩ (.bool v)).heap[g]? = some (.cells ((us.set k v).map Value.bool).toArray T (0, 0)) := by
  rw [setH h]
  congr 2
  simp [List.map_set]
theorem Is.setB {w : World} {B : Nat} {A : Option Addr} {xs : List Int} {g k : Nat} {us : List Bool} {T : TypeId} {v : Value} (h : Is .i64 w B A xs) (hg : w.heap[g]? = some (.cells (us.map Value.bool).toArray T (0, 0))) : Is .i64 (w.setCell ⟨g, k, none⟩ v) B A xs := fun hn => by
  obtain ⟨b, off, e, hb, hc⟩ := h hn
  have hbg : b ≠ g := fun e2 => by
    subst e2
    have h0 := hc 0 hn
    simp only [World.cell?, hg] at h0
    simp at h0
  exact ⟨b, off, e, hb, fun j hj => (World.cell?_of_block (w := w) (Below.heap_setCell _ _ _ _ hbg)).trans (hc j hj)⟩
/-- Taken and given back: nothing has turned. -/
theorem back {W We : World} {g k : Nat} {us : List Bool} {T : TypeId} (hg : W.heap[g]? = some (.cells (us.map Value.bool).toArray T (0, 0))) (hk : k < us.length) (hu : us.getD k false = false)
    (hb : Below (W.setCell ⟨g, k, none⟩ (.bool true)).heap.size (W.setCell ⟨g, k, none⟩ (.bool true)) We) : Below W.heap.size W (We.setCell ⟨g, k, none⟩ (.bool false)) := by
  have hs : (W.setCell ⟨g, k, none⟩ (.bool true)).heap.size = W.heap.size := by simp [World.setCell]
  refine ⟨hb.os, hb.tape, hb.output, ?_, fun i hi => ?_⟩
  · have := hb.size
    rw [hs] at this
    simpa [World.setCell] using this
  · by_cases hig : i = g
    · subst hig
      have h1 := (hb.block i (by omega)).trans (set_marks (k := k) (v := true) hg)
      rw [set_marks (k := k) (v := false) h1, hg, List.set_set]
      have h2 : us.set k false = us := by
        apply List.ext_getElem (by simp)
        intro n h3 h4
        rw [List.getElem_set]
        split
        · rename_i h5
          subst h5
          simpa [List.getD_eq_getElem?_getD, hk] using hu.symm
        · rfl
      rw [h2]
    · rw [Below.heap_setCell _ _ _ _ hig, hb.block i (by omega), Below.heap_setCell _ _ _ _ hig]
theorem trL_len {u : Int} {a b : List Int} {f : List (Nat × Nat) → List Bool → List (Nat × Nat)} {l : List (Nat × Nat)} {n i : Nat} (hf : ∀ l us, (f l us).length ≤ l.length + n) (us : List Bool) : ∀ j, (trL u a b f l us i j).length ≤ l.length + (n + 1)
  | 0 => Nat.le_trans (hf l us) (by omega)
  | j + 1 => by
    have ih := trL_len (u := u) (a := a) (b := b) (l := l) (i := i) hf us j
    have h2 := hf (l ++ [(i, j)]) (us.set j true)
    rw [List.length_append] at h2
    simp only [List.length_cons, List.length_nil] at h2
    show (trS u a b f l us i j _).length ≤ _
    unfold trS
    split
    · split
      · omega
      · exact ih
    · exact ih
theorem tr_len {u : Int} {a b : List Int} : ∀ (n : Nat) (l : List (Nat × Nat)) (us : List Bool), (tr u a b n l us).length ≤ l.length + n
  | 0, _, _ => Nat.le_refl _
  | n + 1, _, us => trL_len (fun l us => tr_len n l us) us _
/-- What the search returns. -/
def TrP (w : World) (R : List (Nat × Nat)) (e : Ending) (w' : World) : Prop := ∃ A3 cap3, e = .returned (.slice A3 R.length cap3) ∧ Is .i64 w' w'.heap.size A3 (flat R) ∧ Below w.heap.size w w'
theorem tr_s0 {u : Int} {a b : List Int} {f : List (Nat × Nat) → List Bool → List (Nat × Nat)} {l best : List (Nat × Nat)} {us : List Bool} {i j : Nat} (h : ¬ (us.getD j false = false ∧ ner u a b i j)) : trS u a b f l us i j best = best := by unfold trS; rw [if_neg h]
theorem tr_s1 {u : Int} {a b : List Int} {f : List (Nat × Nat) → List Bool → List (Nat × Nat)} {l best : List (Nat × Nat)} {us : List Bool} {i j : Nat} (h : us.getD j false = false ∧ ner u a b i j) : trS u a b f l us i j best = if bet (f (l ++ [(i, j)]) (us.set j true)) best = true then f (l ++ [(i, j)]) (us.set j true) else best := by unfold trS; rw [if_pos h]
theorem marks_cell {w : World} {g k : Nat} {us : List Bool} {T : TypeId} (h : w.heap[g]? = some (.cells (us.map Value.bool).toArray T (0, 0))) (hk : k < us.length) : w.cell? ⟨g, k, none⟩ = some (.bool (us.getD k false)) ∧ w.frozen? ⟨g, k, none⟩ = false := by
  constructor
  · simp [World.cell?, h, hk, List.getD_eq_getElem?_getD]
  · simp [World.frozen?, h]
set_option maxHeartbeats 8000000 in
set_option maxRecDepth 10000 in
theorem tried27 (A A' : Option Addr) (cap cap' : Nat) (a b : List Int) (u : Int) (ha : okTo a a.length = true) (hb : okTo b b.length = true) (hla : a.length ≤ 5) (hlb : b.length ≤ 5) :
    ∀ (n : Nat) (l : List (Nat × Nat)) (us : List Bool) (Al Au : Option Addr) (capl capu L i : Nat) (I : Int) (w : World), i + n = a.length → I = (i : Int) → L = l.length → us.length = b.length → l.length ≤ i → (l.length = 0 → Al = none ∧ capl = 0) →
      Is .i64 w w.heap.size A a → Is .i64 w w.heap.size A' b → Is .i64 w w.heap.size Al (flat l) → BX w Au us →
      Calls Try.prog 27 #[.slice A a.length cap, .slice A' b.length cap', .int .i64 u, .int .i64 I, .slice Al L capl, .slice Au b.length capu] w (TrP w (tr u a b n l us)) := by
  intro n
  induction n with
  | zero =>
    intro l us Al Au capl capu L i I w hin hI hL hus hli hnil hA hA' hl hx
    subst hI hL
    have HL := Lib.hid hl
    clear hA hA' hx hl
    have hIe : (i : Int) = (a.length : Int) := by omega
    rw [hIe]
    clear ha hb hnil hli hIe
    go_enter Try.func27, Try.ntmps27
    go_wp2_with fail
    go_ret
    exact ⟨_, _, rfl, HL.out, Below.refl _ _⟩
  | succ n IH =>
    intro l us Al Au capl capu L i I w hin hI hL hus hli hnil hA hA' hl hx
    subst hI hL
    obtain ⟨i0, hi0, hz0, hz1, hz2⟩ := info_parts Pair_info
    have hne : ((i : Int) == (a.length : Int)) = false := by rw [beq_eq_false_iff_ne]; omega
    have hne2 : ¬ (i : Int) = (a.length : Int) := by omega
    have hi5 : i ≤ 4 := by omega
    obtain ⟨T, hT⟩ : ∃ T : Nat → List (Nat × Nat), T = trL u a b (tr u a b n) l us i := ⟨_, rfl⟩
    have HT0 := Lib.hid (show T 0 = tr u a b n l us by rw [hT]; rfl)
    have HTs := Lib.hid (show ∀ k, T (k + 1) = trS u a b (tr u a b n) l us i k (T k) from fun k => by rw [hT]; rfl)
    have HTe := Lib.hid (show tr u a b (n + 1) l us = T b.length by rw [hT]; show trL _ _ _ _ _ _ (a.length - (n + 1)) _ = _; rw [show a.length - (n + 1) = i by omega])
    rw [HTe.out]
    clear hT HTe
    have C0 := Lib.hid (IH l us Al Au capl capu l.length (i + 1) ((i : Int) + 1) w (by omega) (by omega) rfl hus (by omega) hnil hA hA' hl hx)
    have x0 := okTo_pos ha (show i < a.length by omega)
    have x1 := (okTo_at ha (show i < a.length by omega)).2
    obtain ⟨x, hxx⟩ : ∃ x, x = nth a i := ⟨_, rfl⟩
    have HX := Lib.hid hxx
    rw [← hxx] at x0 x1
    have Ha := Lib.hid ha
    have Hb := Lib.hid hb
    have HA := Lib.hid hA
    have HA' := Lib.hid hA'
    have HL := Lib.hid hl
    have HU := Lib.hid hx
    have Hnil := Lib.hid hnil
    have HI := Lib.hid IH
    have Hus := Lib.hid hus
    clear ha hb hA hA' hl hx hnil IH hus hxx
    go_enter Try.func27, Try.ntmps27
    go_wp2_with fail
    refine C0.out.mono ?_
    rintro e w1 ⟨A3, cap3, rfl, his3, hb1⟩
    rw [← HT0.out]
    rw [← HT0.out] at his3
    have h3 := Lib.hid (And.intro his3 hb1)
    clear his3 hb1 C0
    go_wp2_with fail
    go_loopw [13, 14] (fun v i wr => ∃ k Av cv, k ≤ b.length ∧ i = .int .i64 (k : Nat) ∧ v = .slice Av (T k).length cv ∧ Is .i64 wr wr.heap.size Av (flat (T k)) ∧ Below w.heap.size w wr) (fun _ i _ => b.length - (intOf i).toNat)
    case atStart => exact ⟨0, A3, cap3, Nat.zero_le _, rfl, rfl, h3.out.1, h3.out.2⟩
    case round =>
      clear h3
      obtain ⟨k, Av, cv, hk, rfl, rfl, hAv, hB⟩ := hrel
      have HAv := Lib.hid hAv
      have HB := Lib.hid hB
      clear hAv hB
      by_cases hlt : k < b.length
      · have hku : k < us.length := by have := Hus.out; omega
        obtain ⟨g, rfl, hg0⟩ := HU.out (by omega)
        have hg : wr.heap[g]? = some (.cells (us.map Value.bool).toArray 4 (0, 0)) := (HB.out.block g (heap_lt hg0)).trans hg0
        obtain ⟨c1, p1⟩ := marks_cell hg hku
        obtain ⟨ba, oa, rfl, hba, hca⟩ := HA.out (by omega)
        obtain ⟨bb, ob, rfl, hbb, hcb⟩ := HA'.out (by omega)
        have c2 := (HB.out.cell (p := ⟨ba, oa + i, none⟩) hba).trans (hca i (by omega))
        have c3 := (HB.out.cell (p := ⟨bb, ob + k, none⟩) hbb).trans (hcb k hlt)
        have y0 := okTo_pos Hb.out hlt
        have y1 := (okTo_at Hb.out hlt).2
        obtain ⟨y, hyy⟩ : ∃ y, y = nth b k := ⟨_, rfl⟩
        rw [← HX.out] at c2
        rw [← hyy] at c3 y0 y1
        have HY := Lib.hid hyy
        have G := Lib.hid hg
        have hk0 : (0 : Int) ≤ (k : Int) := by omega
        have hkI : (k : Int) < (b.length : Int) := by omega
        have hi0' : (0 : Int) ≤ (i : Int) := by omega
        have hiI : (i : Int) < (a.length : Int) := by omega
        clear hg hg0 hca hcb hyy
        by_cases hub : us.getD k false = true
        · rw [hub] at c1
          have HTk := Lib.hid ((HTs.out k).trans (tr_s0 (by rw [hub]; simp)))
          clear hub
          go_wp2_with fail
          go_quiet (fail)
          go_wp2_with fail
          exact ⟨⟨k + 1, Av, cv, by omega, by go_num, by rw [HTk.out], by rw [HTk.out]; exact HAv.out, below_drewN HB.out _⟩, by simp [intOf]; omega⟩
        · have hub : us.getD k false = false := by simpa using hub
          rw [hub] at c1
          by_cases h1 : x - y ≤ u
          · by_cases h2 : y - x ≤ u
            · have HTk := Lib.hid ((HTs.out k).trans (tr_s1 ⟨hub, by unfold ner; rw [← HX.out, ← HY.out]; exact ⟨h1, h2⟩⟩))
              have Hub := Lib.hid hub
              have d1 : decide (u < x - y) = false := decide_eq_false (by omega)
              have d2 : decide (u < y - x) = false := decide_eq_false (by omega)
              clear hub
              go_wp2_with fail
              go_quiet (fail)
              obtain ⟨W, hW⟩ : ∃ W, W = wr.drewN nq := ⟨_, rfl⟩
              have gW : W.heap[g]? = some (.cells (us.map Value.bool).toArray 4 (0, 0)) := by rw [hW]; exact G.out
              have BW : Below w.heap.size w W := by rw [hW]; exact below_drewN HB.out _
              have vW : Is .i64 W W.heap.size Av (flat (T k)) := by rw [hW]; exact HAv.out
              rw [← hW]
              clear hW c1 p1 c2 c3 G HB HAv
              obtain ⟨c1, p1⟩ := marks_cell gW hku
              have HBW := Lib.hid BW
              have HgW := Lib.hid gW
              have HvW := Lib.hid vW
              clear BW gW vW
              go_wp2_with fail
              clear c1 p1
              obtain ⟨X, hX⟩ : ∃ X, X = W.setCell ⟨g, k, none⟩ (.bool true) := ⟨_, rfl⟩
              have sX : X.heap.size = W.heap.size := by rw [hX]; simp [World.setCell]
              have sW := HBW.out.size
              have gX : X.heap[g]? = some (.cells ((us.set k true).map Value.bool).toArray 4 (0, 0)) := by rw [hX]; exact set_marks HgW.out
              have aX : Is .i64 X X.heap.size (some ⟨ba, oa, none⟩) a := by rw [hX]; exact ((HA.out.below HBW.out).mono (by rw [← hX]; omega)).setB HgW.out
              have bX : Is .i64 X X.heap.size (some ⟨bb, ob, none⟩) b := by rw [hX]; exact ((HA'.out.below HBW.out).mono (by rw [← hX]; omega)).setB HgW.out
              have lX : Is .i64 X X.heap.size Al (flat l) := by rw [hX]; exact ((HL.out.below HBW.out).mono (by rw [← hX]; omega)).setB HgW.out
              have vX : Is .i64 X X.heap.size Av (flat (T k)) := by rw [hX]; exact (HvW.out.mono (by rw [← hX]; omega)).setB HgW.out
              rw [← hX]
              have HX2 := Lib.hid hX
              have GX := Lib.hid gX
              have AX := Lib.hid aX
              have BX' := Lib.hid bX
              have LX := Lib.hid lX
              have VX := Lib.hid vX
              clear hX gX aX bX lX vX
              refine (copyPairs Al capl l X LX.out Hnil.out (by omega)).mono ?_
              rintro e w2 ⟨v2, rfl, acc2, hb2⟩
              have s2 := hb2.size
              have ACC := Lib.hid acc2
              have HB2 := Lib.hid hb2
              clear acc2 hb2
              go_wp2_with (at_builtin; refine wpList_app rfl _ _ 26 rfl .i64 X.heap.size 46 i0 _ 2 16 Try.underlying26 hi0 hz0 hz1 hz2 rfl (by decide) _ _ _ [(i : Int), (k : Int)] rfl ACC.out _ rfl rfl rfl (by omega) (by decide) s2 ?_; intro v' w3 acc3 hb3; obtain ⟨A4, cap4, rfl, own4⟩ := acc3.own)
              have s3 := hb3.size
              have B3 : Below X.heap.size X w3 := HB2.out.trans hb3
              have HB3 := Lib.hid B3
              have l4 : Is .i64 w3 w3.heap.size A4 (flat (l ++ [(i, k)])) := by rw [flat_snoc]; exact own4.is
              have x4 : BX w3 (some ⟨g, 0, none⟩) (us.set k true) := fun _ => ⟨g, rfl, (B3.block g (heap_lt GX.out)).trans GX.out⟩
              have R0 := tr_len (u := u) (a := a) (b := b) n (l ++ [(i, k)]) (us.set k true)
              have C := Lib.hid (HI.out (l ++ [(i, k)]) (us.set k true) A4 (some ⟨g, 0, none⟩) cap4 capu (l.length + 1) (i + 1) ((i : Int) + 1) w3 (by omega) (by omega) (by simp) (by simp [Hus.out]) (by simp; omega) (by simp) ((AX.out.below B3).mono B3.size) ((BX'.out.below B3).mono B3.size) l4 x4)
              clear B3 hb3 acc3 own4 l4 x4 ACC HB2
              refine C.out.mono ?_
              rintro e w4 ⟨A5, cap5, rfl, his5, hb4⟩
              clear C
              obtain ⟨R, hR⟩ : ∃ R, R = tr u a b n (l ++ [(i, k)]) (us.set k true) := ⟨_, rfl⟩
              rw [← hR] at his5 R0 ⊢
              have HTk := Lib.hid (show T (k + 1) = if bet R (T k) = true then R else T k by rw [hR]; exact HTk.out)
              clear hR
              have s4 := hb4.size
              have B4 : Below X.heap.size X w4 := HB3.out.trans (hb4.mono (by omega))
              have g4 := (B4.block g (heap_lt GX.out)).trans GX.out
              obtain ⟨c4, p4⟩ := marks_cell g4 (by simp [hku] : k < (us.set k true).length)
              have R1 : R.length ≤ 1000000 := by rw [List.length_append] at R0; simp only [List.length_cons, List.length_nil] at R0; omega
              have HB4 := Lib.hid B4
              have G4 := Lib.hid g4
              have H5 := Lib.hid his5
              clear B4 g4 his5 hb4 R0
              go_wp2_with fail
              obtain ⟨F, hF⟩ : ∃ F, F = w4.setCell ⟨g, k, none⟩ (.bool false) := ⟨_, rfl⟩
              have sF : F.heap.size = w4.heap.size := by rw [hF]; simp [World.setCell]
              have BF : Below W.heap.size W F := by rw [hF]; exact back HgW.out hku Hub.out (by rw [← HX2.out]; exact HB4.out)
              have h5F : Is .i64 F F.heap.size A5 (flat R) := by rw [hF]; exact (H5.out.mono (by rw [← hF]; omega)).setB G4.out
              have vF : Is .i64 F F.heap.size Av (flat (T k)) := by rw [hF]; exact ((VX.out.below HB4.out).mono (by rw [← hF]; omega)).setB G4.out
              rw [← hF]
              have HBF := Lib.hid (HBW.out.trans (BF.mono sW))
              have H5F := Lib.hid h5F
              have HVF := Lib.hid vF
              clear hF BF h5F vF c4 p4 H5 VX HB4 G4
              refine (better35 A5 Av cap5 cv R (T k) F.heap.size F H5F.out HVF.out R1).mono ?_
              rintro e w5 ⟨rfl, hdr⟩
              have HD := Lib.hid hdr
              clear hdr
              rcases hq : bet R (T k) with _ | _
              · have HTk := Lib.hid (show T (k + 1) = T k by rw [HTk.out, hq]; rfl)
                clear hq
                go_wp2_with fail
                exact ⟨⟨k + 1, Av, cv, by omega, by go_num, by rw [HTk.out], by rw [HTk.out]; exact (HD.out.is HVF.out).mono HD.out.below.size, HBF.out.trans (HD.out.below.mono HBF.out.size)⟩, by simp [intOf]; omega⟩
              · have HTk := Lib.hid (show T (k + 1) = R by rw [HTk.out, hq]; rfl)
                clear hq
                go_wp2_with fail
                exact ⟨⟨k + 1, A5, cap5, by omega, by go_num, by rw [HTk.out], by rw [HTk.out]; exact (HD.out.is H5F.out).mono HD.out.below.size, HBF.out.trans (HD.out.below.mono HBF.out.size)⟩, by simp [intOf]; omega⟩
            · have HTk := Lib.hid ((HTs.out k).trans (tr_s0 (by unfold ner; rw [← HX.out, ← HY.out]; exact fun h => h2 h.2.2)))
              have d1 : decide (u < x - y) = false := decide_eq_false (by omega)
              have d2 : decide (u < y - x) = true := decide_eq_true (by omega)
              have h2' : u < y - x := by omega
              clear hub h2
              go_wp2_with fail
              go_quiet (fail)
              go_wp2_with fail
              exact ⟨⟨k + 1, Av, cv, by omega, by go_num, by rw [HTk.out], by rw [HTk.out]; exact HAv.out, below_drewN HB.out _⟩, by simp [intOf]; omega⟩
          · have HTk := Lib.hid ((HTs.out k).trans (tr_s0 (by unfold ner; rw [← HX.out, ← HY.out]; exact fun h => h1 h.2.1)))
            have d1 : decide (u < x - y) = true := decide_eq_true (by omega)
            have h1' : u < x - y := by omega
            clear hub h1
            go_wp2_with fail
            go_quiet (fail)
            go_wp2_with fail
            exact ⟨⟨k + 1, Av, cv, by omega, by go_num, by rw [HTk.out], by rw [HTk.out]; exact HAv.out, below_drewN HB.out _⟩, by simp [intOf]; omega⟩
      · obtain rfl : k = b.length := by omega
        go_wp2_with fail
        go_ret
        exact ⟨_, _, rfl, HAv.out, HB.out⟩
end Go.Proofs.Ytmkpblfacnnnoaa
