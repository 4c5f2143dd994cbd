/- squitter: Save. -/
import Derived.Test.YtkikokldijccnaaGreatDoorRows
import Derived.WalkKit
import Derived.WalkLawsBesides
import Derived.WalkSpells
import Derived.ProofKit
import Derived.Below
import Derived.Outline
import Derived.Lib.Hide
import Derived.Deep.RegionWith
import Derived.Deep.RegionHeld3
import Derived.Deep.DrawnRows
import Derived.StillTailTactics
import Derived.BigQuiet
import Derived.Deep.QuietTactic
import Derived.Deep.LoopGhost
import Derived.IntWalk
import Derived.BigQuiet
import Derived.Deep.CutRange
import Derived.Deep.CutBlock
import Derived.Deep.DeepCutAuto
import Derived.ArgAppend
import Derived.Test.YtkikokldijccnaaGreatDoorSqM
namespace Go.Proofs.YtkikokldijccnaaGreatDoor
open Go.RowKit Go.Maps
attribute [local go_sem ↓] Go.wp_at_zero Go.wp_at_succ
attribute [local go_sem] wrap_lit
theorem save20z {w : World} {H : Nat} (c4 : w.cell? ⟨H, 4, none⟩ = some (.map none)) : Calls Tryz.prog 11 #[.pointer (some ⟨H, 0, none⟩)] w fun e w' => e = .returned (.string ⟨#[]⟩) ∧ w' = w := by
  go_enter Tryz.func11, Tryz.ntmps11
  go_wp2_with (first | (go_at_call 17; refine (none32z _ H c4).mono ?_; rintro e w1 ⟨rfl, rfl⟩) | go_in)
  go_ret
  exact ⟨rfl, rfl⟩
theorem save20n {w : World} : Calls Tryz.prog 11 #[.pointer none] w fun e w' => e = .returned (.string ⟨#[]⟩) ∧ w' = w := by
  go_enter Tryz.func11, Tryz.ntmps11
  go_wp2_with (first | (go_at_call 17; refine (none32n _).mono ?_; rintro e w1 ⟨rfl, rfl⟩) | go_in)
  go_ret
  exact ⟨rfl, rfl⟩
theorem size_alloc (w : World) (o : Obj) : (w.alloc o).heap.size = w.heap.size + 1 := Array.size_push _
def textU (t : Ts) (k : Nat) : Tx := lineX [t.need, t.win, t.keep, t.now] ++ ((t.es.take k).map fun p => lineX (rowX p)).flatten
theorem textU_zero (t : Ts) : textU t 0 = lineX [t.need, t.win, t.keep, t.now] := by simp [textU]
theorem textU_succ {t : Ts} {k : Nat} {p : Int × Tk} (h : t.es[k]? = some p) : textU t (k + 1) = textU t k ++ lineX (rowX p) := by
  obtain ⟨h1, h2⟩ := List.getElem?_eq_some_iff.1 h
  unfold textU
  rw [List.take_succ_eq_append_getElem h1, h2]
  simp
theorem textU_all (t : Ts) : textU t t.es.length = saveT t := by
  unfold textU saveT
  rw [List.take_of_length_le (Nat.le_refl _)]
theorem textU_le {t : Ts} (h : Ok t) (k : Nat) : (textU t k).length ≤ 60000 := by
  have h1 := save_len h
  have key : ∀ (l : List (Int × Tk)) (k : Nat), (((l.take k).map fun p => lineX (rowX p)).flatten).length ≤ ((l.map fun p => lineX (rowX p)).flatten).length := by
    intro l
    induction l with
    | nil => intro k; simp
    | cons p l ih =>
      intro k
      cases k with
      | zero => simp
      | succ k =>
        have := ih k
        simp only [List.take_succ_cons, List.map_cons, List.flatten_cons, List.length_append]
        omega
  have := key t.es k
  unfold saveT at h1
  unfold textU
  rw [List.length_append] at h1 ⊢
  omega
theorem lineX_lenJ (ns : List Int) : (lineX ns).length = (lineJ ns).length + 1 := by simp [lineX]
theorem head_ok {t : Ts} (h : Ok t) : ∀ n ∈ [t.need, t.win, t.keep, t.now], okN n := by
  intro n hn
  have h0 := h.t0
  have h1 := h.t1
  have := h.n1; have := h.n8; have := h.nw; have := h.w64; have := h.wk; have := h.k1
  simp only [List.mem_cons, List.not_mem_nil, or_false] at hn
  unfold okN
  omega
theorem nth_append_left (l m : List Int) {j : Nat} (h : j < l.length) : nth (l ++ m) j = nth l j := by
  simp [nth, List.getD_eq_getElem?_getD, List.getElem?_append_left h]
set_option maxRecDepth 100000 in
set_option maxHeartbeats 4000000 in
theorem save20 {K : Nat} {w : World} {H mb : Nat} {t : Ts} {bk gk : Int → Nat} {O : Nat → Prop} (E : Env K w) (hK : K ≤ w.heap.size) (hok : Ok t) (hT : Tab w H mb t bk gk O) : Calls Tryz.prog 11 #[.pointer (some ⟨H, 0, none⟩)] w fun e w' => e = .returned (.string (S (saveT t))) ∧ Below w.heap.size w w' := by
  have hb4 : w.cell? ⟨H, 4, none⟩ = some (.map (some mb)) := hT.c.cell.2.2.2.2
  have hHs := hT.c.lt H hT.c.oH
  have HT := Lib.hid hT
  have HE := Lib.hid E
  clear hT E
  have hsf : ∀ (w : World) (a : Addr) (k : Nat), _ := fun w a k => run_store Tryz.prog w a (.func (.func k) #[] #[]) .plain rfl
  go_enter Tryz.func11, Tryz.ntmps11
  go_wp2_with (first
    | (go_at_call 17; refine (none32 _ H mb hb4).mono ?_; rintro e w1 ⟨rfl, hw⟩; rw [hw]; clear hw w1)
    | go_in)
  refine name_world ?_
  intro W0 hW0
  have hb0 : Bld w.heap.size w.heap.size [] W0 := by rw [hW0]; exact Bld.new w
  have HS0 : W0.heap[H]? = some (.cells #[.int .i64 t.need, .int .i64 t.win, .int .i64 t.keep, .int .i64 t.now, .map (some mb)] 36 (0, 0)) := by rw [hW0]; exact (Below.heap_alloc _ _ _ hHs).trans HT.out.c.cells
  have sW : W0.heap.size = w.heap.size + 1 := by rw [hW0]; exact Array.size_push _
  have bW : Below w.heap.size w W0 := by rw [hW0]; exact (Below.refl _ w).alloc (Nat.le_refl _) _
  clear hW0
  have SW := Lib.hid sW
  have BW := Lib.hid bW
  have HB0 := Lib.hid hb0
  have HL : Hid (H < W0.heap.size) := Lib.hid (by omega)
  clear sW bW hb0
  have LA : Hid (∀ W1, Below W0.heap.size W0 W1 → W1.heap[W0.heap.size]? = some (.cells #[.int .i64 t.need, .int .i64 t.win, .int .i64 t.keep, .int .i64 t.now] 3 (0, 0)) → Calls Tryz.prog 19 #[.slice (some ⟨W0.heap.size, 0, none⟩) 4 4, .pointer (some ⟨w.heap.size, 0, none⟩)] W1 fun e w' => e = .returned (.tuple #[]) ∧ Bld w.heap.size w.heap.size (textU t 0) w' ∧ Wr w.heap.size w.heap.size W1 w') := Lib.hid (fun W1 hb hg => by
    have hsw := SW.out
    have hl := textU_le hok 0
    rw [textU_zero] at hl
    rw [lineX_lenJ] at hl
    have hw1 : Below w.heap.size w W1 := BW.out.trans (hb.mono (by omega))
    have T := line35 (K := K) (B := w.heap.size) (b := w.heap.size) (g := W0.heap.size) (c := 4) (ns := [t.need, t.win, t.keep, t.now]) (l := []) (HE.out.below (hw1.mono hK)) hK (HB0.out.below hb) hw1.size hg (fun j hj => by
      rcases j with _ | _ | _ | _ | j
      · rfl
      · rfl
      · rfl
      · rfl
      · simp at hj; omega) (head_ok hok) (by simp only [List.length_nil]; omega) (by simp) (by omega)
    rw [textU_zero]
    exact T)
  refine wp_region_held_drew (S := fun w' => w'.heap[H]? = some (.cells #[.int .i64 t.need, .int .i64 t.win, .int .i64 t.keep, .int .i64 t.now, .map (some mb)] 36 (0, 0))) (by kernel_rfl) (HS0) (fun hS => ?_)
  refine wpAnyH_take (i := 0) (v := ?vA1) rfl (by kernel_rfl) (by kernel_rfl) (by kernel_rfl) (fun _ _ _ h => h) (Or.inl ⟨by kernel_rfl, ?hA1⟩) hS ?rA1
  case hA1 =>
    intro w1 hSw
    have c0 := (cellOf (i := 0) hSw)
    have c1 := (cellOf (i := 1) hSw)
    have c2 := (cellOf (i := 2) hSw)
    have c3 := (cellOf (i := 3) hSw)
    clear hSw
    go_simp
    try with_reducible rfl
  (try go_frame)
  refine wpAnyH_take (i := 1) (v := ?vA2) rfl (by kernel_rfl) (by kernel_rfl) (by kernel_rfl) (fun _ _ _ h => h) (Or.inl ⟨by kernel_rfl, ?hA2⟩) hS ?rA2
  case hA2 =>
    intro w1 hSw
    have c0 := (cellOf (i := 0) hSw)
    have c1 := (cellOf (i := 1) hSw)
    have c2 := (cellOf (i := 2) hSw)
    have c3 := (cellOf (i := 3) hSw)
    clear hSw
    go_simp
    try with_reducible rfl
  (try go_frame)
  refine wpAnyH_take (i := 2) (v := ?vA3) rfl (by kernel_rfl) (by kernel_rfl) (by kernel_rfl) (fun _ _ _ h => h) (Or.inl ⟨by kernel_rfl, ?hA3⟩) hS ?rA3
  case hA3 =>
    intro w1 hSw
    have c0 := (cellOf (i := 0) hSw)
    have c1 := (cellOf (i := 1) hSw)
    have c2 := (cellOf (i := 2) hSw)
    have c3 := (cellOf (i := 3) hSw)
    clear hSw
    go_simp
    try with_reducible rfl
  (try go_frame)
  refine wpAnyH_take (i := 3) (v := ?vA4) rfl (by kernel_rfl) (by kernel_rfl) (by kernel_rfl) (fun _ _ _ h => h) (Or.inl ⟨by kernel_rfl, ?hA4⟩) hS ?rA4
  case hA4 =>
    intro w1 hSw
    have c0 := (cellOf (i := 0) hSw)
    have c1 := (cellOf (i := 1) hSw)
    have c2 := (cellOf (i := 2) hSw)
    have c3 := (cellOf (i := 3) hSw)
    clear hSw
    go_simp
    try with_reducible rfl
  (try go_frame)
  refine wpAnyH_take (i := 4) (v := ?vA5) rfl (by kernel_rfl) (by kernel_rfl) (by kernel_rfl) (fun _ _ _ h => h) (Or.inl ⟨by kernel_rfl, ?hA5⟩) hS ?rA5
  case hA5 =>
    intro w1 hSw
    have c0 := (cellOf (i := 0) hSw)
    have c1 := (cellOf (i := 1) hSw)
    have c2 := (cellOf (i := 2) hSw)
    have c3 := (cellOf (i := 3) hSw)
    clear hSw
    go_simp
    try with_reducible rfl
  (try go_frame)
  refine wpAnyH_take (i := 5) (v := ?vA6) rfl (by kernel_rfl) (by kernel_rfl) (by kernel_rfl) (fun _ _ _ h => h) (Or.inl ⟨by kernel_rfl, ?hA6⟩) hS ?rA6
  case hA6 =>
    intro w1 hSw
    have c0 := (cellOf (i := 0) hSw)
    have c1 := (cellOf (i := 1) hSw)
    have c2 := (cellOf (i := 2) hSw)
    have c3 := (cellOf (i := 3) hSw)
    clear hSw
    go_simp
    try with_reducible rfl
  (try go_frame)
  refine wpAnyH_take (i := 6) (v := ?vA7) rfl (by kernel_rfl) (by kernel_rfl) (by kernel_rfl) (fun _ _ _ h => h) (Or.inl ⟨by kernel_rfl, ?hA7⟩) hS ?rA7
  case hA7 =>
    intro w1 hSw
    have c0 := (cellOf (i := 0) hSw)
    have c1 := (cellOf (i := 1) hSw)
    have c2 := (cellOf (i := 2) hSw)
    have c3 := (cellOf (i := 3) hSw)
    clear hSw
    go_simp
    try with_reducible rfl
  (try go_frame)
  refine wpAnyH_take (i := 7) (v := ?vA8) rfl (by kernel_rfl) (by kernel_rfl) (by kernel_rfl) (fun _ _ _ h => h) (Or.inl ⟨by kernel_rfl, ?hA8⟩) hS ?rA8
  case hA8 =>
    intro w1 hSw
    have c0 := (cellOf (i := 0) hSw)
    have c1 := (cellOf (i := 1) hSw)
    have c2 := (cellOf (i := 2) hSw)
    have c3 := (cellOf (i := 3) hSw)
    clear hSw
    go_simp
    try with_reducible rfl
  (try go_frame)
  refine wpAnyH_take (i := 8) (v := ?vA9) rfl (by kernel_rfl) (by kernel_rfl) (by kernel_rfl) (fun _ _ _ h => h) (Or.inl ⟨by kernel_rfl, ?hA9⟩) hS ?rA9
  case hA9 =>
    intro w1 hSw
    have c0 := (cellOf (i := 0) hSw)
    have c1 := (cellOf (i := 1) hSw)
    have c2 := (cellOf (i := 2) hSw)
    have c3 := (cellOf (i := 3) hSw)
    clear hSw
    go_simp
    try with_reducible rfl
  (try go_frame)
  refine wpAnyH_take (i := 9) (v := ?vA10) rfl (by kernel_rfl) (by kernel_rfl) (by kernel_rfl) (fun _ _ _ h => h) (Or.inl ⟨by kernel_rfl, ?hA10⟩) hS ?rA10
  case hA10 =>
    intro w1 hSw
    have c0 := (cellOf (i := 0) hSw)
    have c1 := (cellOf (i := 1) hSw)
    have c2 := (cellOf (i := 2) hSw)
    have c3 := (cellOf (i := 3) hSw)
    clear hSw
    go_simp
    try with_reducible rfl
  (try go_frame)
  refine wpAnyH_take (i := 10) (v := ?vA11) rfl (by kernel_rfl) (by kernel_rfl) (by kernel_rfl) (fun _ _ _ h => h) (Or.inl ⟨by kernel_rfl, ?hA11⟩) hS ?rA11
  case hA11 =>
    intro w1 hSw
    have c0 := (cellOf (i := 0) hSw)
    have c1 := (cellOf (i := 1) hSw)
    have c2 := (cellOf (i := 2) hSw)
    have c3 := (cellOf (i := 3) hSw)
    clear hSw
    go_simp
    try with_reducible rfl
  (try go_frame)
  refine wpAnyH_take (i := 11) (v := ?vA12) rfl (by kernel_rfl) (by kernel_rfl) (by kernel_rfl) (fun _ _ _ h => h) (Or.inl ⟨by kernel_rfl, ?hA12⟩) hS ?rA12
  case hA12 =>
    intro w1 hSw
    have c0 := (cellOf (i := 0) hSw)
    have c1 := (cellOf (i := 1) hSw)
    have c2 := (cellOf (i := 2) hSw)
    have c3 := (cellOf (i := 3) hSw)
    clear hSw
    go_simp
    try with_reducible rfl
  (try go_frame)
  refine wpAnyH_take (i := 12) (v := ?vA13) rfl (by kernel_rfl) (by kernel_rfl) (by kernel_rfl) (fun _ _ _ h => h) (Or.inl ⟨by kernel_rfl, ?hA13⟩) hS ?rA13
  case hA13 =>
    intro w1 hSw
    have c0 := (cellOf (i := 0) hSw)
    have c1 := (cellOf (i := 1) hSw)
    have c2 := (cellOf (i := 2) hSw)
    have c3 := (cellOf (i := 3) hSw)
    clear hSw
    go_simp
    try with_reducible rfl
  (try go_frame)
  refine wpAnyH_take (i := 13) (v := ?vA14) rfl (by kernel_rfl) (by kernel_rfl) (by kernel_rfl) (fun _ _ _ h => h) (Or.inl ⟨by kernel_rfl, ?hA14⟩) hS ?rA14
  case hA14 =>
    intro w1 hSw
    have c0 := (cellOf (i := 0) hSw)
    have c1 := (cellOf (i := 1) hSw)
    have c2 := (cellOf (i := 2) hSw)
    have c3 := (cellOf (i := 3) hSw)
    clear hSw
    go_simp
    try with_reducible rfl
  (try go_frame)
  refine wpAnyH_take (i := 14) (v := ?vA15) rfl (by kernel_rfl) (by kernel_rfl) (by kernel_rfl) (fun _ _ _ h => h) (Or.inl ⟨by kernel_rfl, ?hA15⟩) hS ?rA15
  case hA15 =>
    intro w1 hSw
    have c0 := (cellOf (i := 0) hSw)
    have c1 := (cellOf (i := 1) hSw)
    have c2 := (cellOf (i := 2) hSw)
    have c3 := (cellOf (i := 3) hSw)
    clear hSw
    go_simp
    try with_reducible rfl
  (try go_frame)
  refine wpAnyH_take (i := 15) (v := ?vA16) rfl (by kernel_rfl) (by kernel_rfl) (by kernel_rfl) (fun _ _ _ h => h) (Or.inl ⟨by kernel_rfl, ?hA16⟩) hS ?rA16
  case hA16 =>
    intro w1 hSw
    have c0 := (cellOf (i := 0) hSw)
    have c1 := (cellOf (i := 1) hSw)
    have c2 := (cellOf (i := 2) hSw)
    have c3 := (cellOf (i := 3) hSw)
    clear hSw
    go_simp
    try with_reducible rfl
  (try go_frame)
  refine wpAnyH_take (i := 16) (v := ?vA17) rfl (by kernel_rfl) (by kernel_rfl) (by kernel_rfl) (fun _ _ _ h => h) (Or.inl ⟨by kernel_rfl, ?hA17⟩) hS ?rA17
  case hA17 =>
    intro w1 hSw
    have c0 := (cellOf (i := 0) hSw)
    have c1 := (cellOf (i := 1) hSw)
    have c2 := (cellOf (i := 2) hSw)
    have c3 := (cellOf (i := 3) hSw)
    clear hSw
    go_simp
    try with_reducible rfl
  (try go_frame)
  refine wpAnyH_ready (rs := [17]) (by kernel_rfl) (by simp) (AllReadyH.cons rfl (fun K hK => ?_) AllReadyH.nil)
  go_simp
  refine hK.out _ _ ((Below.heap_alloc _ _ _ HL.out).trans HS0) (fun hS => ?_)
  clear hK K
  refine wpAnyH_ready (rs := [18]) (by kernel_rfl) (by simp) (AllReadyH.cons rfl (fun K0 hK0 => ?_) AllReadyH.nil)
  go_simp
  refine (LA.out _ (((Below.refl _ W0).alloc (Nat.le_refl _) _).drew) (heap_alloc_new _ _)).mono ?_
  rintro e w1 ⟨rfl, hbd, hwr⟩
  have hb1 : Below w.heap.size W0 w1 := ((((Below.refl _ W0).alloc (Nat.le_refl _) _).drew).mono (by rw [SW.out]; exact Nat.le_succ _)).trans hwr.below
  refine hK0.out _ _ ((hb1.block H hHs).trans HS0) (fun hS => ?_)
  clear hK0 K0
  refine wpAnyH_done (by kernel_rfl) ?_ _
  have B1 := Lib.hid (BW.out.trans hb1)
  have BD1 := Lib.hid hbd
  clear hwr hb1 hbd LA
  have m4 : w1.cell? ⟨H, 4, none⟩ = some (.map (some mb)) := cellOf hS
  have SO := Lib.hid (sorted39 (w := w1) (HT.out.own.kept (B1.out.block mb (HT.out.c.lt mb HT.out.c.om))) hok.asc (by have := hok.len; omega))
  go_wp2_with (first
    | (go_at_call 24; refine (keys40 mb w1).mono ?_; rintro e w2 ⟨rfl, rfl⟩)
    | (go_at_call 23; refine SO.out.mono ?_; rintro e w3 ⟨v, rfl, hacc, hb3⟩; obtain ⟨A, cap, rfl, hown⟩ := hacc.own)
    | go_in)
  have hs1 := (Below.refl _ w1).alloc (Nat.le_refl _) (.cells #[.map (some mb)] 34)
  have hb13 : Below w1.heap.size w1 w3 := hs1.trans (hb3.mono (Nat.le_succ _))
  have B3 := Lib.hid (B1.out.trans (hb13.mono B1.out.size))
  have BD3 := Lib.hid (BD1.out.below hb13)
  have HOW := Lib.hid hown
  have HW1 : Hid (w.heap.size ≤ w1.heap.size) := Lib.hid B1.out.size
  clear hb13 hs1 hown hacc hb3
  try go_frame
  go_loopw [6, 7, 8, 38] (fun _ _ _ i wr => ∃ k : Nat, k ≤ t.es.length ∧ i = .int .i64 k ∧ Bld w.heap.size w.heap.size (textU t k) wr ∧ Wr w.heap.size w.heap.size w3 wr) (fun _ _ _ i _ => t.es.length - (intOf i).toNat)
  case atStart => exact ⟨0, Nat.zero_le _, rfl, BD3.out, Wr.refl _ _ _⟩
  case round =>
    obtain ⟨k, hk, rfl, hbd, hwr⟩ := hrel
    have Br : Below w.heap.size w wr := B3.out.trans hwr.below
    have HBR := Lib.hid Br
    have HBD := Lib.hid hbd
    have HWR := Lib.hid hwr
    clear hbd
    by_cases hlt : k < t.es.length
    · obtain ⟨p, hp⟩ : ∃ p, t.es[k]? = some p := ⟨_, List.getElem?_eq_getElem hlt⟩
      have hmem : p ∈ t.es := List.mem_of_getElem? hp
      have hoe := hok.ent p hmem
      obtain ⟨g, cs, rfl, hgB, hg, hc⟩ := HOW.out (by rw [List.length_map]; omega)
      have hgr := hwr.keep hg (by have := HW1.out; omega) (by decide)
      have hck : wr.cell? ⟨g, k, none⟩ = some (.int .i64 p.1) := by
        rw [cellOf hgr, hc k (by rw [List.length_map]; omega)]
        simp [nth, List.getD_eq_getElem?_getD, hp]
      have hrH : wr.cell? ⟨H, 4, none⟩ = some (.map (some mb)) := (Br.cell (p := ⟨H, 4, none⟩) hHs).trans hb4
      have hlk : lookT p.1 t.es = some p.2 := look_of_mem hok.asc hmem
      have hlook := look_run (HT.out.own.kept (Br.block mb (HT.out.c.lt mb HT.out.c.om))) p.1 (wf_i64 hoe.a0 (by have := hoe.a1; omega))
      have hlv : lookV bk p.1 t.es = .pointer (some ⟨bk p.1, 0, none⟩) := by unfold lookV; rw [hlk]
      rw [hlv] at hlook
      have hOb := HT.out.c.ob p hmem
      have hea : EntAt wr (bk p.1) (gk p.1) p.2 := (HT.out.c.ent p hmem).kept (Br.block _ (HT.out.c.lt _ hOb.1)) (Br.block _ (HT.out.c.lt _ hOb.2))
      obtain ⟨off, capx, cur, jb, jg, jcap, jcur, jmax, jval⟩ := hea
      have f0 : wr.cell? ⟨bk p.1, 0, none⟩ = some (.bool p.2.kn) := cellOf jb
      have f1 : wr.cell? ⟨bk p.1, 1, none⟩ = some (.slice (some ⟨gk p.1, off, none⟩) p.2.cy.length capx) := cellOf jb
      have hbw := heap_lt jb
      have hN1 : 1 ≤ p.2.cy.length := List.length_pos_iff.2 hoe.ne
      have hN64 : (p.2.cy.length : Int) ≤ t.win := hoe.len (by have := hok.n1; have := hok.nw; omega)
      have hw64 := hok.w64
      have hrow : ∀ n ∈ rowX p, okN n := ((row_ok hok.wk).2 hoe).okN hok.t1
      have hlen1 := textU_le hok (k + 1)
      rw [textU_succ hp, List.length_append, lineX_lenJ] at hlen1
      obtain ⟨i0, hi0, hz0, hz1, hz2⟩ := info_parts int_info
      have AR := run_append_arg_grows (P := Tryz.prog) (wr.alloc (.cells #[.int .i64 p.1, .int .i64 (bitI p.2.kn)] 3)) 31 31 3 i0 _ 1 8 Tryz.underlying31 hi0 hz0 hz1 hz2 rfl (by decide) ⟨wr.heap.size, 0, none⟩ 2 2 [.int .i64 p.1, .int .i64 (bitI p.2.kn)] rfl (fun j u hj => by
        rw [Addr.add_lit]
        refine (cellOf (heap_alloc_new wr _)).trans ?_
        rw [Nat.zero_add]
        simpa using hj) ⟨gk p.1, off, none⟩ p.2.cy.length capx (p.2.cy.map (Value.int .i64)) (by simp) (fun j u hj => by
        rw [List.getElem?_map] at hj
        obtain ⟨c, hc', rfl⟩ := Option.map_eq_some_iff.1 hj
        rw [Addr.add_lit]
        exact (cellOf ((Below.heap_alloc wr _ _ (heap_lt jg)).trans jg)).trans (jval j c hc')) (by omega) (by unfold maxLen; omega) (by omega)
      obtain ⟨v', w4, hrun, hrow4, hg4⟩ := AR
      have e4 : [Value.int .i64 p.1, .int .i64 (bitI p.2.kn)] ++ p.2.cy.map (Value.int .i64) = (rowX p).map (Value.int .i64) := rfl
      rw [e4] at hrow4
      have hac4 : Acc .i64 w4 (wr.alloc (.cells #[.int .i64 p.1, .int .i64 (bitI p.2.kn)] 3)).heap.size 3 1 v' (2 + p.2.cy.length) (rowX p) := hrow4
      have hrl : (rowX p).length = 2 + p.2.cy.length := by simp [rowX]; omega
      rcases hac4.slice with ⟨e, _⟩ | ⟨g', cap', cs', rfl, hgB', hh', hcap', hcs', hval'⟩
      · rw [e] at hrl; simp at hrl; omega
      have hb4' : Below wr.heap.size wr w4 := ((Below.refl _ wr).alloc (Nat.le_refl _) _).grown hg4 (by rw [size_alloc]; exact Nat.le_succ _) (fun k hk => by cases hk)
      have L := line35 (K := K) (B := w.heap.size) (b := w.heap.size) (g := g') (c := cap') (ns := rowX p) (l := textU t k) (w := w4) (HE.out.below ((Br.trans (hb4'.mono Br.size)).mono hK)) hK (HBD.out.below hb4') (Nat.le_trans Br.size hb4'.size) hh' hval' hrow (by omega) (by omega) (by have := Br.size; rw [size_alloc] at hgB'; omega)
      rw [hrl] at L
      have L := Lib.hid L
      have HP := Lib.hid hp
      have HB4 := Lib.hid hb4'
      have qlt : (k : Int) < (t.es.length : Int) := by omega
      have h64 := hok.len
      have hwk : IntKind.i64.wrap ((k : Int) + 1) = (k : Int) + 1 := IntWalk.i64_in _ (by omega)
      clear hp hlk hoe hac4 hrow4 hg4 hb4' hgr hg hc hwr Br hrl hval' hh' hcs' hrow e4 jval hlv
      cases hkn : p.2.kn with
      | true =>
        rw [hkn] at f0 hrun
        rw [show bitI true = 1 from rfl] at hrun
        go_wp2_with (first
          | (at_builtin; refine wpList_run_append rfl _ _ 31 rfl _ _ rfl rfl _ w4 hrun ?_)
          | (go_at_call 19; refine L.out.mono ?_; rintro e w5 ⟨rfl, hbd5, hw5⟩)
          | go_in)
        exact ⟨⟨k + 1, by omega, by go_num, by rw [textU_succ HP.out]; exact hbd5, (HWR.out.trans (Wr.of_below (b := w.heap.size) HB4.out (HBR.out.size))).trans hw5⟩, by simp [intOf]; omega⟩
      | false =>
        rw [hkn] at f0 hrun
        rw [show bitI false = 0 from rfl] at hrun
        go_wp2_with (first
          | (at_builtin; refine wpList_run_append rfl _ _ 31 rfl _ _ rfl rfl _ w4 hrun ?_)
          | (go_at_call 19; refine L.out.mono ?_; rintro e w5 ⟨rfl, hbd5, hw5⟩)
          | go_in)
        exact ⟨⟨k + 1, by omega, by go_num, by rw [textU_succ HP.out]; exact hbd5, (HWR.out.trans (Wr.of_below (b := w.heap.size) HB4.out (HBR.out.size))).trans hw5⟩, by simp [intOf]; omega⟩
    · obtain rfl : k = t.es.length := by omega
      rw [textU_all] at HBD
      clear hwr Br
      go_wp2_with (first
        | (go_at_call 25; refine (Go.Proofs.Any.Builder_String_any_k lay169 bl_extra w.heap.size w.heap.size (saveT t) wr HBD.out HBR.out.size).mono ?_; rintro e w5 ⟨rfl, -, hb5, -⟩)
        | go_in)
      go_ret
      exact ⟨rfl, HBR.out.trans hb5⟩
end Go.Proofs.YtkikokldijccnaaGreatDoor
