/- squitter: Load. -/
import Derived.Test.YtkikokldijccnaaGreatDoorRows
import Derived.WalkKit
import Derived.WalkLawsBesides
import Derived.WalkSpells
import Derived.ProofKit
import Derived.Below
import Derived.Outline
import Derived.Lib.Hide
import Derived.Deep.RegionWith
import Derived.Deep.RegionHeld3
import Derived.Deep.DrawnRows
import Derived.StillTailTactics
import Derived.BigQuiet
import Derived.Deep.QuietTactic
import Derived.Deep.LoopGhost
import Derived.IntWalk
import Derived.OrdersHeld
import Derived.Defers
import Derived.Recover
import Derived.Test.YtkikokldijccnaaGreatDoorLdC
namespace Go.Proofs.YtkikokldijccnaaGreatDoor
open Go.RowKit Go.Maps
attribute [local go_sem ↓] Go.wp_at_zero Go.wp_at_succ
attribute [local go_sem] wrap_lit

/-- what Load returns -/
def LoadR (s : Tx) (w : World) (e : Ending) (w' : World) : Prop :=
  ((∃ t H O, loadT s = some t ∧ e = .returned (.tuple #[.pointer (some ⟨H, 0, none⟩), .int .i64 0]) ∧ TabO w' H t O ∧ ∀ k, O k → w.heap.size ≤ k) ∨ (loadT s = none ∧ e = .returned (.tuple #[.pointer none, .int .i64 2]))) ∧ Below w.heap.size w w'
/-- Load's boxes, and its lines -/
structure LdS (w W : World) (g : Nat) (v1 v2 : Value) (ls : List Tx) (L : Nat) : Prop where
  ct : W.heap[g]? = some (.cells #[v1] 27 (0, 0))
  ce : W.heap[g + 1]? = some (.cells #[v2] 24 (0, 0))
  cl : W.heap[L]? = some (.cells (wordsV ls) 9 (0, 0))
  bel : Below w.heap.size w W
  hg : w.heap.size ≤ g
  hL : g + 2 ≤ L
theorem LdS.below {w W W' : World} {g L : Nat} {v1 v2 : Value} {ls : List Tx} (h : LdS w W g v1 v2 ls L) (hb : Below W.heap.size W W') : LdS w W' g v1 v2 ls L :=
  ⟨(hb.block _ (heap_lt h.ct)).trans h.ct, (hb.block _ (heap_lt h.ce)).trans h.ce, (hb.block _ (heap_lt h.cl)).trans h.cl, h.bel.trans (hb.mono h.bel.size), h.hg, h.hL⟩
theorem set_nb {W : World} {p i k : Nat} {v : Value} (h : p ≠ k) : (W.setCell ⟨p, i, none⟩ v).heap[k]? = W.heap[k]? := by
  by_cases e : k = p
  · exact absurd e.symm h
  · exact Below.heap_setCell _ _ _ _ e
theorem LdS.drew {w W : World} {g L : Nat} {v1 v2 : Value} {ls : List Tx} (h : LdS w W g v1 v2 ls L) : LdS w W.drew g v1 v2 ls L := ⟨h.ct, h.ce, h.cl, h.bel.drew, h.hg, h.hL⟩
theorem LdS.set1 {w W : World} {g L : Nat} {v1 v2 : Value} {ls : List Tx} (h : LdS w W g v1 v2 ls L) (v : Value) : LdS w (W.setCell ⟨g, 0, none⟩ v) g v v2 ls L :=
  have hL := h.hL
  ⟨(setCell_cells h.ct).trans rfl, (set_nb (by omega)).trans h.ce, (set_nb (by omega)).trans h.cl, h.bel.setCell (p := ⟨g, 0, none⟩) h.hg _, h.hg, h.hL⟩
theorem LdS.set2 {w W : World} {g L : Nat} {v1 v2 : Value} {ls : List Tx} (h : LdS w W g v1 v2 ls L) (v : Value) : LdS w (W.setCell ⟨g + 1, 0, none⟩ v) g v1 v ls L :=
  have hL := h.hL
  ⟨(set_nb (by omega)).trans h.ct, (setCell_cells h.ce).trans rfl, (set_nb (by omega)).trans h.cl, h.bel.setCell (p := ⟨g + 1, 0, none⟩) (Nat.le_succ_of_le h.hg) _, h.hg, h.hL⟩
theorem LdS.setFar {w W : World} {g L : Nat} {v1 v2 : Value} {ls : List Tx} (h : LdS w W g v1 v2 ls L) (v : Value) {H i : Nat} (hH : L < H) : LdS w (W.setCell ⟨H, i, none⟩ v) g v1 v2 ls L :=
  have hL := h.hL
  have hg := h.hg
  ⟨(set_nb (by omega)).trans h.ct, (set_nb (by omega)).trans h.ce, (set_nb (by omega)).trans h.cl, h.bel.setCell (p := ⟨H, i, none⟩) (by show w.heap.size ≤ H; omega) _, h.hg, h.hL⟩
theorem LdS.word {w W : World} {g L i : Nat} {v1 v2 : Value} {ls : List Tx} {u : Tx} (h : LdS w W g v1 v2 ls L) (hu : ls[i]? = some u) : W.cell? ⟨L, i, none⟩ = some (.string (S u)) := by
  rw [cellOf h.cl]
  unfold wordsV
  simp [hu]
theorem heap_alloc_at (w : World) (o : Obj) (n : Nat) (h : n = w.heap.size) : (w.alloc o).heap[n]? = some o := by subst h; exact heap_alloc_new w o
/-- a panic goes through the door -/
theorem leave_bad {s : Tx} {w W : World} {g L : Nat} {v1 v2 : Value} {ls : List Tx} {tmps : Array Value} (hN : loadT s = none) (h : LdS w W g v1 v2 ls L) (h2 : tmps[2]? = some (.pointer (some ⟨g, 0, none⟩))) (h3 : tmps[3]? = some (.pointer (some ⟨g + 1, 0, none⟩))) :
    bodyPostD Tryz.prog Tryz.f12 (LoadR s w) (.panic pan) { tmps := tmps, defers := [{ target := .fn (.func 26) #[.pointer (some ⟨g, 0, none⟩), .pointer (some ⟨g + 1, 0, none⟩)], args := #[] }] } W := by
  refine leaves_cons (f := 26) (args := #[.pointer (some ⟨g, 0, none⟩), .pointer (some ⟨g + 1, 0, none⟩)]) (by simp) (by simp [go_sem]) ?_
  refine (catch_p h.ct h.ce).mono ?_
  rintro e u' w'' ⟨rfl, rfl, c1, c2, hB⟩
  have hW := h.bel.size
  refine ⟨.tuple #[.pointer none, .int .i64 2], ?_, .inr ⟨hN, rfl⟩, h.bel.trans (hB _ h.hg (Nat.le_succ_of_le h.hg) hW)⟩
  simp [results, Tryz.results12, go_sem, h2, h3, c1, c2]
theorem leave_good {s : Tx} {w W : World} {g L : Nat} {H : Nat} {t : Ts} {O : Nat → Prop} {ls : List Tx} {tmps : Array Value} (hN : loadT s = some t) (h : LdS w W g (.pointer (some ⟨H, 0, none⟩)) (.int .i64 0) ls L) (hT : TabO W H t O) (hO : ∀ k, O k → w.heap.size ≤ k) (h2 : tmps[2]? = some (.pointer (some ⟨g, 0, none⟩))) (h3 : tmps[3]? = some (.pointer (some ⟨g + 1, 0, none⟩))) :
    bodyPostD Tryz.prog Tryz.f12 (LoadR s w) .ret { tmps := tmps, defers := [{ target := .fn (.func 26) #[.pointer (some ⟨g, 0, none⟩), .pointer (some ⟨g + 1, 0, none⟩)], args := #[] }] } W := by
  refine leaves_cons (f := 26) (args := #[.pointer (some ⟨g, 0, none⟩), .pointer (some ⟨g + 1, 0, none⟩)]) (by simp) (by simp [go_sem]) ?_
  refine (catch_r g (g + 1) W).mono ?_
  rintro e u' w'' ⟨rfl, rfl, rfl⟩
  refine ⟨.tuple #[.pointer (some ⟨H, 0, none⟩), .int .i64 0], ?_, .inl ⟨t, H, O, hN, rfl, hT, hO⟩, h.bel⟩
  have c1 := cellOf (i := 0) h.ct
  have c2 := cellOf (i := 0) h.ce
  simp [results, Tryz.results12, go_sem, h2, h3, c1, c2]
theorem nth_drop (x : List Int) (m j : Nat) : nth (x.drop m) j = nth x (m + j) := by simp [nth, List.getD_eq_getElem?_getD]
theorem numsM_len {u : Tx} {ns : List Int} (h : numsM u = some ns) : ns.length ≤ u.length + 1 := by
  have h' := (allO_iff _ _).1 h
  have e := congrArg List.length h'
  rw [List.length_map, List.length_map] at e
  have := split_len 32 u
  omega
theorem LdS.grown {w W W' : World} {g L m : Nat} {v1 v2 : Value} {ls : List Tx} (h : LdS w W g v1 v2 ls L) (hg : W.drew.grownBy W' (some m)) (hm : L < m) : LdS w W' g v1 v2 ls L :=
  have hL := h.hL
  have h0 := h.hg
  ⟨(hg.block _ (heap_lt h.ct) (fun e => by have := Option.some.inj e; omega)).trans h.ct, (hg.block _ (heap_lt h.ce) (fun e => by have := Option.some.inj e; omega)).trans h.ce, (hg.block _ (heap_lt h.cl) (fun e => by have := Option.some.inj e; omega)).trans h.cl, h.bel.drew.grown hg h.bel.size (fun k e => by have := Option.some.inj e; omega), h.hg, h.hL⟩
theorem loadR_no {t : Ts} {last : Int} {rest : List Tx} {i : Nat} {u : Tx} (hu : rest[i]? = some u) (h : numsM u = none) : loadR t last (rest.drop i) = none := by
  obtain ⟨h1, h2⟩ := List.getElem?_eq_some_iff.1 hu
  rw [List.drop_eq_getElem_cons h1, h2, loadR_cons, h]
theorem loadR_none {t : Ts} {last : Int} {rest : List Tx} {i : Nat} {u : Tx} {ns : List Int} (hu : rest[i]? = some u) (h : numsM u = some ns) (hr : rowM t last ns = none) : loadR t last (rest.drop i) = none := by
  obtain ⟨h1, h2⟩ := List.getElem?_eq_some_iff.1 hu
  rw [List.drop_eq_getElem_cons h1, h2, loadR_cons, h]
  simp only [hr]
theorem loadR_some {t : Ts} {last : Int} {rest : List Tx} {i : Nat} {u : Tx} {ns : List Int} {p : Int × Tk} (hu : rest[i]? = some u) (h : numsM u = some ns) (hr : rowM t last ns = some p) : loadR t last (rest.drop i) = loadR (addT t p) p.1 (rest.drop (i + 1)) := by
  obtain ⟨h1, h2⟩ := List.getElem?_eq_some_iff.1 hu
  rw [List.drop_eq_getElem_cons h1, h2, loadR_cons, h]
  simp only [hr]
/-- between two lines -/
structure LoadI (s : Tx) (w : World) (g H L : Nat) (ls rest : List Tx) (need win keep now : Int) (i : Nat) (es : List (Int × Tk)) (last : Int) (W : World) : Prop where
  ld : loadT s = loadR ⟨need, win, keep, now, es⟩ last (rest.drop i)
  l0 : -1 ≤ last
  l1 : last ≤ 16777215
  len : es.length = i
  bd : ∀ p ∈ es, p.1 ≤ last
  st : LdS w W g (.pointer (some ⟨H, 0, none⟩)) (.int .i64 0) ls L
  tab : ∃ O mb bk gk, Tab W H mb ⟨need, win, keep, now, es⟩ bk gk O ∧ ∀ k, O k → L < k
/-- a region that leaves by its end alone -/
def NormalK (K : Act → World → Prop) : Exit → Act → World → Prop
  | .normal, a, w => K a w
  | _, _, _ => False
theorem region_normal {P : Program} {c : Code} {Q : Exit → Act → World → Prop} {a : Act} {w : World} (h : c.wp P (NormalK fun a w => Q .normal a w) a w) : c.wp P Q a w :=
  wp_mono h (fun e a w hq => by cases e <;> first | exact hq | exact hq.elim)
/-- the head's first three numbers -/
structure H3 (need win keep : Int) (gn on : Nat) (W : World) : Prop where
  a : W.cell? ⟨gn, on, none⟩ = some (.int .i64 need)
  b : W.cell? ⟨gn, on + 1, none⟩ = some (.int .i64 win)
  c : W.cell? ⟨gn, on + 2, none⟩ = some (.int .i64 keep)
theorem H3.below {need win keep : Int} {gn on : Nat} {W W' : World} (h : H3 need win keep gn on W) (hb : Below W.heap.size W W') (hg : gn < W.heap.size) : H3 need win keep gn on W' :=
  ⟨(hb.cell (p := ⟨gn, on, none⟩) hg).trans h.a, (hb.cell (p := ⟨gn, on + 1, none⟩) hg).trans h.b, (hb.cell (p := ⟨gn, on + 2, none⟩) hg).trans h.c⟩
theorem H3.set {need win keep : Int} {gn on : Nat} {W : World} (h : H3 need win keep gn on W) {p i : Nat} (hp : p ≠ gn) (v : Value) : H3 need win keep gn on (W.setCell ⟨p, i, none⟩ v) :=
  have e : ∀ j, (W.setCell ⟨p, i, none⟩ v).cell? ⟨gn, j, none⟩ = W.cell? ⟨gn, j, none⟩ := fun j => World.cell?_of_block (a := ⟨gn, j, none⟩) (set_nb hp)
  ⟨(e _).trans h.a, (e _).trans h.b, (e _).trans h.c⟩
theorem list4 {l : List Int} (h : l.length = 4) : ∃ a b c d, l = [a, b, c, d] := by
  rcases l with _ | ⟨a, _ | ⟨b, _ | ⟨c, _ | ⟨d, _ | ⟨e, l⟩⟩⟩⟩⟩ <;> simp at h
  exact ⟨_, _, _, _, rfl⟩
set_option maxRecDepth 100000 in
theorem load_long (s : Tx) (hs : 65536 < s.length) (w : World) : Calls Tryz.prog 12 #[.string (S s)] w fun e w' => e = .returned (.tuple #[.pointer none, .int .i64 4]) ∧ Below w.heap.size w w' := by
  have q0 : (65536 : Int) < (s.length : Int) := by omega
  have hmf : ∀ (fn : Fn) (first cap : Array Value) (w : World), (Instr.makeFunc fn first cap).run Tryz.prog w = .ok (.func fn first cap) w := fun _ _ _ _ => rfl
  go_enter_defers Tryz.func12, Tryz.ntmps12
  go_wp2_with fail
  exact ⟨.tuple #[.pointer none, .int .i64 4], by simp [results, Tryz.results12, go_sem], rfl, ((Below.refl _ _).alloc (Nat.le_refl _) _).alloc (by simp) _⟩
set_option maxRecDepth 100000 in
set_option maxHeartbeats 8000000 in
theorem load27 (s : Tx) (hs : s.length ≤ 65536) {K : Nat} {w : World} (E : LEnv K w) (hK : K ≤ w.heap.size) : Calls Tryz.prog 12 #[.string (S s)] w (LoadR s w) := by
  have q0 : ¬ (65536 : Int) < (s.length : Int) := by omega
  have hmf : ∀ (fn : Fn) (first cap : Array Value) (w : World), (Instr.makeFunc fn first cap).run Tryz.prog w = .ok (.func fn first cap) w := fun _ _ _ _ => rfl
  have HE := Lib.hid E
  clear E
  go_enter_defers Tryz.func12, Tryz.ntmps12
  go_wp2_with fail
  obtain ⟨W1, hW1⟩ : ∃ W1, W1 = ((w.alloc (.cells #[.pointer none] 27)).alloc (.cells #[.int .i64 0] 24)) := ⟨_, rfl⟩
  rw [← hW1]
  have b1 : Below w.heap.size w W1 := by rw [hW1]; exact ((Below.refl _ _).alloc (Nat.le_refl _) _).alloc (by simp) _
  have s1 : W1.heap.size = w.heap.size + 2 := by rw [hW1]; simp
  have hct : W1.heap[w.heap.size]? = some (.cells #[.pointer none] 27 (0, 0)) := by rw [hW1]; exact (Below.heap_alloc _ _ _ (by simp)).trans (heap_alloc_new _ _)
  have hce : W1.heap[w.heap.size + 1]? = some (.cells #[.int .i64 0] 24 (0, 0)) := by rw [hW1]; exact heap_alloc_at _ _ _ (by simp)
  clear hW1
  refine (split46 s (by omega) 10 K W1 (HE.out.below (b1.mono hK))).mono ?_
  rintro e W2 ⟨rfl, hW2⟩
  obtain ⟨ls, hls⟩ : ∃ ls, ls = splitC 10 s := ⟨_, rfl⟩
  have SS : Hid (LdS w W2 w.heap.size (.pointer none) (.int .i64 0) (splitC 10 s) W1.heap.size) := Lib.hid (by
    have hb : Below W1.heap.size W1 W2 := by rw [← hW2]; exact below_alloc1 _ _
    exact ⟨(hb.block _ (heap_lt hct)).trans hct, (hb.block _ (heap_lt hce)).trans hce, by rw [← hW2]; exact heap_alloc_new _ _, b1.trans (hb.mono b1.size), Nat.le_refl _, by omega⟩)
  have hw2 : W2.heap.size = W1.heap.size + 1 := by rw [← hW2]; exact size_alloc _ _
  have HW2 := Lib.hid hw2
  obtain ⟨L, hL⟩ : ∃ L, L = W1.heap.size := ⟨_, rfl⟩
  rw [← hL] at SS hw2 HW2 ⊢
  have hLg : w.heap.size + 2 ≤ L := by omega
  rw [← hls] at SS ⊢
  have HN1 : Hid (¬ (2 ≤ ls.length ∧ ls.length ≤ 66) → loadT s = none) := Lib.hid (by rw [hls]; exact load_len)
  have HN2 : Hid (∀ h : ls ≠ [], ls.getLast h ≠ [] → loadT s = none) := Lib.hid (by rw [hls]; exact fun _ => load_lastne)
  have hlb : ls.length ≤ 65537 := by rw [hls]; have := split_len 10 s; omega
  have HWL : Hid (∀ u ∈ ls, u.length ≤ 65536) := Lib.hid (fun u hu => by rw [hls] at hu; exact Nat.le_trans (split_word 10 s u hu) hs)
  have HLS := Lib.hid hls
  clear hW2 hct hce b1 hw2 hls s1 hL
  cases c1 : decide (2 ≤ ls.length) with
  | false =>
    have HX := Lib.hid (HN1.out (fun h => of_decide_eq_false c1 h.1))
    have h2 : ls.length < 2 := by have := of_decide_eq_false c1; omega
    have h2I : (ls.length : Int) < 2 := by omega
    go_wp2_with fail
    refine (must_f _).mono ?_
    rintro e wm ⟨rfl, hw⟩
    rw [hw]
    clear hw wm
    exact leave_bad HX.out SS.out rfl rfl
  | true =>
    cases c2 : decide (ls.length ≤ 66) with
    | false =>
      have HX := Lib.hid (HN1.out (fun h => of_decide_eq_false c2 h.2))
      have h2 := of_decide_eq_true c1
      have h2I : (2 : Int) ≤ (ls.length : Int) := by omega
      have h66 : 66 < ls.length := by have := of_decide_eq_false c2; omega
      have h66I : (66 : Int) < (ls.length : Int) := by omega
      go_wp2_with fail
      refine (must_f _).mono ?_
      rintro e wm ⟨rfl, hw⟩
      rw [hw]
      clear hw wm
      exact leave_bad HX.out SS.out rfl rfl
    | true =>
      have h2 := of_decide_eq_true c1
      have h66 := of_decide_eq_true c2
      have hne : ls ≠ [] := fun e => by rw [e] at h2; simp at h2
      obtain ⟨la, hla⟩ : ∃ la, la = ls.getLast hne := ⟨_, rfl⟩
      have cla := SS.out.word (i := ls.length - 1) (u := la) (by rw [hla, List.getLast_eq_getElem]; exact List.getElem?_eq_getElem _)
      have t5 : ((ls.length : Int) - 1).toNat = ls.length - 1 := by omega
      have t6 : (0 : Int) ≤ (ls.length : Int) - 1 := by omega
      have t7 : (ls.length : Int) - 1 < (ls.length : Int) := by omega
      have HLA : Hid (∃ h : ls ≠ [], la = ls.getLast h) := Lib.hid ⟨hne, hla⟩
      clear hla hne
      cases c3 : (la == []) with
      | false =>
        have HX : Hid (loadT s = none) := Lib.hid (by
          obtain ⟨h, e⟩ := HLA.out
          exact HN2.out h (fun e' => by rw [← e] at e'; rw [e'] at c3; exact absurd c3 (by decide)))
        go_wp2_with fail
        refine (must_f _).mono ?_
        rintro e wm ⟨rfl, hw⟩
        rw [hw]
        clear hw wm
        exact leave_bad HX.out SS.out rfl rfl
      | true =>
        obtain ⟨l0, rest, hlr, hll⟩ : ∃ l0 rest, ls = l0 :: (rest ++ [[]]) ∧ ls.length = rest.length + 2 := by
          obtain ⟨h, e⟩ := HLA.out
          exact ends_split h2 h (by rw [← e]; simpa using c3)
        have hrl : rest.length ≤ 64 := by omega
        obtain ⟨hr1, hr2, hr3⟩ := load_rest (HLS.out.symm.trans hlr) hrl
        have cl0 := SS.out.word (i := 0) (u := l0) (by rw [hlr]; rfl)
        have hl0 : l0.length ≤ 65536 := HWL.out l0 (by rw [hlr]; exact List.mem_cons_self ..)
        have hl1 : 0 < ls.length := by omega
        have HR1 := Lib.hid hr1
        have HR2 := Lib.hid hr2
        have HR3 := Lib.hid hr3
        have HLR := Lib.hid (And.intro hlr hll)
        clear hlr hll hr1 hr2 hr3
        go_wp2_with fail
        refine (must_t _).mono ?_
        rintro e wm ⟨rfl, hw⟩
        rw [hw]
        clear hw wm
        clear t5 t6 t7 cla c3
        go_wp2_with fail
        refine (numbers48 l0 (by omega) (HE.out.below (SS.out.bel.mono hK)) (Nat.le_trans hK SS.out.bel.size)).mono ?_
        rintro e w3 (⟨ns, hns, gn, on, capn, cur, rfl, hgn, hcur, hc1, hc2, hc3, hc4, hb3⟩ | ⟨hno, rfl, hb3⟩)
        rotate_left
        · exact leave_bad (HR1.out hno) (SS.out.below hb3) rfl rfl
        have S3 := Lib.hid (SS.out.below hb3)
        have hs3 := hb3.size
        have HNS := Lib.hid hns
        have HCU := Lib.hid (And.intro hcur hc4)
        have hw2 := HW2.out
        have hgnL : L < gn := by omega
        clear hb3 hns hcur hc4 hw2 SS cl0
        by_cases hl4 : ns.length = 4
        rotate_left
        · have HX := Lib.hid (HR2.out ns HNS.out hl4)
          have q4 : ((ns.length : Int) == 4) = false := by rw [beq_eq_false_iff_ne]; omega
          clear hl4
          go_wp2_with fail
          refine (must_f _).mono ?_
          rintro e wm ⟨rfl, hw⟩
          rw [hw]
          clear hw wm
          exact leave_bad HX.out S3.out rfl rfl
        obtain ⟨need, win, keep, now, hn4⟩ := list4 hl4
        have q4 : ((ns.length : Int) == 4) = true := by rw [beq_iff_eq]; omega
        have a0 : 0 < ns.length := by omega
        have l1 : 1 < ns.length := by omega
        have l2 : 2 < ns.length := by omega
        have l3 : 3 < ns.length := by omega
        have l1I : (1 : Int) < (ns.length : Int) := by omega
        have l2I : (2 : Int) < (ns.length : Int) := by omega
        have l3I : (3 : Int) < (ns.length : Int) := by omega
        have g0 : w3.cell? ⟨gn, on, none⟩ = some (.int .i64 need) := (cellOf HCU.out.1).trans (HCU.out.2 0 need (by rw [hn4]; rfl))
        have g1 : w3.cell? ⟨gn, on + 1, none⟩ = some (.int .i64 win) := (cellOf HCU.out.1).trans (HCU.out.2 1 win (by rw [hn4]; rfl))
        have g2 : w3.cell? ⟨gn, on + 2, none⟩ = some (.int .i64 keep) := (cellOf HCU.out.1).trans (HCU.out.2 2 keep (by rw [hn4]; rfl))
        have hcn : cur[on + 3]? = some (.int .i64 now) := HCU.out.2 3 now (by rw [hn4]; rfl)
        have HLD := Lib.hid (HR3.out need win keep now (HNS.out.trans (by rw [hn4])))
        obtain ⟨n0, n1⟩ : 0 ≤ now ∧ now ≤ 1073741824 := ((numsM_iff _ _).1 HNS.out).2.2 now (by rw [hn4]; simp)
        have HCN := Lib.hid hcn
        have hgl := heap_lt HCU.out.1
        clear hl4 hn4 hcn HR1 HR2 HR3 HNS c1 c2
        go_wp2_with fail
        refine (must_t _).mono ?_
        rintro e wm ⟨rfl, hw⟩
        rw [hw]
        clear hw wm
        by_cases hne : newE need win keep = 0
        rotate_left
        · have HX : Hid (loadT s = none) := Lib.hid (by rw [HLD.out, if_neg hne])
          have HNE := Lib.hid hne
          clear hne
          go_wp2_with fail
          refine region_normal ?_
          refine wp_region_held_drew (S := H3 need win keep gn on) (by kernel_rfl) (⟨g0, g1, g2⟩) (fun hS => ?_)
          refine wpAnyH_take (i := 0) (v := ?vM1) rfl (by kernel_rfl) (by kernel_rfl) (by kernel_rfl) (fun _ _ _ h => h) (Or.inl ⟨by rfl, ?hM1⟩) hS ?rM1
          case hM1 =>
            intro w1 hSw
            have y0 : w1.cell? ⟨gn, on, none⟩ = some (.int .i64 need) := hSw.a
            have y1 : w1.cell? ⟨gn, on + 1, none⟩ = some (.int .i64 win) := hSw.b
            have y2 : w1.cell? ⟨gn, on + 2, none⟩ = some (.int .i64 keep) := hSw.c
            clear hSw
            go_simp
            try with_reducible rfl
          (try go_frame)
          refine wpAnyH_take (i := 1) (v := ?vM2) rfl (by kernel_rfl) (by kernel_rfl) (by kernel_rfl) (fun _ _ _ h => h) (Or.inl ⟨by rfl, ?hM2⟩) hS ?rM2
          case hM2 =>
            intro w1 hSw
            have y0 : w1.cell? ⟨gn, on, none⟩ = some (.int .i64 need) := hSw.a
            have y1 : w1.cell? ⟨gn, on + 1, none⟩ = some (.int .i64 win) := hSw.b
            have y2 : w1.cell? ⟨gn, on + 2, none⟩ = some (.int .i64 keep) := hSw.c
            clear hSw
            go_simp
            try with_reducible rfl
          (try go_frame)
          refine wpAnyH_take (i := 2) (v := ?vM3) rfl (by kernel_rfl) (by kernel_rfl) (by kernel_rfl) (fun _ _ _ h => h) (Or.inl ⟨by rfl, ?hM3⟩) hS ?rM3
          case hM3 =>
            intro w1 hSw
            have y0 : w1.cell? ⟨gn, on, none⟩ = some (.int .i64 need) := hSw.a
            have y1 : w1.cell? ⟨gn, on + 1, none⟩ = some (.int .i64 win) := hSw.b
            have y2 : w1.cell? ⟨gn, on + 2, none⟩ = some (.int .i64 keep) := hSw.c
            clear hSw
            go_simp
            try with_reducible rfl
          (try go_frame)
          refine wpAnyH_take (i := 3) (v := ?vM4) rfl (by kernel_rfl) (by kernel_rfl) (by kernel_rfl) (fun _ _ _ h => h) (Or.inl ⟨by rfl, ?hM4⟩) hS ?rM4
          case hM4 =>
            intro w1 hSw
            have y0 : w1.cell? ⟨gn, on, none⟩ = some (.int .i64 need) := hSw.a
            have y1 : w1.cell? ⟨gn, on + 1, none⟩ = some (.int .i64 win) := hSw.b
            have y2 : w1.cell? ⟨gn, on + 2, none⟩ = some (.int .i64 keep) := hSw.c
            clear hSw
            go_simp
            try with_reducible rfl
          (try go_frame)
          refine wpAnyH_take (i := 4) (v := ?vM5) rfl (by kernel_rfl) (by kernel_rfl) (by kernel_rfl) (fun _ _ _ h => h) (Or.inl ⟨by rfl, ?hM5⟩) hS ?rM5
          case hM5 =>
            intro w1 hSw
            have y0 : w1.cell? ⟨gn, on, none⟩ = some (.int .i64 need) := hSw.a
            have y1 : w1.cell? ⟨gn, on + 1, none⟩ = some (.int .i64 win) := hSw.b
            have y2 : w1.cell? ⟨gn, on + 2, none⟩ = some (.int .i64 keep) := hSw.c
            clear hSw
            go_simp
            try with_reducible rfl
          (try go_frame)
          refine wpAnyH_take (i := 5) (v := ?vM6) rfl (by kernel_rfl) (by kernel_rfl) (by kernel_rfl) (fun _ _ _ h => h) (Or.inl ⟨by rfl, ?hM6⟩) hS ?rM6
          case hM6 =>
            intro w1 hSw
            have y0 : w1.cell? ⟨gn, on, none⟩ = some (.int .i64 need) := hSw.a
            have y1 : w1.cell? ⟨gn, on + 1, none⟩ = some (.int .i64 win) := hSw.b
            have y2 : w1.cell? ⟨gn, on + 2, none⟩ = some (.int .i64 keep) := hSw.c
            clear hSw
            go_simp
            try with_reducible rfl
          (try go_frame)
          refine wpAnyH_take (i := 6) (v := ?vM7) rfl (by kernel_rfl) (by kernel_rfl) (by kernel_rfl) (fun _ _ _ h => h) (Or.inl ⟨by rfl, ?hM7⟩) hS ?rM7
          case hM7 =>
            intro w1 hSw
            have y0 : w1.cell? ⟨gn, on, none⟩ = some (.int .i64 need) := hSw.a
            have y1 : w1.cell? ⟨gn, on + 1, none⟩ = some (.int .i64 win) := hSw.b
            have y2 : w1.cell? ⟨gn, on + 2, none⟩ = some (.int .i64 keep) := hSw.c
            clear hSw
            go_simp
            try with_reducible rfl
          (try go_frame)
          refine wpAnyH_take (i := 7) (v := ?vM8) rfl (by kernel_rfl) (by kernel_rfl) (by kernel_rfl) (fun _ _ _ h => h) (Or.inl ⟨by rfl, ?hM8⟩) hS ?rM8
          case hM8 =>
            intro w1 hSw
            have y0 : w1.cell? ⟨gn, on, none⟩ = some (.int .i64 need) := hSw.a
            have y1 : w1.cell? ⟨gn, on + 1, none⟩ = some (.int .i64 win) := hSw.b
            have y2 : w1.cell? ⟨gn, on + 2, none⟩ = some (.int .i64 keep) := hSw.c
            clear hSw
            go_simp
            try with_reducible rfl
          (try go_frame)
          refine wpAnyH_take (i := 8) (v := ?vM9) rfl (by kernel_rfl) (by kernel_rfl) (by kernel_rfl) (fun _ _ _ h => h) (Or.inl ⟨by rfl, ?hM9⟩) hS ?rM9
          case hM9 =>
            intro w1 hSw
            have y0 : w1.cell? ⟨gn, on, none⟩ = some (.int .i64 need) := hSw.a
            have y1 : w1.cell? ⟨gn, on + 1, none⟩ = some (.int .i64 win) := hSw.b
            have y2 : w1.cell? ⟨gn, on + 2, none⟩ = some (.int .i64 keep) := hSw.c
            clear hSw
            go_simp
            try with_reducible rfl
          (try go_frame)
          refine wpAnyH_ready (rs := [9]) (by kernel_rfl) (by simp) (AllReadyH.cons rfl (fun K hK => ?_) AllReadyH.nil)
          go_simp
          refine (new8 need win keep _).mono ?_
          rintro e w4 (⟨h1, -⟩ | ⟨-, rfl, hw⟩)
          · exact absurd h1 HNE.out
          have hb4' : Below w3.heap.size w3 w4 := by rw [hw]; exact (Below.refl _ w3).drew
          have S4 := Lib.hid (S3.out.below hb4')
          have C4 := Lib.hid (H3.below ⟨g0, g1, g2⟩ hb4' hgl)
          have ct := cellOf (i := 0) S4.out.ct
          have cf := frozenOf (i := 0) S4.out.ct
          have ce := cellOf (i := 0) S4.out.ce
          have cg := frozenOf (i := 0) S4.out.ce
          clear hb4' hw
          refine hK.out _ _ (C4.out) (fun hS => ?_)
          clear hK K
          (try go_frame)
          refine wpAnyH_take (i := 10) (v := ?vM10) rfl (by kernel_rfl) (by kernel_rfl) (by kernel_rfl) (fun _ _ _ h => h) (Or.inl ⟨by kernel_rfl, ?hM10⟩) hS ?rM10
          case hM10 =>
            intro w1 hSw
            clear hSw
            go_simp
            try with_reducible rfl
          (try go_frame)
          refine wpAnyH_take (i := 11) (v := ?vM11) rfl (by kernel_rfl) (by kernel_rfl) (by kernel_rfl) (fun _ _ _ h => h) (Or.inl ⟨by kernel_rfl, ?hM11⟩) hS ?rM11
          case hM11 =>
            intro w1 hSw
            clear hSw
            go_simp
            try with_reducible rfl
          (try go_frame)
          refine wpAnyH_take (i := 12) (v := ?vM12) rfl (by kernel_rfl) (by kernel_rfl) (by kernel_rfl) (fun _ _ _ h => h) (Or.inl ⟨by kernel_rfl, ?hM12⟩) hS ?rM12
          case hM12 =>
            intro w1 hSw
            clear hSw
            go_simp
            try with_reducible rfl
          (try go_frame)
          refine wpAnyH_ready (rs := [13]) (by kernel_rfl) (by simp) (AllReadyH.cons rfl (fun K hK => ?_) AllReadyH.nil)
          go_simp
          refine hK.out _ _ (hS.set (by omega) _) (fun hS => ?_)
          clear hK K
          refine wpAnyH_ready (rs := [14]) (by kernel_rfl) (by simp) (AllReadyH.cons rfl (fun K hK => ?_) AllReadyH.nil)
          go_simp
          refine hK.out _ _ (hS.set (by omega) _) (fun hS => ?_)
          clear hK K
          refine wpAnyH_done (by kernel_rfl) ?_ _
          simp only [NormalK]
          go_wp2_with fail
          refine (must_f _).mono ?_
          rintro e wm ⟨rfl, hw⟩
          rw [hw]
          clear hw wm
          exact leave_bad HX.out ((S4.out.set1 _).set2 _) rfl rfl
        have HX : Hid (loadT s = loadR ⟨need, win, keep, now, []⟩ (-1) rest) := Lib.hid (by rw [HLD.out, if_pos hne])
        have HNE := Lib.hid hne
        have HNK := Lib.hid (newE_ok hne)
        clear hne HLD
        go_wp2_with fail
        refine region_normal ?_
        refine wp_region_held_drew (S := H3 need win keep gn on) (by kernel_rfl) (⟨g0, g1, g2⟩) (fun hS => ?_)
        refine wpAnyH_take (i := 0) (v := ?vN1) rfl (by kernel_rfl) (by kernel_rfl) (by kernel_rfl) (fun _ _ _ h => h) (Or.inl ⟨by rfl, ?hN1⟩) hS ?rN1
        case hN1 =>
          intro w1 hSw
          have y0 : w1.cell? ⟨gn, on, none⟩ = some (.int .i64 need) := hSw.a
          have y1 : w1.cell? ⟨gn, on + 1, none⟩ = some (.int .i64 win) := hSw.b
          have y2 : w1.cell? ⟨gn, on + 2, none⟩ = some (.int .i64 keep) := hSw.c
          clear hSw
          go_simp
          try with_reducible rfl
        (try go_frame)
        refine wpAnyH_take (i := 1) (v := ?vN2) rfl (by kernel_rfl) (by kernel_rfl) (by kernel_rfl) (fun _ _ _ h => h) (Or.inl ⟨by rfl, ?hN2⟩) hS ?rN2
        case hN2 =>
          intro w1 hSw
          have y0 : w1.cell? ⟨gn, on, none⟩ = some (.int .i64 need) := hSw.a
          have y1 : w1.cell? ⟨gn, on + 1, none⟩ = some (.int .i64 win) := hSw.b
          have y2 : w1.cell? ⟨gn, on + 2, none⟩ = some (.int .i64 keep) := hSw.c
          clear hSw
          go_simp
          try with_reducible rfl
        (try go_frame)
        refine wpAnyH_take (i := 2) (v := ?vN3) rfl (by kernel_rfl) (by kernel_rfl) (by kernel_rfl) (fun _ _ _ h => h) (Or.inl ⟨by rfl, ?hN3⟩) hS ?rN3
        case hN3 =>
          intro w1 hSw
          have y0 : w1.cell? ⟨gn, on, none⟩ = some (.int .i64 need) := hSw.a
          have y1 : w1.cell? ⟨gn, on + 1, none⟩ = some (.int .i64 win) := hSw.b
          have y2 : w1.cell? ⟨gn, on + 2, none⟩ = some (.int .i64 keep) := hSw.c
          clear hSw
          go_simp
          try with_reducible rfl
        (try go_frame)
        refine wpAnyH_take (i := 3) (v := ?vN4) rfl (by kernel_rfl) (by kernel_rfl) (by kernel_rfl) (fun _ _ _ h => h) (Or.inl ⟨by rfl, ?hN4⟩) hS ?rN4
        case hN4 =>
          intro w1 hSw
          have y0 : w1.cell? ⟨gn, on, none⟩ = some (.int .i64 need) := hSw.a
          have y1 : w1.cell? ⟨gn, on + 1, none⟩ = some (.int .i64 win) := hSw.b
          have y2 : w1.cell? ⟨gn, on + 2, none⟩ = some (.int .i64 keep) := hSw.c
          clear hSw
          go_simp
          try with_reducible rfl
        (try go_frame)
        refine wpAnyH_take (i := 4) (v := ?vN5) rfl (by kernel_rfl) (by kernel_rfl) (by kernel_rfl) (fun _ _ _ h => h) (Or.inl ⟨by rfl, ?hN5⟩) hS ?rN5
        case hN5 =>
          intro w1 hSw
          have y0 : w1.cell? ⟨gn, on, none⟩ = some (.int .i64 need) := hSw.a
          have y1 : w1.cell? ⟨gn, on + 1, none⟩ = some (.int .i64 win) := hSw.b
          have y2 : w1.cell? ⟨gn, on + 2, none⟩ = some (.int .i64 keep) := hSw.c
          clear hSw
          go_simp
          try with_reducible rfl
        (try go_frame)
        refine wpAnyH_take (i := 5) (v := ?vN6) rfl (by kernel_rfl) (by kernel_rfl) (by kernel_rfl) (fun _ _ _ h => h) (Or.inl ⟨by rfl, ?hN6⟩) hS ?rN6
        case hN6 =>
          intro w1 hSw
          have y0 : w1.cell? ⟨gn, on, none⟩ = some (.int .i64 need) := hSw.a
          have y1 : w1.cell? ⟨gn, on + 1, none⟩ = some (.int .i64 win) := hSw.b
          have y2 : w1.cell? ⟨gn, on + 2, none⟩ = some (.int .i64 keep) := hSw.c
          clear hSw
          go_simp
          try with_reducible rfl
        (try go_frame)
        refine wpAnyH_take (i := 6) (v := ?vN7) rfl (by kernel_rfl) (by kernel_rfl) (by kernel_rfl) (fun _ _ _ h => h) (Or.inl ⟨by rfl, ?hN7⟩) hS ?rN7
        case hN7 =>
          intro w1 hSw
          have y0 : w1.cell? ⟨gn, on, none⟩ = some (.int .i64 need) := hSw.a
          have y1 : w1.cell? ⟨gn, on + 1, none⟩ = some (.int .i64 win) := hSw.b
          have y2 : w1.cell? ⟨gn, on + 2, none⟩ = some (.int .i64 keep) := hSw.c
          clear hSw
          go_simp
          try with_reducible rfl
        (try go_frame)
        refine wpAnyH_take (i := 7) (v := ?vN8) rfl (by kernel_rfl) (by kernel_rfl) (by kernel_rfl) (fun _ _ _ h => h) (Or.inl ⟨by rfl, ?hN8⟩) hS ?rN8
        case hN8 =>
          intro w1 hSw
          have y0 : w1.cell? ⟨gn, on, none⟩ = some (.int .i64 need) := hSw.a
          have y1 : w1.cell? ⟨gn, on + 1, none⟩ = some (.int .i64 win) := hSw.b
          have y2 : w1.cell? ⟨gn, on + 2, none⟩ = some (.int .i64 keep) := hSw.c
          clear hSw
          go_simp
          try with_reducible rfl
        (try go_frame)
        refine wpAnyH_take (i := 8) (v := ?vN9) rfl (by kernel_rfl) (by kernel_rfl) (by kernel_rfl) (fun _ _ _ h => h) (Or.inl ⟨by rfl, ?hN9⟩) hS ?rN9
        case hN9 =>
          intro w1 hSw
          have y0 : w1.cell? ⟨gn, on, none⟩ = some (.int .i64 need) := hSw.a
          have y1 : w1.cell? ⟨gn, on + 1, none⟩ = some (.int .i64 win) := hSw.b
          have y2 : w1.cell? ⟨gn, on + 2, none⟩ = some (.int .i64 keep) := hSw.c
          clear hSw
          go_simp
          try with_reducible rfl
        (try go_frame)
        refine wpAnyH_ready (rs := [9]) (by kernel_rfl) (by simp) (AllReadyH.cons rfl (fun K hK => ?_) AllReadyH.nil)
        go_simp
        refine (new8 need win keep _).mono ?_
        rintro e w4 (⟨-, H, mb, bk, gk, O, rfl, hT, hO, hb4⟩ | ⟨h1, -, -⟩)
        rotate_left
        · exact absurd (HNE.out.symm.trans h1) (by decide)
        have hb4' : Below w3.heap.size w3 w4 := ((Below.refl _ w3).drew).trans hb4
        have S4 := Lib.hid (S3.out.below hb4')
        have HT := Lib.hid hT
        have HO : Hid (∀ k, O k → w3.heap.size ≤ k) := Lib.hid hO
        have hs4 := hb4'.size
        have HC4 := Lib.hid ((hb4'.block _ hgl).trans HCU.out.1)
        have C4 := Lib.hid (H3.below ⟨g0, g1, g2⟩ hb4' hgl)
        have ct := cellOf (i := 0) S4.out.ct
        have cf := frozenOf (i := 0) S4.out.ct
        have ce := cellOf (i := 0) S4.out.ce
        have cg := frozenOf (i := 0) S4.out.ce
        clear hb4' hT hO hb4
        refine hK.out _ _ (C4.out) (fun hS => ?_)
        clear hK K
        (try go_frame)
        refine wpAnyH_take (i := 10) (v := ?vN10) rfl (by kernel_rfl) (by kernel_rfl) (by kernel_rfl) (fun _ _ _ h => h) (Or.inl ⟨by kernel_rfl, ?hN10⟩) hS ?rN10
        case hN10 =>
          intro w1 hSw
          clear hSw
          go_simp
          try with_reducible rfl
        (try go_frame)
        refine wpAnyH_take (i := 11) (v := ?vN11) rfl (by kernel_rfl) (by kernel_rfl) (by kernel_rfl) (fun _ _ _ h => h) (Or.inl ⟨by kernel_rfl, ?hN11⟩) hS ?rN11
        case hN11 =>
          intro w1 hSw
          clear hSw
          go_simp
          try with_reducible rfl
        (try go_frame)
        refine wpAnyH_take (i := 12) (v := ?vN12) rfl (by kernel_rfl) (by kernel_rfl) (by kernel_rfl) (fun _ _ _ h => h) (Or.inl ⟨by kernel_rfl, ?hN12⟩) hS ?rN12
        case hN12 =>
          intro w1 hSw
          clear hSw
          go_simp
          try with_reducible rfl
        (try go_frame)
        refine wpAnyH_ready (rs := [13]) (by kernel_rfl) (by simp) (AllReadyH.cons rfl (fun K hK => ?_) AllReadyH.nil)
        go_simp
        refine hK.out _ _ (hS.set (by omega) _) (fun hS => ?_)
        clear hK K
        refine wpAnyH_ready (rs := [14]) (by kernel_rfl) (by simp) (AllReadyH.cons rfl (fun K hK => ?_) AllReadyH.nil)
        go_simp
        refine hK.out _ _ (hS.set (by omega) _) (fun hS => ?_)
        clear hK K
        refine wpAnyH_done (by kernel_rfl) ?_ _
        simp only [NormalK]
        go_wp2_with fail
        refine (must_t _).mono ?_
        rintro e wm ⟨rfl, hw⟩
        obtain ⟨X, hX⟩ : ∃ X, X = ((w4.setCell ⟨w.heap.size, 0, none⟩ (.pointer (some ⟨H, 0, none⟩))).setCell ⟨w.heap.size + 1, 0, none⟩ (.int .i64 0)) := ⟨_, rfl⟩
        rw [hw, ← hX]
        have SX : Hid (LdS w X w.heap.size (.pointer (some ⟨H, 0, none⟩)) (.int .i64 0) ls L) := Lib.hid (by rw [hX]; exact (S4.out.set1 _).set2 _)
        have TX : Hid (Tab X H mb ⟨need, win, keep, 0, []⟩ bk gk O) := Lib.hid (HT.out.kept (fun k hk => by rw [hX]; have := HO.out k hk; exact (set_nb (by omega)).trans (set_nb (by omega))) (by rw [hX, size_setCell, size_setCell]; exact Nat.le_refl _))
        have CX : Hid (X.heap[gn]? = some (.cells cur 3 (0, 0))) := Lib.hid (by rw [hX]; exact (set_nb (by omega)).trans ((set_nb (by omega)).trans HC4.out))
        have y3 : X.cell? ⟨gn, on + 3, none⟩ = some (.int .i64 now) := (cellOf CX.out).trans HCN.out
        have yt : X.cell? ⟨w.heap.size, 0, none⟩ = some (.pointer (some ⟨H, 0, none⟩)) := cellOf SX.out.ct
        have yH : X.cell? ⟨H, 3, none⟩ = some (.int .i64 0) := TX.out.c.cell.2.2.2.1
        have yF : X.frozen? ⟨H, 3, none⟩ = false := frozenOf TX.out.c.cells
        have hHL : L < H := by have := HO.out H TX.out.c.oH; omega
        have hHw : H ≠ w.heap.size := by omega
        have hHg : H ≠ gn := fun e => by have h1 := TX.out.c.cells; rw [e, CX.out] at h1; injection h1 with h1; injection h1 with _ h1 _; revert h1; decide
        clear hX hw ct cf ce cg S4 HT C4 HC4 g0 g1 g2 S3
        go_wp2_with fail
        refine region_normal ?_
        refine wp_region_held_drew (S := fun w' => w'.cell? ⟨w.heap.size, 0, none⟩ = some (.pointer (some ⟨H, 0, none⟩)) ∧ w'.cell? ⟨gn, on + 3, none⟩ = some (.int .i64 now)) (by kernel_rfl) (⟨yt, y3⟩) (fun hS => ?_)
        refine wpAnyH_take (i := 0) (v := ?vT1) rfl (by kernel_rfl) (by kernel_rfl) (by kernel_rfl) (fun _ _ _ h => h) (Or.inl ⟨by rfl, ?hT1⟩) hS ?rT1
        case hT1 =>
          intro w1 hSw
          have u0 : w1.cell? ⟨w.heap.size, 0, none⟩ = some (.pointer (some ⟨H, 0, none⟩)) := hSw.1
          have u1 : w1.cell? ⟨gn, on + 3, none⟩ = some (.int .i64 now) := hSw.2
          clear hSw
          go_simp
          try with_reducible rfl
        (try go_frame)
        refine wpAnyH_take (i := 1) (v := ?vT2) rfl (by kernel_rfl) (by kernel_rfl) (by kernel_rfl) (fun _ _ _ h => h) (Or.inl ⟨by rfl, ?hT2⟩) hS ?rT2
        case hT2 =>
          intro w1 hSw
          have u0 : w1.cell? ⟨w.heap.size, 0, none⟩ = some (.pointer (some ⟨H, 0, none⟩)) := hSw.1
          have u1 : w1.cell? ⟨gn, on + 3, none⟩ = some (.int .i64 now) := hSw.2
          clear hSw
          go_simp
          try with_reducible rfl
        (try go_frame)
        refine wpAnyH_take (i := 2) (v := ?vT3) rfl (by kernel_rfl) (by kernel_rfl) (by kernel_rfl) (fun _ _ _ h => h) (Or.inl ⟨by rfl, ?hT3⟩) hS ?rT3
        case hT3 =>
          intro w1 hSw
          have u0 : w1.cell? ⟨w.heap.size, 0, none⟩ = some (.pointer (some ⟨H, 0, none⟩)) := hSw.1
          have u1 : w1.cell? ⟨gn, on + 3, none⟩ = some (.int .i64 now) := hSw.2
          clear hSw
          go_simp
          try with_reducible rfl
        (try go_frame)
        refine wpAnyH_take (i := 3) (v := ?vT4) rfl (by kernel_rfl) (by kernel_rfl) (by kernel_rfl) (fun _ _ _ h => h) (Or.inl ⟨by rfl, ?hT4⟩) hS ?rT4
        case hT4 =>
          intro w1 hSw
          have u0 : w1.cell? ⟨w.heap.size, 0, none⟩ = some (.pointer (some ⟨H, 0, none⟩)) := hSw.1
          have u1 : w1.cell? ⟨gn, on + 3, none⟩ = some (.int .i64 now) := hSw.2
          clear hSw
          go_simp
          try with_reducible rfl
        (try go_frame)
        refine wpAnyH_take (i := 4) (v := ?vT5) rfl (by kernel_rfl) (by kernel_rfl) (by kernel_rfl) (fun _ _ _ h => h) (Or.inl ⟨by rfl, ?hT5⟩) hS ?rT5
        case hT5 =>
          intro w1 hSw
          have u0 : w1.cell? ⟨w.heap.size, 0, none⟩ = some (.pointer (some ⟨H, 0, none⟩)) := hSw.1
          have u1 : w1.cell? ⟨gn, on + 3, none⟩ = some (.int .i64 now) := hSw.2
          clear hSw
          go_simp
          try with_reducible rfl
        (try go_frame)
        refine wpAnyH_take (i := 5) (v := ?vT6) rfl (by kernel_rfl) (by kernel_rfl) (by kernel_rfl) (fun _ _ _ h => h) (Or.inl ⟨by rfl, ?hT6⟩) hS ?rT6
        case hT6 =>
          intro w1 hSw
          have u0 : w1.cell? ⟨w.heap.size, 0, none⟩ = some (.pointer (some ⟨H, 0, none⟩)) := hSw.1
          have u1 : w1.cell? ⟨gn, on + 3, none⟩ = some (.int .i64 now) := hSw.2
          clear hSw
          go_simp
          try with_reducible rfl
        (try go_frame)
        refine wpAnyH_ready (rs := [6]) (by kernel_rfl) (by simp) (AllReadyH.cons rfl (fun K hK => ?_) AllReadyH.nil)
        go_simp
        refine hK.out _ _ (⟨(World.cell?_of_block (a := ⟨w.heap.size, 0, none⟩) (set_nb hHw)).trans hS.1, (World.cell?_of_block (a := ⟨gn, on + 3, none⟩) (set_nb hHg)).trans hS.2⟩) (fun hS => ?_)
        clear hK K
        refine wpAnyH_done (by kernel_rfl) ?_ _
        simp only [NormalK]
        obtain ⟨Y, hY⟩ : ∃ Y, Y = (X.setCell ⟨H, 3, none⟩ (.int .i64 now)).drew := ⟨_, rfl⟩
        have SY : Hid (LdS w Y w.heap.size (.pointer (some ⟨H, 0, none⟩)) (.int .i64 0) ls L) := Lib.hid (by rw [hY]; exact (SX.out.setFar _ hHL).drew)
        have TY : Hid (Tab Y H mb ⟨need, win, keep, now, []⟩ bk gk O) := Lib.hid (by rw [hY]; exact (TX.out.setNow now).kept (fun _ _ => rfl) (Nat.le_refl _))
        have hYs : Y.heap.size = X.heap.size := by rw [hY]; exact size_setCell _ _ _
        rw [← hY]
        clear hY
        go_wp2_with fail
        rw [show ls.length - 1 - 1 = rest.length by have := HLR.out.2; omega]
        have HI0 : Hid (LoadI s w w.heap.size H L ls rest need win keep now 0 [] (-1) Y) := Lib.hid ⟨by rw [HX.out]; rfl, Int.le_refl _, by omega, rfl, (fun p hp => by cases hp), SY.out, O, mb, bk, gk, TY.out, fun k hk => by have := HO.out k hk; omega⟩
        have HHEAD := Lib.hid (And.intro HLR.out.1 hrl)
        clear SY TY hYs SX TX CX yt y3 yH yF hHw hHg HX HO hrl HCU HCN hgl hs4 l1I l2I l3I a0 l1 l2 l3 q4 hgnL hc1 hc2 hc3 hl0 hl1 h2 h66 hs3
        go_loopw [6, 8, 9, 10, 71] (fun lv _ _ _ ii wr => ∃ (i : Nat) (es : List (Int × Tk)) (last : Int), i ≤ rest.length ∧ lv = .int .i64 last ∧ ii = .int .i64 i ∧ Hid (LoadI s w w.heap.size H L ls rest need win keep now i es last wr)) (fun _ _ _ _ ii _ => rest.length - (intOf ii).toNat)
        case atStart => exact ⟨0, [], -1, Nat.zero_le _, rfl, rfl, HI0⟩
        case round =>
          obtain ⟨i, es, last, hi, rfl, rfl, HI⟩ := hrel
          have HBD := Lib.hid HI.out.bd
          obtain ⟨hld, b0, b1, hel, -, hst, O, mb, bk, gk, hT, hO⟩ := HI.out
          have SR := Lib.hid hst
          have TR := Lib.hid hT
          have HO := Lib.hid hO
          have HLD := Lib.hid hld
          have HEL := Lib.hid hel
          have ct : wr.cell? ⟨w.heap.size, 0, none⟩ = some (.pointer (some ⟨H, 0, none⟩)) := cellOf hst.ct
          have hrl := HHEAD.out.2
          have hL2 := hst.hL
          have hLs := heap_lt hst.cl
          have hws := hst.bel.size
          clear hst hT hO hld HI hel HI0
          by_cases hlt : i < rest.length
          · obtain ⟨u, hu⟩ : ∃ u, rest[i]? = some u := ⟨_, List.getElem?_eq_getElem hlt⟩
            have hu2 : ls[1 + i]? = some u := by rw [HHEAD.out.1]; exact rest_at hu
            have cu := SR.out.word hu2
            have hul : u.length ≤ 65536 := HWL.out u (List.mem_of_getElem? hu2)
            have hltI : (i : Int) < (rest.length : Int) := by omega
            have HU := Lib.hid hu
            clear hu hu2
            go_wp2_with fail
            refine (numbers48 u (by omega) (HE.out.below (SR.out.bel.mono hK)) (Nat.le_trans hK hws)).mono ?_
            rintro e w3 (⟨ns, hns, gn, on, capn, cur, rfl, hgn, hcur, hc1, hc2, hc3, hc4, hb3⟩ | ⟨hno, rfl, hb3⟩)
            rotate_left
            · exact leave_bad (HLD.out.trans (loadR_no HU.out hno)) (SR.out.below hb3) rfl rfl
            have S3 := Lib.hid (SR.out.below hb3)
            have T3 := Lib.hid (TR.out.below hb3)
            have hs3 := hb3.size
            have HB3 := Lib.hid hb3
            have HNS := Lib.hid hns
            have HCU := Lib.hid (And.intro hcur hc4)
            have HRN : Hid (rowM ⟨need, win, keep, now, es⟩ last ns = none → loadT s = none) := Lib.hid (fun h => HLD.out.trans (loadR_none HU.out hns h))
            have HRS : Hid (∀ p, rowM ⟨need, win, keep, now, es⟩ last ns = some p → loadT s = loadR (addT ⟨need, win, keep, now, es⟩ p) p.1 (rest.drop (i + 1))) := Lib.hid (fun p h => HLD.out.trans (loadR_some HU.out hns h))
            have ct3 : w3.cell? ⟨w.heap.size, 0, none⟩ = some (.pointer (some ⟨H, 0, none⟩)) := cellOf S3.out.ct
            clear hb3 hns hcur hc4 cu ct
            by_cases hl3 : 3 ≤ ns.length
            rotate_left
            · have HX := Lib.hid (HRN.out (rowM_short hl3))
              have h3 : ns.length < 3 := by omega
              have h3I : (ns.length : Int) < 3 := by omega
              clear hl3
              go_wp2_with fail
              refine (must_f _).mono ?_
              rintro e wm ⟨rfl, hw⟩
              rw [hw]
              clear hw wm
              exact leave_bad HX.out S3.out rfl rfl
            have hl3I : (3 : Int) ≤ (ns.length : Int) := by omega
            have p0 : 0 < ns.length := by omega
            have p0I : (0 : Int) < (ns.length : Int) := by omega
            have p1I : (1 : Int) < (ns.length : Int) := by omega
            have HRL := Lib.hid (rowM_long (t := ⟨need, win, keep, now, es⟩) (last := last) hl3)
            have hall := ((numsM_iff _ _).1 HNS.out).2.2
            obtain ⟨a0, a1⟩ := hall (nth ns 0) (nthL_mem (by omega))
            obtain ⟨k0, k1⟩ := hall (nth ns 1) (nthL_mem (by omega))
            have hca : w3.cell? ⟨gn, on, none⟩ = some (.int .i64 (nth ns 0)) := (cellOf HCU.out.1).trans (HCU.out.2 0 (nth ns 0) (by rw [nth_get (by omega : 0 < ns.length)]; exact List.getElem?_eq_getElem _))
            have hck : w3.cell? ⟨gn, on + 1, none⟩ = some (.int .i64 (nth ns 1)) := (cellOf HCU.out.1).trans (HCU.out.2 1 (nth ns 1) (by rw [nth_get (by omega : 1 < ns.length)]; exact List.getElem?_eq_getElem _))
            obtain ⟨a, ha⟩ : ∃ a, a = nth ns 0 := ⟨_, rfl⟩
            obtain ⟨k, hk⟩ : ∃ k, k = nth ns 1 := ⟨_, rfl⟩
            rw [← ha, ← hk] at HRL
            rw [← ha] at hca a0 a1
            rw [← hk] at hck k0 k1
            have HALL := Lib.hid hall
            clear ha hk hall
            cases q2 : decide (last < a) with
            | false =>
              have HX := Lib.hid (HRN.out (by rw [HRL.out, if_neg (fun h => of_decide_eq_false q2 h.1)]))
              go_wp2_with fail
              refine (must_f _).mono ?_
              rintro e wm ⟨rfl, hw⟩
              rw [hw]
              clear hw wm
              exact leave_bad HX.out S3.out rfl rfl
            | true =>
              cases q3 : decide (a ≤ 16777215) with
              | false =>
                have HX := Lib.hid (HRN.out (by rw [HRL.out, if_neg (fun h => of_decide_eq_false q3 h.2.1)]))
                go_wp2_with fail
                refine (must_f _).mono ?_
                rintro e wm ⟨rfl, hw⟩
                rw [hw]
                clear hw wm
                exact leave_bad HX.out S3.out rfl rfl
              | true =>
                cases q4 : decide (k ≤ 1) with
                | false =>
                  have HX := Lib.hid (HRN.out (by rw [HRL.out, if_neg (fun h => of_decide_eq_false q4 h.2.2.1)]))
                  go_wp2_with fail
                  refine (must_f _).mono ?_
                  rintro e wm ⟨rfl, hw⟩
                  rw [hw]
                  clear hw wm
                  exact leave_bad HX.out S3.out rfl rfl
                | true =>
                  go_wp2_with fail
                  refine (must_t _).mono ?_
                  rintro e wm ⟨rfl, hw⟩
                  rw [hw]
                  clear hw wm
                  have z2 : (2 : Nat) ≤ ns.length := by omega
                  have z2I : (2 : Int) ≤ (ns.length : Int) := by omega
                  have z3 : (2 : Nat) ≤ capn := by omega
                  have z4 : ¬ capn = 2 := by omega
                  have z3I : (2 : Int) ≤ (capn : Int) := by omega
                  have hgl3 := heap_lt HCU.out.1
                  go_wp2_with fail
                  refine region_normal ?_
                  refine wp_region_held_drew (S := fun w' => w'.cell? ⟨gn, on + 1, none⟩ = some (.int .i64 k)) (by kernel_rfl) (hck) (fun hS => ?_)
                  refine wpAnyH_take (i := 0) (v := ?vX1) rfl (by kernel_rfl) (by kernel_rfl) (by kernel_rfl) (fun _ _ _ h => h) (Or.inl ⟨by rfl, ?hX1⟩) hS ?rX1
                  case hX1 =>
                    intro w1 hSw
                    have u1 : w1.cell? ⟨gn, on + 1, none⟩ = some (.int .i64 k) := hSw
                    clear hSw
                    go_simp
                    try with_reducible rfl
                  (try go_frame)
                  refine wpAnyH_take (i := 1) (v := ?vX2) rfl (by kernel_rfl) (by kernel_rfl) (by kernel_rfl) (fun _ _ _ h => h) (Or.inl ⟨by rfl, ?hX2⟩) hS ?rX2
                  case hX2 =>
                    intro w1 hSw
                    have u1 : w1.cell? ⟨gn, on + 1, none⟩ = some (.int .i64 k) := hSw
                    clear hSw
                    go_simp
                    try with_reducible rfl
                  (try go_frame)
                  refine wpAnyH_take (i := 2) (v := ?vX3) rfl (by kernel_rfl) (by kernel_rfl) (by kernel_rfl) (fun _ _ _ h => h) (Or.inl ⟨by rfl, ?hX3⟩) hS ?rX3
                  case hX3 =>
                    intro w1 hSw
                    have u1 : w1.cell? ⟨gn, on + 1, none⟩ = some (.int .i64 k) := hSw
                    clear hSw
                    go_simp
                    try with_reducible rfl
                  (try go_frame)
                  refine wpAnyH_take (i := 3) (v := ?vX4) rfl (by kernel_rfl) (by kernel_rfl) (by kernel_rfl) (fun _ _ _ h => h) (Or.inl ⟨by rfl, ?hX4⟩) hS ?rX4
                  case hX4 =>
                    intro w1 hSw
                    have u1 : w1.cell? ⟨gn, on + 1, none⟩ = some (.int .i64 k) := hSw
                    clear hSw
                    go_simp
                    try with_reducible rfl
                  (try go_frame)
                  refine wpAnyH_take (i := 4) (v := ?vX5) rfl (by kernel_rfl) (by kernel_rfl) (by kernel_rfl) (fun _ _ _ h => h) (Or.inl ⟨by rfl, ?hX5⟩) hS ?rX5
                  case hX5 =>
                    intro w1 hSw
                    have u1 : w1.cell? ⟨gn, on + 1, none⟩ = some (.int .i64 k) := hSw
                    clear hSw
                    go_simp
                    try with_reducible rfl
                  (try go_frame)
                  refine wpAnyH_take (i := 5) (v := ?vX6) rfl (by kernel_rfl) (by kernel_rfl) (by kernel_rfl) (fun _ _ _ h => h) (Or.inl ⟨by rfl, ?hX6⟩) hS ?rX6
                  case hX6 =>
                    intro w1 hSw
                    have u1 : w1.cell? ⟨gn, on + 1, none⟩ = some (.int .i64 k) := hSw
                    clear hSw
                    go_simp
                    try with_reducible rfl
                  (try go_frame)
                  refine wpAnyH_take (i := 6) (v := ?vX7) rfl (by kernel_rfl) (by kernel_rfl) (by kernel_rfl) (fun _ _ _ h => h) (Or.inl ⟨by rfl, ?hX7⟩) hS ?rX7
                  case hX7 =>
                    intro w1 hSw
                    have u1 : w1.cell? ⟨gn, on + 1, none⟩ = some (.int .i64 k) := hSw
                    clear hSw
                    go_simp
                    try with_reducible rfl
                  (try go_frame)
                  refine wpAnyH_ready (rs := [7]) (by kernel_rfl) (by simp) (AllReadyH.cons rfl (fun K hK => ?_) AllReadyH.nil)
                  go_simp
                  refine hK.out _ _ ((World.cell?_alloc_lt _ _ _ hgl3).trans hS) (fun hS => ?_)
                  clear hK K
                  refine wpAnyH_ready (rs := [8]) (by kernel_rfl) (by simp) (AllReadyH.cons rfl (fun K hK => ?_) AllReadyH.nil)
                  go_simp
                  refine hK.out _ _ (hS) (fun hS => ?_)
                  clear hK K
                  refine wpAnyH_done (by kernel_rfl) ?_ _
                  simp only [NormalK]
                  obtain ⟨Z, hZ⟩ : ∃ Z, Z = (w3.alloc (.cells #[.bool (k == 1), .slice (some ⟨gn, on + 2, none⟩) (ns.length - 2) (capn - 2)] 65)).drew := ⟨_, rfl⟩
                  rw [← hZ]
                  have hbZ : Below w3.heap.size w3 Z := by rw [hZ]; exact (below_alloc1 w3 _).drew
                  have hsZ : Z.heap.size = w3.heap.size + 1 := by rw [hZ]; exact size_alloc w3 _
                  have eZ : Z.heap[w3.heap.size]? = some (.cells #[.bool (k == 1), .slice (some ⟨gn, on + 2, none⟩) (ns.length - 2) (capn - 2)] 65 (0, 0)) := by rw [hZ]; exact heap_alloc_new w3 _
                  have hkb : (k == 1) = decide (k = 1) := by rw [Bool.eq_iff_iff, beq_iff_eq, decide_eq_true_eq]
                  rw [hkb] at eZ
                  have SZ := Lib.hid (S3.out.below hbZ)
                  have TZ := Lib.hid (T3.out.below hbZ)
                  have HCZ := Lib.hid ((hbZ.block _ hgl3).trans HCU.out.1)
                  have HEZ := Lib.hid eZ
                  have ctZ : Z.cell? ⟨w.heap.size, 0, none⟩ = some (.pointer (some ⟨H, 0, none⟩)) := cellOf SZ.out.ct
                  have HBZ := Lib.hid (And.intro hbZ hsZ)
                  clear hZ hbZ hsZ eZ hkb z2 z2I z3 z3I z4
                  go_wp2_with fail
                  refine (check49 (t := ⟨need, win, keep, now, es⟩) (x := ⟨decide (k = 1), ns.drop 2⟩) (g := gn) (off := on + 2) (cap := capn - 2) (fun e => ?_) TZ.out.c.cell.1 TZ.out.c.cell.2.1 TZ.out.c.cell.2.2.1 TZ.out.c.cell.2.2.2.1 (cellOf HEZ.out) ?_ (fun j hj => ?_) (fun c hc => HALL.out c (List.mem_of_mem_drop hc)) ?_ n0 n1).mono ?_
                  · have e : (ns.drop 2).length = 0 := by rw [show ns.drop 2 = [] from e]; rfl
                    rw [List.length_drop] at e; omega
                  · rw [cellOf HEZ.out, List.length_drop]; rfl
                  · have hj : j < (ns.drop 2).length := hj
                    rw [List.length_drop] at hj
                    have e := HCU.out.2 (2 + j) (nth ns (2 + j)) (by rw [nth_get (by omega : 2 + j < ns.length)]; exact List.getElem?_eq_getElem _)
                    show Z.cell? ⟨gn, on + 2 + j, none⟩ = some (.int .i64 (nth (ns.drop 2) j))
                    rw [show on + 2 + j = on + (2 + j) by omega, nth_drop, cellOf HCZ.out]
                    exact e
                  · have := numsM_len HNS.out
                    show (ns.drop 2).length ≤ 100000
                    rw [List.length_drop]; omega
                  rintro e w5 ⟨⟨hc, rfl⟩ | ⟨hc, rfl⟩, hb5⟩
                  rotate_left
                  · exact leave_bad (HRN.out (by rw [HRL.out, if_neg (fun h => hc h.2.2.2)])) (SZ.out.below hb5) rfl rfl
                  have HP := Lib.hid (HRS.out _ (by rw [HRL.out, if_pos ⟨of_decide_eq_true q2, of_decide_eq_true q3, of_decide_eq_true q4, hc⟩]))
                  have S5 := Lib.hid (SZ.out.below hb5)
                  have T5 := Lib.hid (TZ.out.below hb5)
                  have HC5 := Lib.hid ((hb5.block _ (heap_lt HCZ.out)).trans HCZ.out)
                  have HE5 := Lib.hid ((hb5.block _ (heap_lt HEZ.out)).trans HEZ.out)
                  have hs5 := hb5.size
                  have hsz := HBZ.out.2
                  have ct5 : w5.cell? ⟨w.heap.size, 0, none⟩ = some (.pointer (some ⟨H, 0, none⟩)) := cellOf S5.out.ct
                  have cm5 : w5.cell? ⟨H, 4, none⟩ = some (.map (some mb)) := T5.out.c.cell.2.2.2.2
                  have ca5 : w5.cell? ⟨gn, on, none⟩ = some (.int .i64 a) := (cellOf HC5.out).trans ((cellOf HCU.out.1).symm.trans hca)
                  have hwf := wf_i64 (a := a) (by omega) (by omega)
                  have HB5 : Hid (Below wr.heap.size wr w5) := Lib.hid (HB3.out.trans ((HBZ.out.1.trans (hb5.mono (by omega))).mono hs3))
                  have hlk : lookT a es = none := look_end (fun p hp => by have := HBD.out p hp; have := of_decide_eq_true q2; omega)
                  have HLK := Lib.hid hlk
                  clear hc hb5 hlk ctZ ct3 hck hca hsz
                  go_wp2_with fail
                  refine still_drew 8 (by kernel_rfl) (by kernel_rfl) ?_
                  simp only [List.take_succ_cons, List.take_zero, List.drop_succ_cons, List.drop_zero]
                  repeat still_step
                  refine wpStill_nil ?_
                  go_wp2_with (first
                    | (at_mapUpdate; refine wpList_mapUpdate_own _ rfl _ _ _ 34 rfl 3 63 int_law Tryz.underlying34 Rp mb 1000 _ rfl (show w5.drew.ownsMap Tryz.prog 3 Rp mb 1000 (.map (encE bk es)) from T5.out.own) (by decide) _ _ (.int .i64 a) rfl rfl (keyOf_int_mk Tryz.underlying3 hwf) (.lit (.int .i64 w3.heap.size)) [] rfl ?_; intro w6 hown6 hg6)
                    | go_in)
                  have hmL := HO.out mb TR.out.c.om
                  have hmw := TR.out.c.lt mb TR.out.c.om
                  have hall5 : ∀ p ∈ es, p.1 < a := fun p hp => by have := HBD.out p hp; have := of_decide_eq_true q2; omega
                  have hw6 : w5.heap.size ≤ w6.heap.size := hg6.size
                  have hk6 : ∀ j, j < w5.heap.size → j ≠ mb → w6.heap[j]? = w5.heap[j]? := fun j hj hn => hg6.block j hj (fun e => hn (Option.some.inj e))
                  have hsz := HBZ.out.2
                  have hgc := heap_lt HC5.out
                  have hent : EntAt w6 w3.heap.size gn ⟨decide (k = 1), ns.drop 2⟩ := ⟨on + 2, capn - 2, cur, (hk6 _ (heap_lt HE5.out) (by omega)).trans (by rw [HE5.out]; show _ = some (Obj.cells #[.bool (decide (k = 1)), .slice (some ⟨gn, on + 2, none⟩) (ns.drop 2).length (capn - 2)] _ _); rw [List.length_drop]), (hk6 _ hgc (by omega)).trans HC5.out, by show (ns.drop 2).length ≤ capn - 2; rw [List.length_drop]; omega, by omega, by omega, fun j c hj => by
                    have hj : (ns.drop 2)[j]? = some c := hj
                    rw [List.getElem?_drop] at hj
                    have e := HCU.out.2 (2 + j) c hj
                    rw [show on + 2 + j = on + (2 + j) by omega]; exact e⟩
                  have TA := Tab.add TR.out HLK.out (by show es.length < 1000; rw [HEL.out]; omega) hs3 hgn hent hown6 (fun j hj hn => (hk6 j (by omega) hn).trans (HB5.out.block j hj)) (by omega)
                  have TB : ∃ O' mb' bk' gk', Tab w6 H mb' ⟨need, win, keep, now, es ++ [(a, ⟨decide (k = 1), ns.drop 2⟩)]⟩ bk' gk' O' ∧ ∀ j, O' j → L < j := by
                    rw [← putT_end hall5]
                    refine ⟨_, mb, _, _, TA, fun j hj => ?_⟩
                    rcases hj with h | h | h
                    · exact HO.out j h
                    · omega
                    · omega
                  refine ⟨⟨i + 1, es ++ [(a, (⟨decide (k = 1), ns.drop 2⟩ : Tk))], a, by omega, rfl, by go_num, Lib.hid ⟨HP.out, by omega, of_decide_eq_true q3, by rw [List.length_append, HEL.out]; rfl, fun p hp => ?_, S5.out.grown hg6 hmL, TB⟩⟩, by simp [intOf]; omega⟩
                  · rcases List.mem_append.1 hp with h | h
                    · exact Int.le_of_lt (hall5 p h)
                    · rw [List.mem_singleton] at h; rw [h]; exact Int.le_refl _
          · obtain rfl : i = rest.length := by omega
            have HX : Hid (loadT s = some ⟨need, win, keep, now, es⟩) := Lib.hid (HLD.out.trans (by rw [List.drop_length]; rfl))
            have ce := cellOf (i := 0) SR.out.ce
            have cf := frozenOf (i := 0) SR.out.ct
            have cg := frozenOf (i := 0) SR.out.ce
            clear hlt
            go_wp2_with fail
            refine leave_good HX.out ((SR.out.set1 _).set2 _) (O := O) ⟨mb, bk, gk, TR.out.kept (fun k hk => ?_) ?_⟩ (fun k hk => ?_) rfl rfl
            · have := HO.out k hk
              exact (set_nb (by omega)).trans (set_nb (by omega))
            · rw [size_setCell, size_setCell]; exact Nat.le_refl _
            · have := HO.out k hk; omega
end Go.Proofs.YtkikokldijccnaaGreatDoor
