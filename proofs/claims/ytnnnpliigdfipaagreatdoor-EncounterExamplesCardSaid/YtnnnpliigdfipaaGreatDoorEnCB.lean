/- encounter: the writer of a line, and Format. -/
import Derived.Test.YtnnnpliigdfipaaGreatDoorEnCA
import Derived.Test.YtnnnpliigdfipaaGreatDoorRC
import Derived.Deep.RegionWith
import Derived.Deep.RegionHeld3
import Derived.StillTailTactics
import Derived.Deep.LoopGhost
import Derived.Test.YtnnnpliigdfipaaGreatDoorEnJ
import Derived.Lib.OthersKept
import Derived.Lib.BufferKept
import Derived.Lib.FrozenHead
import Derived.Shelf.Strings.BuilderK
import Derived.Lib.Hide
import Derived.Outline
namespace Go.Proofs.YtnnnpliigdfipaaGreatDoor
open Go.RowKit
attribute [local go_sem ↓] Go.wp_at_zero Go.wp_at_succ
attribute [local go_sem] wrap_lit
/-- the builder at b holds the text l -/
def Bld (B b : Nat) (l : Tx) (w : World) : Prop := Lib.IsBuilderF 73 5 B b (Lib.byteCells l) w
theorem rowF_below {w w' : World} {base : Nat} {e : TypeId} {size n : Nat} {v : Value} {xs : List Value} (h : w.ownsRowF base e size v n xs) (hb : Below w.heap.size w w') : w'.ownsRowF base e size v n xs :=
  h.kept (row := none) ⟨hb.os, hb.tape, hb.output, hb.size, fun k hk _ => hb.block k hk⟩ (by cases hv : v.ownBlock <;> simp)
theorem Bld.below {B b : Nat} {l : Tx} {w w' : World} (h : Bld B b l w) (hb : Below w.heap.size w w') : Bld B b l w' := by
  rcases h with ⟨h1, v, h2, h3, h4⟩ | ⟨h1, v, h2, h3, h4⟩
  · exact .inl ⟨h1, v, (hb.block _ (heap_lt h2)).trans h2, rowF_below h3 hb, h4⟩
  · exact .inr ⟨h1, v, (hb.block _ (heap_lt h2)).trans h2, rowF_below h3 hb, h4⟩
theorem byteCells_app (l m : Tx) : Lib.byteCells l ++ Lib.strCells (S m) = Lib.byteCells (l ++ m) := by
  simp [Lib.byteCells, Lib.strCells]
/-- what a write keeps -/
structure Wr (B b : Nat) (w w' : World) : Prop where
  below : Below B w w'
  others : Lib.OthersKept 5 (some b) w w'
theorem Wr.refl (B b : Nat) (w : World) : Wr B b w w := ⟨Below.refl _ _, Lib.OthersKept.refl _ _ _⟩
theorem Wr.trans {B b : Nat} {w w1 w2 : World} (h : Wr B b w w1) (k : Wr B b w1 w2) : Wr B b w w2 := ⟨h.below.trans k.below, h.others.trans k.others⟩
theorem Wr.of_below {B b : Nat} {w w1 : World} (h : Below w.heap.size w w1) (hB : B ≤ w.heap.size) : Wr B b w w1 := ⟨h.mono hB, (Lib.OthersKept.refl _ _ _).below h⟩
theorem Wr.keep {B b : Nat} {w w' : World} (h : Wr B b w w') {k : Nat} {cs : Array Value} {e : TypeId} {f : Nat × Nat} (hk : w.heap[k]? = some (.cells cs e f)) (hb : k ≠ b) (he : e ≠ 5) : w'.heap[k]? = some (.cells cs e f) :=
  h.others k _ hk (fun e0 => hb (by injection e0)) (fun c fz e0 => he (by cases e0; rfl))
theorem S_line (ws : List Tx) : S (Lib.join ws [32]) ++ (⟨#[10]⟩ : ByteArray) = S (lineT ws) := by
  apply ByteArray.ext
  simp [lineT]
set_option maxHeartbeats 1000000 in
theorem write57 (B b g c : Nat) (ws : List Tx) (l : Tx) (w : World) (h : Bld B b l w) (hB : B ≤ w.heap.size) (hg : g < w.heap.size) (hc : ∀ j x, ws[j]? = some x → w.cell? ⟨g, j, none⟩ = some (.string (S x))) (hcap : ws.length ≤ c) (hl : l.length + (lineT ws).length ≤ 100000) (hN : ws.length ≤ 1000) :
    Calls Tryz.prog 57 #[.slice (some ⟨g, 0, none⟩) ws.length c, .pointer (some ⟨b, 0, none⟩)] w fun e w' => e = .returned (.tuple #[]) ∧ Bld B b (l ++ lineT ws) w' ∧ Wr B b w w' := by
  have hj : (Lib.join ws [32]).length ≤ 100000 := by unfold lineT at hl; simp at hl; omega
  have J := Lib.hid (join59 g c ws w hc hg hcap hj (by omega))
  have HB := Lib.hid h
  clear hc h
  go_enter Tryz.func57, Tryz.ntmps57
  go_wp2_with fail
  refine J.out.mono ?_
  rintro e w1 ⟨rfl, hb1⟩
  have HB1 := Lib.hid (HB.out.below hb1)
  have W1 := Lib.hid (Wr.of_below (b := b) hb1 hB)
  have hs1 := hb1.size
  clear hb1
  go_wp2_with fail
  rw [S_line]
  refine (Go.Proofs.Any.Builder_WriteString_k lay166 Tryz.Builder_Extra_156 B b (Lib.byteCells l) (S (lineT ws)) w1 HB1.out (by rw [Lib.byteCells_length, S_size]; omega) (by omega)).mono ?_
  rintro e w2 ⟨rfl, h2, hb2, hk2⟩
  rw [byteCells_app] at h2
  have W2 := Lib.hid (W1.out.trans ⟨hb2, hk2⟩)
  have H2 : Hid (Bld B b (l ++ lineT ws) w2) := Lib.hid (.inr h2)
  clear h2 hb2 hk2 HB1 W1
  go_wp2_with fail
  go_end0
  exact ⟨rfl, H2.out, W2.out⟩
theorem line2_len {a b : Int} (wp : Tx) (ha : small a) (hb : small b) (hp : wp.length ≤ 9) : (lineT [wp, Lib.itoa a, Lib.itoa b]).length ≤ 40 := by
  have h1 := itoa_len ha
  have h2 := itoa_len hb
  simp [lineT, Lib.join]
  omega
/-- the text of an aircraft; of its line and its first k legs; of an encounter's first line and its first i aircraft -/
def crT (c : Cr) : Tx := ((linesC c).map lineT).flatten
def crU (c : Cr) (k : Nat) : Tx := lineT (crL c) ++ ((c.lg.take k).map fun l => lineT (legL l)).flatten
def txU (x : En) (i : Nat) : Tx := lineT (encL x.cy x.gr) ++ ((x.cs.take i).map crT).flatten
theorem crU_zero (c : Cr) : crU c 0 = lineT (crL c) := by simp [crU]
theorem txU_zero (x : En) : txU x 0 = lineT (encL x.cy x.gr) := by simp [txU]
theorem crU_succ {c : Cr} {k : Nat} {l : Int × Int} (h : c.lg[k]? = some l) : crU c (k + 1) = crU c k ++ lineT (legL l) := by
  have hk := (List.getElem?_eq_some_iff.1 h)
  obtain ⟨h1, h2⟩ := hk
  unfold crU
  rw [List.take_succ_eq_append_getElem h1, h2]
  simp
theorem txU_succ {x : En} {i : Nat} {c : Cr} (h : x.cs[i]? = some c) : txU x (i + 1) = txU x i ++ crT c := by
  obtain ⟨h1, h2⟩ := List.getElem?_eq_some_iff.1 h
  unfold txU
  rw [List.take_succ_eq_append_getElem h1, h2]
  simp
theorem crU_all (c : Cr) {k : Nat} (h : c.lg.length ≤ k) : crU c k = crT c := by
  unfold crU crT linesC
  rw [List.take_of_length_le h]
  simp [List.map_map, Function.comp_def]
theorem take_flat_le {α : Type} (l : List (List α)) (k : Nat) : ((l.take k).flatten).length ≤ l.flatten.length := by
  have : l.flatten = (l.take k).flatten ++ (l.drop k).flatten := by rw [← List.flatten_append, List.take_append_drop]
  rw [this, List.length_append]
  omega
theorem crU_le (c : Cr) (k : Nat) : (crU c k).length ≤ (crT c).length := by
  rw [← crU_all c (Nat.le_refl c.lg.length)]
  unfold crU
  rw [List.take_of_length_le (Nat.le_refl _), List.map_take]
  have := take_flat_le (c.lg.map fun l => lineT (legL l)) k
  simp only [List.length_append]
  omega
theorem txU_all (x : En) {i : Nat} (h : x.cs.length ≤ i) : txU x i = txE x := by
  unfold txU txE linesE
  rw [List.take_of_length_le h]
  simp only [List.map_cons, List.flatten_cons, List.map_flatten]
  congr 1
  rw [List.map_map]
  generalize x.cs = cs
  induction cs with
  | nil => rfl
  | cons c cs ih => simp only [List.map_cons, List.flatten_cons, List.flatten_append, Function.comp_apply, ← ih]; rfl
theorem txU_le {x : En} (h : chE x = 0) (i : Nat) : (txU x i).length ≤ 4096 := by
  have h1 := txE_len h
  rw [← txU_all x (Nat.le_refl _)] at h1
  unfold txU at h1 ⊢
  rw [List.take_of_length_le (Nat.le_refl _)] at h1
  rw [List.map_take]
  have := take_flat_le (x.cs.map crT) i
  simp only [List.length_append] at h1 ⊢
  omega
theorem leg_cell0 {w : World} {b off k : Nat} {lg : List (Int × Int)} {l : Int × Int} (h : ∀ j, j < (flat lg).length → w.cell? ⟨b, off + j, none⟩ = some (.int .i64 (nth (flat lg) j))) (hl : lg[k]? = some l) : w.cell? ⟨b, off + k * 2, none⟩ = some (.int .i64 l.1) := by
  obtain ⟨h1, h2⟩ := List.getElem?_eq_some_iff.1 hl
  rw [h _ (by rw [flat2_len]; omega), (nth_flat lg k h1).1, h2]
theorem leg_cell1 {w : World} {b off k : Nat} {lg : List (Int × Int)} {l : Int × Int} (h : ∀ j, j < (flat lg).length → w.cell? ⟨b, off + j, none⟩ = some (.int .i64 (nth (flat lg) j))) (hl : lg[k]? = some l) : w.cell? ⟨b, off + k * 2 + 1, none⟩ = some (.int .i64 l.2) := by
  obtain ⟨h1, h2⟩ := List.getElem?_eq_some_iff.1 hl
  rw [Nat.add_assoc, h _ (by rw [flat2_len]; omega), (nth_flat lg k h1).2, h2]
theorem Bld.new (w : World) : Bld w.heap.size w.heap.size [] (w.alloc (.cells #[.pointer none, .slice none 0 0] 73)) :=
  .inl ⟨Nat.le_refl _, .slice none 0 0, heap_alloc_new _ _, World.ownsRowF_nil _ _ _ _, by simp [Value.ownBlock]⟩
set_option maxRecDepth 100000 in
set_option maxHeartbeats 4000000 in
theorem format13 (K : Nat) (x : En) (A : Option Addr) (cap : Nat) (w : World) (E : Env K w) (hK : K ≤ w.heap.size) (hc : InCr w w.heap.size A x.cs) (hcap : x.cs.length ≤ cap) (hmo : ∀ c ∈ x.cs, 0 ≤ c.mo) :
    Calls Tryz.prog 13 #[.agg #[.int .i64 x.cy, .int .i64 x.gr, .slice A x.cs.length cap]] w fun e w' => e = .returned (.tuple #[.string (S (foE x).1), .int .i64 (foE x).2]) ∧ Below w.heap.size w w' := by
  have HC := Lib.hid hc
  have HE := Lib.hid E
  have HMO := Lib.hid hmo
  clear hc E hmo
  have hsf : ∀ (w : World) (a : Addr) (k : Nat), _ := fun w a k => run_store Tryz.prog w a (.func (.func k) #[] #[]) .plain rfl
  go_enter Tryz.func13, Tryz.ntmps13
  have CH := Lib.hid (fun w' hb => check19 x A cap w' ((HC.out.below (w1 := w') hb).mono hb.size) hcap)
  go_wp2_with fail
  refine (CH.out _ ((Below.refl _ _).alloc (Nat.le_refl _) _)).mono ?_
  rintro e w1 ⟨rfl, hb1⟩
  by_cases hch : chE x = 0
  · obtain ⟨g1, g2, g3, g4, g5⟩ := chE_ok hch
    have ha : ∀ c ∈ x.cs, inB c.ad 0 16777215 = true ∧ crE c x.cy = 0 := allE_ok x.cs [] g5
    have hx1 : w1.heap[w.heap.size]? = some (.cells #[.int .i64 x.cy, .int .i64 x.gr, .slice A x.cs.length cap] 24 (0, 0)) := (hb1.block _ (by simp)).trans (heap_alloc_new _ _)
    have hB1 : Below w.heap.size w w1 := ((Below.refl _ _).alloc (Nat.le_refl _) _).trans (hb1.mono (by simp))
    have x0 : w1.cell? ⟨w.heap.size, 0, none⟩ = some (.int .i64 x.cy) := by simp [World.cell?, hx1]
    have x1 : w1.cell? ⟨w.heap.size, 1, none⟩ = some (.int .i64 x.gr) := by simp [World.cell?, hx1]
    have x2 : w1.cell? ⟨w.heap.size, 2, none⟩ = some (.slice A x.cs.length cap) := by simp [World.cell?, hx1]
    have HX := Lib.hid hx1
    have HB := Lib.hid hB1
    have HA := Lib.hid ha
    have hFO : Hid (foE x = (txE x, 0)) := Lib.hid (by unfold foE; rw [if_neg (fun h => h hch)])
    have hs1 : w.heap.size < w1.heap.size := heap_lt hx1
    clear ha hx1 hB1 hb1 CH g5
    go_wp2_with fail
    obtain ⟨wb, hwb⟩ : ∃ wb, wb = w1.alloc (.cells #[.pointer none, .slice none 0 0] 73) := ⟨_, rfl⟩
    have KBwb : Hid (wb.heap[w.heap.size]? = some (.cells #[.int .i64 x.cy, .int .i64 x.gr, .slice A x.cs.length cap] 24 (0, 0))) := Lib.hid (by rw [hwb]; exact (Below.heap_alloc _ _ _ hs1).trans HX.out)
    have Lwb : Hid (Bld w1.heap.size w1.heap.size [] wb) := Lib.hid (by rw [hwb]; exact Bld.new w1)
    have hzb : wb.heap.size = w1.heap.size + 1 := by rw [hwb]; simp
    have hBwb : Hid (Below w.heap.size w wb) := Lib.hid (HB.out.trans (by rw [hwb]; exact (Below.refl _ _).alloc (by omega) _))
    have Ewb : Hid (Env K wb) := Lib.hid (HE.out.below (hBwb.out.mono hK))
    rw [← hwb]
    clear hwb x0 x1 x2 HX HB
    have sc : small x.cy := ⟨by omega, by omega⟩
    have sg : small x.gr := ⟨by omega, by omega⟩
    have bndE : ([] : Tx).length + (lineT [w_encounter, Lib.itoa x.cy, Lib.itoa x.gr]).length ≤ 100000 := by have := line2_len w_encounter sc sg (by decide); simp only [List.length_nil]; omega
    refine wp_region_held_drew (S := fun w' => w'.heap[w.heap.size]? = some (.cells #[.int .i64 x.cy, .int .i64 x.gr, .slice A x.cs.length cap] 24 (0, 0))) (by kernel_rfl) (show wb.drew.heap[w.heap.size]? = _ from KBwb.out) (fun hS => ?_)
    refine wpAnyH_take (i := 0) (v := ?vE0) rfl (by kernel_rfl) (by kernel_rfl) (by kernel_rfl) (fun _ _ _ h => h) (Or.inl ⟨by rfl, ?hE0⟩) hS ?rE0
    case hE0 =>
      intro w1 hSw
      have z0 : w1.cell? ⟨w.heap.size, 0, none⟩ = some (.int .i64 x.cy) := by simp [World.cell?, hSw]
      have z1 : w1.cell? ⟨w.heap.size, 1, none⟩ = some (.int .i64 x.gr) := by simp [World.cell?, hSw]
      clear hSw
      go_simp
      try with_reducible rfl
    (try simp only [Act.put])
    refine wpAnyH_take (i := 1) (v := ?vE1) rfl (by kernel_rfl) (by kernel_rfl) (by kernel_rfl) (fun _ _ _ h => h) (Or.inl ⟨by rfl, ?hE1⟩) hS ?rE1
    case hE1 =>
      intro w1 hSw
      have z0 : w1.cell? ⟨w.heap.size, 0, none⟩ = some (.int .i64 x.cy) := by simp [World.cell?, hSw]
      have z1 : w1.cell? ⟨w.heap.size, 1, none⟩ = some (.int .i64 x.gr) := by simp [World.cell?, hSw]
      clear hSw
      go_simp
      try with_reducible rfl
    (try simp only [Act.put])
    refine wpAnyH_take (i := 2) (v := ?vE2) rfl (by kernel_rfl) (by kernel_rfl) (by kernel_rfl) (fun _ _ _ h => h) (Or.inl ⟨by rfl, ?hE2⟩) hS ?rE2
    case hE2 =>
      intro w1 hSw
      have z0 : w1.cell? ⟨w.heap.size, 0, none⟩ = some (.int .i64 x.cy) := by simp [World.cell?, hSw]
      have z1 : w1.cell? ⟨w.heap.size, 1, none⟩ = some (.int .i64 x.gr) := by simp [World.cell?, hSw]
      clear hSw
      go_simp
      try with_reducible rfl
    (try simp only [Act.put])
    refine wpAnyH_take (i := 4) (v := ?vE4) rfl (by kernel_rfl) (by kernel_rfl) (by kernel_rfl) (fun _ _ _ h => h) (Or.inl ⟨by rfl, ?hE4⟩) hS ?rE4
    case hE4 =>
      intro w1 hSw
      have z0 : w1.cell? ⟨w.heap.size, 0, none⟩ = some (.int .i64 x.cy) := by simp [World.cell?, hSw]
      have z1 : w1.cell? ⟨w.heap.size, 1, none⟩ = some (.int .i64 x.gr) := by simp [World.cell?, hSw]
      clear hSw
      go_simp
      try with_reducible rfl
    (try simp only [Act.put])
    refine wpAnyH_take (i := 5) (v := ?vE5) rfl (by kernel_rfl) (by kernel_rfl) (by kernel_rfl) (fun _ _ _ h => h) (Or.inl ⟨by rfl, ?hE5⟩) hS ?rE5
    case hE5 =>
      intro w1 hSw
      have z0 : w1.cell? ⟨w.heap.size, 0, none⟩ = some (.int .i64 x.cy) := by simp [World.cell?, hSw]
      have z1 : w1.cell? ⟨w.heap.size, 1, none⟩ = some (.int .i64 x.gr) := by simp [World.cell?, hSw]
      clear hSw
      go_simp
      try with_reducible rfl
    (try simp only [Act.put])
    refine wpAnyH_ready (rs := [3]) (by kernel_rfl) (by simp) (AllReadyH.cons rfl (fun K' hK' => ?_) AllReadyH.nil)
    go_simp
    refine (itoa60 x.cy sc K wb.drew (Ewb.out.below (Below.refl _ _).drew)).mono ?_
    rintro e wea ⟨rfl, hb⟩
    have hS3 : wea.heap[w.heap.size]? = some (.cells #[.int .i64 x.cy, .int .i64 x.gr, .slice A x.cs.length cap] 24 (0, 0)) := (hb.block _ (heap_lt hS)).trans hS
    have Ewea := Lib.hid ((Ewb.out.below (Below.refl _ _).drew).below (hb.mono (by show K ≤ wb.heap.size; omega)))
    have Lwea := Lib.hid (Bld.below (w := wb) Lwb.out (show Below wb.heap.size wb wea from (Below.refl _ _).drew.trans hb))
    have Rwea := Lib.hid (Wr.of_below (B := w1.heap.size) (b := w1.heap.size) (show Below wb.heap.size wb wea from (Below.refl _ _).drew.trans hb) (by omega))
    have zwea : wb.heap.size ≤ wea.heap.size := hb.size
    clear hb
    refine hK'.out _ _ hS3 (fun hS => ?_)
    clear hK' K' hS3
    refine wpAnyH_ready (rs := [6]) (by kernel_rfl) (by simp) (AllReadyH.cons rfl (fun K' hK' => ?_) AllReadyH.nil)
    go_simp
    refine (itoa60 x.gr sg K wea Ewea.out).mono ?_
    rintro e web ⟨rfl, hb⟩
    have hS3 : web.heap[w.heap.size]? = some (.cells #[.int .i64 x.cy, .int .i64 x.gr, .slice A x.cs.length cap] 24 (0, 0)) := (hb.block _ (heap_lt hS)).trans hS
    have Eweb := Lib.hid (Ewea.out.below (hb.mono (by omega)))
    have Lweb := Lib.hid (Lwea.out.below hb)
    have Rweb := Lib.hid (Rwea.out.trans (Wr.of_below (B := w1.heap.size) (b := w1.heap.size) hb (by omega)))
    have zweb : wb.heap.size ≤ web.heap.size := Nat.le_trans zwea hb.size
    clear hb
    refine hK'.out _ _ hS3 (fun hS => ?_)
    clear hK' K' hS3 Ewea Lwea Rwea zwea
    refine wpAnyH_ready (rs := [7]) (by kernel_rfl) (by simp) (AllReadyH.cons rfl (fun K' hK' => ?_) AllReadyH.nil)
    go_simp
    refine hK'.out _ _ ((Below.heap_alloc _ _ _ (heap_lt hS)).trans hS) (fun hS => ?_)
    clear hK' K'
    refine wpAnyH_ready (rs := [8]) (by kernel_rfl) (by simp) (AllReadyH.cons rfl (fun K' hK' => ?_) AllReadyH.nil)
    go_simp
    have hal : Below web.heap.size web (web.alloc (.cells #[.string ⟨#[101, 110, 99, 111, 117, 110, 116, 101, 114]⟩, .string (S (Lib.itoa x.cy)), .string (S (Lib.itoa x.gr))] 9)) := (Below.refl _ _).alloc (Nat.le_refl _) _
    refine (write57 w1.heap.size w1.heap.size web.heap.size 3 [w_encounter, Lib.itoa x.cy, Lib.itoa x.gr] [] _ (Lweb.out.below hal) (by simp; omega) (by simp) (fun j y hj => words_at (ws := [w_encounter, Lib.itoa x.cy, Lib.itoa x.gr]) (T := 9) (heap_alloc_new _ _) hj) (by simp) (by have := bndE; omega) (by simp)).mono ?_
    rintro e we ⟨rfl, hl, hw⟩
    have Lwe := Lib.hid hl
    have Rwe := Lib.hid (Rweb.out.trans ((Wr.of_below (B := w1.heap.size) (b := w1.heap.size) hal (by omega)).trans hw))
    have Ewe := Lib.hid ((Eweb.out.below (hal.mono (by omega))).below (hw.below.mono (by omega)))
    have zwe : wb.heap.size ≤ we.heap.size := by have h1 := hal.size; have h2 := hw.below.size; omega
    have hS3 : we.heap[w.heap.size]? = some (.cells #[.int .i64 x.cy, .int .i64 x.gr, .slice A x.cs.length cap] 24 (0, 0)) := hw.keep hS (by omega) (by decide)
    clear hl hw hal
    refine hK'.out _ _ hS3 (fun hSf => ?_)
    have KBwe := Lib.hid hSf
    clear hK' K' hS3 hSf hS Eweb Lweb Rweb zweb
    refine wpAnyH_done (by kernel_rfl) ?_ _
    clear bndE
    have x2 : we.cell? ⟨w.heap.size, 2, none⟩ = some (.slice A x.cs.length cap) := by simp [World.cell?, KBwe.out]
    have T0 := Lib.hid (show Bld w1.heap.size w1.heap.size (txU x 0) we by have := Lwe.out; rw [List.nil_append] at this; rw [txU_zero]; exact this)
    clear Lwe Lwb KBwe KBwb
    have hle : (x.cs.length : Int) ≤ 6 := by omega
    go_wp2_with fail
    go_loopw [29] (fun v wr => ∃ i : Nat, v = .int .i64 i ∧ i ≤ x.cs.length ∧ Bld w1.heap.size w1.heap.size (txU x i) wr ∧ Wr w1.heap.size w1.heap.size wb wr) (fun v _ => x.cs.length - (intOf v).toNat)
    case atStart => exact ⟨0, rfl, Nat.zero_le _, T0.out, Rwe.out⟩
    case round =>
      obtain ⟨i, rfl, hi, hL, hW⟩ := hrel
      have HL := Lib.hid hL
      have HW := Lib.hid hW
      have hsz : wb.heap.size ≤ wr.heap.size := hW.below.size
      clear hL hW x2 T0
      by_cases hlt : i < x.cs.length
      · obtain ⟨c, hci⟩ : ∃ c, x.cs[i]? = some c := ⟨_, List.getElem?_eq_getElem hlt⟩
        obtain ⟨b0, off, rfl, hb0, hcr⟩ := HC.out (by omega)
        obtain ⟨LA, lcap, hat, hlg⟩ := hcr i c hci
        have hWb : Below w.heap.size w wr := hBwb.out.trans (HW.out.below.mono (by omega))
        have hat' := hat.below hWb hb0
        obtain ⟨c0, c1, c2, c3, c4, c5, c6, c7, c8, c9, c10, c11, c12⟩ := hat'
        have hcm : c ∈ x.cs := List.mem_of_getElem? hci
        have hck := HA.out c hcm
        have hns := nums_small hck.1 hck.2
        have hm0 := HMO.out c hcm
        have hm2 := (crE_ok hck.2).2.2.2.2.1
        have hleg := (crE_ok hck.2).2.2.2.2.2.2
        have hll : c.lg.length ≤ 16 := hleg.1
        have HLS := Lib.hid (small_legs g1.1 g1.2 c.lg 0 (by omega) hleg.2)
        have HLG := Lib.hid (fun W' (h : Wr w1.heap.size w1.heap.size wb W') => hlg.below (hBwb.out.trans (h.below.mono (by omega))))
        have hTX := txU_succ hci
        have hT1 := txU_le (x := x) hch (i + 1)
        rw [hTX] at hT1
        have HTX := Lib.hid hTX
        have hTl : ∀ k, (txU x i).length + (crU c k).length ≤ 4096 := fun k => by have := crU_le c k; simp at hT1; omega
        have hT0 := hTl 0
        have HTL := Lib.hid hTl
        clear hck hleg hlg hcr hat hWb hTX hT1 hTl hcm hci
        have hltI : (i : Int) < (x.cs.length : Int) := by omega
        go_wp2_with fail
        obtain ⟨X, hX⟩ : ∃ X, X = wr.alloc (.cells #[.int .i64 c.ad, .int .i64 c.p.x, .int .i64 c.p.y, .int .i64 c.p.z, .int .i64 c.v.x, .int .i64 c.v.y, .int .i64 c.v.z, .int .i64 c.pu, .slice LA c.lg.length lcap, .int .u8 c.mo, .int .i64 c.de, .int .i64 c.pp, .int .i64 c.mi] 63) := ⟨_, rfl⟩
        have HXc : Hid (X.heap[wr.heap.size]? = some (.cells #[.int .i64 c.ad, .int .i64 c.p.x, .int .i64 c.p.y, .int .i64 c.p.z, .int .i64 c.v.x, .int .i64 c.v.y, .int .i64 c.v.z, .int .i64 c.pu, .slice LA c.lg.length lcap, .int .u8 c.mo, .int .i64 c.de, .int .i64 c.pp, .int .i64 c.mi] 63 (0, 0))) := Lib.hid (by rw [hX]; exact heap_alloc_new _ _)
        have hXb : Below wr.heap.size wr X := by rw [hX]; exact (Below.refl _ _).alloc (Nat.le_refl _) _
        have hXs : X.heap.size = wr.heap.size + 1 := by rw [hX]; simp
        have HXL := Lib.hid (HL.out.below hXb)
        have HXW := Lib.hid (HW.out.trans (Wr.of_below (B := w1.heap.size) (b := w1.heap.size) hXb (by omega)))
        have HXE := Lib.hid (Ewb.out.below (HXW.out.below.mono (by omega)))
        rw [← hX]
        clear hX hXb c0 c1 c2 c3 c4 c5 c6 c7 c8 c9 c10 c11 c12
        refine (words61 K c LA lcap X HXE.out (by omega) hm0 hm2 (hns _ (by simp [Cr.nums])) (hns _ (by simp [Cr.nums])) (hns _ (by simp [Cr.nums])) (hns _ (by simp [Cr.nums])) (hns _ (by simp [Cr.nums])) (hns _ (by simp [Cr.nums])) (hns _ (by simp [Cr.nums])) (hns _ (by simp [Cr.nums])) (hns _ (by simp [Cr.nums])) (hns _ (by simp [Cr.nums])) (hns _ (by simp [Cr.nums]))).mono ?_
        rintro e w3 ⟨⟨gq, cq, rfl, q1, q2, q3⟩, hb3⟩
        have H3L := Lib.hid (HXL.out.below hb3)
        have H3W := Lib.hid (HXW.out.trans (Wr.of_below (B := w1.heap.size) (b := w1.heap.size) hb3 (by omega)))
        have H3c := Lib.hid ((hb3.block _ (by omega)).trans HXc.out)
        have hs3 := hb3.size
        have Q3 := Lib.hid q3
        clear hb3 q3 hns HXL HXW HXE HXc
        go_wp2_with fail
        refine (write57 w1.heap.size w1.heap.size gq cq (crL c) (txU x i) w3 H3L.out (by omega) q2 Q3.out q1 (by rw [crU_zero] at hT0; omega) (by simp [crL, crP, writeP])).mono ?_
        rintro e w4 ⟨rfl, hl4, hw4⟩
        have H4c := hw4.keep H3c.out (by omega) (by decide)
        have c8 : w4.cell? ⟨wr.heap.size, 8, none⟩ = some (.slice LA c.lg.length lcap) := by simp [World.cell?, H4c]
        have H4L : Hid (Bld w1.heap.size w1.heap.size (txU x i ++ crU c 0) w4) := Lib.hid (by rw [crU_zero]; exact hl4)
        have H4W := Lib.hid (H3W.out.trans hw4)
        have hs4 := hw4.below.size
        clear hl4 hw4 H4c H3L H3W H3c Q3 q1 q2 hT0
        go_wp2_with fail
        go_loopw [40] (fun v wq => ∃ k : Nat, v = .int .i64 k ∧ k ≤ c.lg.length ∧ Bld w1.heap.size w1.heap.size (txU x i ++ crU c k) wq ∧ Wr w1.heap.size w1.heap.size wb wq) (fun v _ => c.lg.length - (intOf v).toNat)
        case atStart => exact ⟨0, rfl, Nat.zero_le _, H4L.out, H4W.out⟩
        case round =>
          obtain ⟨k, rfl, hk, hL2, hW2⟩ := hrel
          have HL2 := Lib.hid hL2
          have HW2 := Lib.hid hW2
          have hsz2 : wb.heap.size ≤ wr.heap.size := hW2.below.size
          clear hL2 hW2 c8 H4L H4W
          by_cases hlk : k < c.lg.length
          · obtain ⟨l, hl'⟩ : ∃ l, c.lg[k]? = some l := ⟨_, List.getElem?_eq_getElem hlk⟩
            have hls := HLS.out l (List.mem_of_getElem? hl')
            obtain ⟨ls1, ls2⟩ := hls
            obtain ⟨lb, loff, rfl, hlb, hlc⟩ := HLG.out _ HW2.out (by rw [flat2_len]; omega)
            have y0 := leg_cell0 hlc hl'
            have y1 := leg_cell1 hlc hl'
            have HCU := Lib.hid (crU_succ hl')
            have hlkI : (k : Int) < (c.lg.length : Int) := by omega
            have bndL : (txU x i ++ crU c k).length + (lineT [w_leg, Lib.itoa l.1, Lib.itoa l.2]).length ≤ 100000 := by have h1 := line2_len w_leg ls1 ls2 (by decide); have h2 := HTL.out k; simp only [List.length_append]; omega
            clear hlc hl'
            go_wp2_with fail
            obtain ⟨wl, hwl⟩ : ∃ wl, wl = wr.alloc (.cells #[.int .i64 l.1, .int .i64 l.2] 54) := ⟨_, rfl⟩
            have KBwl : Hid (wl.heap[wr.heap.size]? = some (.cells #[.int .i64 l.1, .int .i64 l.2] 54 (0, 0))) := Lib.hid (by rw [hwl]; exact heap_alloc_new _ _)
            have hlb' : Below wr.heap.size wr wl := by rw [hwl]; exact (Below.refl _ _).alloc (Nat.le_refl _) _
            have hls' : wl.heap.size = wr.heap.size + 1 := by rw [hwl]; simp
            have Lwl := Lib.hid (HL2.out.below hlb')
            have Wwl := Lib.hid (HW2.out.trans (Wr.of_below (B := w1.heap.size) (b := w1.heap.size) hlb' (by omega)))
            have Ewl := Lib.hid (Ewb.out.below (Wwl.out.below.mono (by omega)))
            rw [← hwl]
            clear hwl hlb' y0 y1
            refine wp_region_held_drew (S := fun w' => w'.heap[wr.heap.size]? = some (.cells #[.int .i64 l.1, .int .i64 l.2] 54 (0, 0))) (by kernel_rfl) (show wl.drew.heap[wr.heap.size]? = _ from KBwl.out) (fun hS => ?_)
            refine wpAnyH_take (i := 0) (v := ?vL0) rfl (by kernel_rfl) (by kernel_rfl) (by kernel_rfl) (fun _ _ _ h => h) (Or.inl ⟨by rfl, ?hL0⟩) hS ?rL0
            case hL0 =>
              intro w1 hSw
              have z0 : w1.cell? ⟨wr.heap.size, 0, none⟩ = some (.int .i64 l.1) := by simp [World.cell?, hSw]
              have z1 : w1.cell? ⟨wr.heap.size, 1, none⟩ = some (.int .i64 l.2) := by simp [World.cell?, hSw]
              clear hSw
              go_simp
              try with_reducible rfl
            (try simp only [Act.put])
            refine wpAnyH_take (i := 1) (v := ?vL1) rfl (by kernel_rfl) (by kernel_rfl) (by kernel_rfl) (fun _ _ _ h => h) (Or.inl ⟨by rfl, ?hL1⟩) hS ?rL1
            case hL1 =>
              intro w1 hSw
              have z0 : w1.cell? ⟨wr.heap.size, 0, none⟩ = some (.int .i64 l.1) := by simp [World.cell?, hSw]
              have z1 : w1.cell? ⟨wr.heap.size, 1, none⟩ = some (.int .i64 l.2) := by simp [World.cell?, hSw]
              clear hSw
              go_simp
              try with_reducible rfl
            (try simp only [Act.put])
            refine wpAnyH_take (i := 2) (v := ?vL2) rfl (by kernel_rfl) (by kernel_rfl) (by kernel_rfl) (fun _ _ _ h => h) (Or.inl ⟨by rfl, ?hL2⟩) hS ?rL2
            case hL2 =>
              intro w1 hSw
              have z0 : w1.cell? ⟨wr.heap.size, 0, none⟩ = some (.int .i64 l.1) := by simp [World.cell?, hSw]
              have z1 : w1.cell? ⟨wr.heap.size, 1, none⟩ = some (.int .i64 l.2) := by simp [World.cell?, hSw]
              clear hSw
              go_simp
              try with_reducible rfl
            (try simp only [Act.put])
            refine wpAnyH_take (i := 4) (v := ?vL4) rfl (by kernel_rfl) (by kernel_rfl) (by kernel_rfl) (fun _ _ _ h => h) (Or.inl ⟨by rfl, ?hL4⟩) hS ?rL4
            case hL4 =>
              intro w1 hSw
              have z0 : w1.cell? ⟨wr.heap.size, 0, none⟩ = some (.int .i64 l.1) := by simp [World.cell?, hSw]
              have z1 : w1.cell? ⟨wr.heap.size, 1, none⟩ = some (.int .i64 l.2) := by simp [World.cell?, hSw]
              clear hSw
              go_simp
              try with_reducible rfl
            (try simp only [Act.put])
            refine wpAnyH_take (i := 5) (v := ?vL5) rfl (by kernel_rfl) (by kernel_rfl) (by kernel_rfl) (fun _ _ _ h => h) (Or.inl ⟨by rfl, ?hL5⟩) hS ?rL5
            case hL5 =>
              intro w1 hSw
              have z0 : w1.cell? ⟨wr.heap.size, 0, none⟩ = some (.int .i64 l.1) := by simp [World.cell?, hSw]
              have z1 : w1.cell? ⟨wr.heap.size, 1, none⟩ = some (.int .i64 l.2) := by simp [World.cell?, hSw]
              clear hSw
              go_simp
              try with_reducible rfl
            (try simp only [Act.put])
            refine wpAnyH_ready (rs := [3]) (by kernel_rfl) (by simp) (AllReadyH.cons rfl (fun K' hK' => ?_) AllReadyH.nil)
            go_simp
            refine (itoa60 l.1 ls1 K wl.drew (Ewl.out.below (Below.refl _ _).drew)).mono ?_
            rintro e wza ⟨rfl, hb⟩
            have hS3 : wza.heap[wr.heap.size]? = some (.cells #[.int .i64 l.1, .int .i64 l.2] 54 (0, 0)) := (hb.block _ (heap_lt hS)).trans hS
            have Ewza := Lib.hid ((Ewl.out.below (Below.refl _ _).drew).below (hb.mono (by show K ≤ wl.heap.size; omega)))
            have Lwza := Lib.hid (Bld.below (w := wl) Lwl.out (show Below wl.heap.size wl wza from (Below.refl _ _).drew.trans hb))
            have Rwza := Lib.hid (Wr.of_below (B := w1.heap.size) (b := w1.heap.size) (show Below wl.heap.size wl wza from (Below.refl _ _).drew.trans hb) (by omega))
            have zwza : wl.heap.size ≤ wza.heap.size := hb.size
            clear hb
            refine hK'.out _ _ hS3 (fun hS => ?_)
            clear hK' K' hS3
            refine wpAnyH_ready (rs := [6]) (by kernel_rfl) (by simp) (AllReadyH.cons rfl (fun K' hK' => ?_) AllReadyH.nil)
            go_simp
            refine (itoa60 l.2 ls2 K wza Ewza.out).mono ?_
            rintro e wzb ⟨rfl, hb⟩
            have hS3 : wzb.heap[wr.heap.size]? = some (.cells #[.int .i64 l.1, .int .i64 l.2] 54 (0, 0)) := (hb.block _ (heap_lt hS)).trans hS
            have Ewzb := Lib.hid (Ewza.out.below (hb.mono (by omega)))
            have Lwzb := Lib.hid (Lwza.out.below hb)
            have Rwzb := Lib.hid (Rwza.out.trans (Wr.of_below (B := w1.heap.size) (b := w1.heap.size) hb (by omega)))
            have zwzb : wl.heap.size ≤ wzb.heap.size := Nat.le_trans zwza hb.size
            clear hb
            refine hK'.out _ _ hS3 (fun hS => ?_)
            clear hK' K' hS3 Ewza Lwza Rwza zwza
            refine wpAnyH_ready (rs := [7]) (by kernel_rfl) (by simp) (AllReadyH.cons rfl (fun K' hK' => ?_) AllReadyH.nil)
            go_simp
            refine hK'.out _ _ ((Below.heap_alloc _ _ _ (heap_lt hS)).trans hS) (fun hS => ?_)
            clear hK' K'
            refine wpAnyH_ready (rs := [8]) (by kernel_rfl) (by simp) (AllReadyH.cons rfl (fun K' hK' => ?_) AllReadyH.nil)
            go_simp
            have hal : Below wzb.heap.size wzb (wzb.alloc (.cells #[.string ⟨#[108, 101, 103]⟩, .string (S (Lib.itoa l.1)), .string (S (Lib.itoa l.2))] 9)) := (Below.refl _ _).alloc (Nat.le_refl _) _
            refine (write57 w1.heap.size w1.heap.size wzb.heap.size 3 [w_leg, Lib.itoa l.1, Lib.itoa l.2] (txU x i ++ crU c k) _ (Lwzb.out.below hal) (by simp; omega) (by simp) (fun j y hj => words_at (ws := [w_leg, Lib.itoa l.1, Lib.itoa l.2]) (T := 9) (heap_alloc_new _ _) hj) (by simp) (by have := bndL; omega) (by simp)).mono ?_
            rintro e wz ⟨rfl, hl, hw⟩
            have Lwz := Lib.hid hl
            have Rwz := Lib.hid (Rwzb.out.trans ((Wr.of_below (B := w1.heap.size) (b := w1.heap.size) hal (by omega)).trans hw))
            have Ewz := Lib.hid ((Ewzb.out.below (hal.mono (by omega))).below (hw.below.mono (by omega)))
            have zwz : wl.heap.size ≤ wz.heap.size := by have h1 := hal.size; have h2 := hw.below.size; omega
            have hS3 : wz.heap[wr.heap.size]? = some (.cells #[.int .i64 l.1, .int .i64 l.2] 54 (0, 0)) := hw.keep hS (by omega) (by decide)
            clear hl hw hal
            refine hK'.out _ _ hS3 (fun hSf => ?_)
            have KBwz := Lib.hid hSf
            clear hK' K' hS3 hSf hS Ewzb Lwzb Rwzb zwzb
            refine wpAnyH_done (by kernel_rfl) ?_ _
            go_wp2_with fail
            go_roundw
            case rel => exact ⟨k + 1, by go_num, by omega, by rw [HCU.out, ← List.append_assoc]; exact Lwz.out, Wwl.out.trans Rwz.out⟩
            case measure => simp [intOf]; omega
          · have hlkI : ¬ (k : Int) < (c.lg.length : Int) := by omega
            have HCA := Lib.hid (crU_all c (Nat.le_of_not_lt hlk))
            go_wp2_with fail
            go_roundw
            case rel => exact ⟨i + 1, by go_num, by omega, by rw [HTX.out, ← HCA.out]; exact HL2.out, HW2.out⟩
            case measure => simp [intOf]; omega
      · have hltI : ¬ (i : Int) < (x.cs.length : Int) := by omega
        have HTA := Lib.hid (txU_all x (Nat.le_of_not_lt hlt))
        go_wp2_with fail
        refine (Go.Proofs.Any.Builder_String_any_k Tryz.lays169 Tryz.Builder_Extra_169 w1.heap.size w1.heap.size (txU x i) _ HL.out (by omega)).mono ?_
        rintro e w9 ⟨rfl, -, hb9, -⟩
        have HB9 := Lib.hid (hBwb.out.trans ((HW.out.below.trans hb9).mono (by omega)))
        clear hb9
        go_wp2_with fail
        go_ret2
        rw [hFO.out, ← HTA.out]
        exact ⟨rfl, HB9.out⟩
  · have hFO : Hid (foE x = ([], chE x)) := Lib.hid (by unfold foE; rw [if_pos hch])
    have HB := Lib.hid (((Below.refl w.heap.size w).alloc (Nat.le_refl _) _).trans (hb1.mono (by simp)))
    clear hb1 CH
    go_wp2_with fail
    go_ret2
    rw [hFO.out]
    exact ⟨rfl, HB.out⟩
end Go.Proofs.YtnnnpliigdfipaaGreatDoor
