/- encounter: Nearest. -/
import Derived.Test.YtnnnpliigdfipaaGreatDoorRows
import Derived.WalkKit
import Derived.WalkLawsBesides
import Derived.WalkSpells
import Derived.ProofKit
import Derived.Below
import Derived.Outline
import Derived.Lib.Hide
import Derived.Deep.RegionWith
import Derived.Deep.RegionHeld3
import Derived.Deep.DrawnRows
import Derived.StillTailTactics
import Derived.BigQuiet
import Derived.Deep.QuietTactic
import Derived.Deep.LoopGhost
import Derived.IntWalk
import Derived.Lib.MinMax
import Derived.Deep.DeepCutAuto
import Derived.Deep.CutBlock
import Derived.Test.YtnnnpliigdfipaaGreatDoorEnN
import Derived.Test.YtnnnpliigdfipaaGreatDoorEnS
namespace Go.Proofs.YtnnnpliigdfipaaGreatDoor
open Go.RowKit
attribute [local go_sem ↓] Go.wp_at_zero Go.wp_at_succ
attribute [local go_sem] wrap_lit
/-- a flight's altitudes in memory -/
def PathAt (w : World) (g : Nat) (c : Cr) (N : Nat) : Prop := ∀ j, j ≤ N → w.cell? ⟨g, j * 2, none⟩ = some (.int .i64 (flyN c j).1)
theorem PathAt.below {w w1 : World} {B g : Nat} {c : Cr} {N : Nat} (h : PathAt w g c N) (hb : Below B w w1) (hg : g < B) : PathAt w1 g c N := fun j hj => (hb.cell (p := ⟨g, j * 2, none⟩) hg).trans (h j hj)
/-- what the loop over the cycles holds: the least square, its cycle, its slant range -/
def stN (a b : Cr) : Nat → Int × Int × Int
  | 0 => (-1, 0, 0)
  | n + 1 => if (stN a b n).1 < 0 ∨ s2G (posAt a n) (posAt b n) < (stN a b n).1 then (s2G (posAt a n) (posAt b n), n, slG (posAt a n) (posAt b n)) else stN a b n
def nearR (x : En) (i k : Int) : (Int × Int) × Int := if numE x [i, k] ≠ 0 then ((0, 0), numE x [i, k]) else if i = k then ((0, 0), 1) else (((stN (crAt x i) (crAt x k) (x.cy.toNat + 1)).2.1, (stN (crAt x i) (crAt x k) (x.cy.toNat + 1)).2.2), 0)
theorem lin_bd {p v k N : Int} (h0 : 0 ≤ k) (h1 : k ≤ N) (a0 : -8192 ≤ p) (a1 : p ≤ 8192) (b0 : -8192 ≤ p + N * v) (b1 : p + N * v ≤ 8192) : -8192 ≤ p + k * v ∧ p + k * v ≤ 8192 := by
  rcases Int.le_total 0 v with h | h
  · have e1 : 0 ≤ k * v := Int.mul_nonneg h0 h
    have e2 : k * v ≤ N * v := Int.mul_le_mul_of_nonneg_right h1 h
    omega
  · have e1 : 0 ≤ k * (-v) := Int.mul_nonneg h0 (by omega)
    have e2 : k * (-v) ≤ N * (-v) := Int.mul_le_mul_of_nonneg_right h1 (by omega)
    rw [Int.mul_neg] at e1 e2
    rw [Int.mul_neg] at e2
    omega
theorem posAt_ok {c : Cr} {cy : Int} (h : crE c cy = 0) (h1 : 1 ≤ cy) (h2 : cy ≤ 120) (k : Nat) (hk : (k : Int) ≤ cy) : okP (posAt c k) := by
  obtain ⟨hp, -, he, -⟩ := crE_ok h
  have g := flyN_bd (good_of h1 h2 h) k
  unfold okP at hp he ⊢
  unfold posAt
  unfold Cr.at at he ⊢
  obtain ⟨x1, x2⟩ := lin_bd (p := c.p.x) (v := c.v.x) (k := k) (N := cy) (by omega) hk hp.1 hp.2.1 he.1 he.2.1
  obtain ⟨y1, y2⟩ := lin_bd (p := c.p.y) (v := c.v.y) (k := k) (N := cy) (by omega) hk hp.2.2.1 hp.2.2.2.1 he.2.2.1 he.2.2.2.1
  exact ⟨x1, x2, y1, y2, g.1.1, g.1.2⟩
theorem stN_bd (a b : Cr) : ∀ n, -1 ≤ (stN a b n).1 ∧ (stN a b n).1 ≤ 10000000000000
  | 0 => by simp [stN]
  | n + 1 => by
    have h : ∀ p q, 0 ≤ s2G p q ∧ s2G p q ≤ 10000000000000 := by
      intro p q
      unfold s2G
      split
      · rename_i g
        have := bdG p q ⟨0, 0, 0⟩ ⟨0, 0, 0⟩ (okG0.2 g)
        exact ⟨this.1, this.2.1⟩
      · omega
    unfold stN
    split
    · have := h (posAt a n) (posAt b n)
      exact ⟨by show -1 ≤ s2G _ _; omega, this.2⟩
    · exact stN_bd a b n
theorem numE_2 {x : En} {i k : Int} (h : numE x [i, k] = 0) : chE x = 0 ∧ (0 ≤ i ∧ i < x.cs.length) ∧ (0 ≤ k ∧ k < x.cs.length) := by
  obtain ⟨h0, hi⟩ := numE_0 h
  have h1 := hi 0 (by simp)
  have h2 := hi 1 (by simp)
  exact ⟨h0, by simpa [nth] using h1, by simpa [nth] using h2⟩
theorem path_of {x : En} {n : Nat} {c : Cr} (h0 : chE x = 0) (hn : x.cs[n]? = some c) : pathR x n = (pathL c x.cy.toNat, 0) := by
  have hl : n < x.cs.length := (List.getElem?_eq_some_iff.1 hn).1
  unfold pathR
  have e : numE x [(n : Int)] = 0 := numE_ok x [(n : Int)] h0 (fun j hj => by
    obtain rfl : j = 0 := by simpa using hj
    simp [nth]
    omega)
  rw [if_neg (by rw [e]; decide), crAt_n hn]
theorem Own.path {w : World} {B : Nat} {A : Option Addr} {T : TypeId} {c : Cr} {N : Nat} (h : Own .i64 w B A T (flat (pathL c N))) : ∃ g, A = some ⟨g, 0, none⟩ ∧ B ≤ g ∧ g < w.heap.size ∧ PathAt w g c N := by
  obtain ⟨g, cs, e, hB, hh, hc⟩ := h (by simp [flat2_len, pathL_len])
  refine ⟨g, e, hB, heap_lt hh, fun j hj => ?_⟩
  have ep := hc (j * 2) (by rw [flat2_len, pathL_len]; omega)
  rw [(nth_path hj).1] at ep
  simp [World.cell?, hh, ep]
/-- a position in memory -/
def At3 (w : World) (g : Nat) (p : V3) : Prop := g < w.heap.size ∧ w.cell? ⟨g, 0, none⟩ = some (.int .i64 p.x) ∧ w.cell? ⟨g, 1, none⟩ = some (.int .i64 p.y) ∧ w.cell? ⟨g, 2, none⟩ = some (.int .i64 p.z)
theorem InCr.out_ {w : World} {B : Nat} {A : Option Addr} {cs : List Cr} (h : InCr w B A cs) (hn : 0 < cs.length) : ∃ b off, A = some ⟨b, off, none⟩ ∧ b < B ∧ ∀ (j : Nat) (c : Cr), cs[j]? = some c → ∃ LA cap, CrAt w b (off + j * 13) c LA cap ∧ Is .i64 w B LA (flat c.lg) := h hn
theorem sk_refl (wr : World) : (∀ b o, b < wr.heap.size → wr.cell? ⟨b, o, none⟩ = wr.cell? ⟨b, o, none⟩) ∧ wr.heap.size ≤ wr.heap.size ∧ Below wr.heap.size wr wr := ⟨fun _ _ _ => rfl, Nat.le_refl _, Below.refl _ _⟩
theorem sk_drew {wr W : World} (h : (∀ b o, b < wr.heap.size → W.cell? ⟨b, o, none⟩ = wr.cell? ⟨b, o, none⟩) ∧ wr.heap.size ≤ W.heap.size ∧ Below wr.heap.size wr W) : (∀ b o, b < wr.heap.size → W.drew.cell? ⟨b, o, none⟩ = wr.cell? ⟨b, o, none⟩) ∧ wr.heap.size ≤ W.drew.heap.size ∧ Below wr.heap.size wr W.drew := ⟨h.1, h.2.1, h.2.2.drew⟩
theorem sk_alloc {wr W : World} {ob : Obj} (h : (∀ b o, b < wr.heap.size → W.cell? ⟨b, o, none⟩ = wr.cell? ⟨b, o, none⟩) ∧ wr.heap.size ≤ W.heap.size ∧ Below wr.heap.size wr W) : (∀ b o, b < wr.heap.size → (W.alloc ob).cell? ⟨b, o, none⟩ = wr.cell? ⟨b, o, none⟩) ∧ wr.heap.size ≤ (W.alloc ob).heap.size ∧ Below wr.heap.size wr (W.alloc ob) := ⟨fun b o hb => (World.cell?_alloc_lt _ _ _ (by show b < _; omega)).trans (h.1 b o hb), by simp; omega, h.2.2.alloc h.2.1 _⟩
theorem sk_set {wr W : World} {p : Addr} {v : Value} (hp : wr.heap.size ≤ p.block) (h : (∀ b o, b < wr.heap.size → W.cell? ⟨b, o, none⟩ = wr.cell? ⟨b, o, none⟩) ∧ wr.heap.size ≤ W.heap.size ∧ Below wr.heap.size wr W) : (∀ b o, b < wr.heap.size → (W.setCell p v).cell? ⟨b, o, none⟩ = wr.cell? ⟨b, o, none⟩) ∧ wr.heap.size ≤ (W.setCell p v).heap.size ∧ Below wr.heap.size wr (W.setCell p v) := ⟨fun b o hb => (World.cell?_setCell_other _ _ _ _ (fun e => by rw [e] at hp; simp at hp; omega)).trans (h.1 b o hb), by simp [World.setCell]; exact h.2.1, h.2.2.setCell hp _⟩
theorem sk_call {wr W W' : World} (hb : Below W.heap.size W W') (h : (∀ b o, b < wr.heap.size → W.cell? ⟨b, o, none⟩ = wr.cell? ⟨b, o, none⟩) ∧ wr.heap.size ≤ W.heap.size ∧ Below wr.heap.size wr W) : (∀ b o, b < wr.heap.size → W'.cell? ⟨b, o, none⟩ = wr.cell? ⟨b, o, none⟩) ∧ wr.heap.size ≤ W'.heap.size ∧ Below wr.heap.size wr W' := ⟨fun b o hl => (hb.cell (p := ⟨b, o, none⟩) (by show b < _; omega)).trans (h.1 b o hl), Nat.le_trans h.2.1 hb.size, h.2.2.trans (hb.mono h.2.1)⟩
theorem sk_b {wr W : World} (h : (∀ b o, b < wr.heap.size → W.cell? ⟨b, o, none⟩ = wr.cell? ⟨b, o, none⟩) ∧ wr.heap.size ≤ W.heap.size ∧ Below wr.heap.size wr W) : Below wr.heap.size wr W := h.2.2
theorem f2_old (w : World) (a b : Array Value) (t t' : TypeId) (i : Nat) : ((w.alloc (.cells a t)).alloc (.cells b t')).frozen? ⟨w.heap.size, i, none⟩ = false := by
  rw [World.frozen?_alloc_past _ _ _ (by simp), World.frozen?_alloc_new]
theorem lt_s0 (a : Nat) : (a < a + 1) = True := by simp
theorem lt_s1 {a b : Nat} (h : a < b) : (a < b + 1) = True := by simp; omega
theorem ne_s0 (a : Nat) : (a = a + 1) = False := by simp
theorem ne_s1 (a : Nat) : (a + 1 = a) = False := by simp
attribute [local go_sem] c2_old f2_old lt_s0 lt_s1 ne_s0 ne_s1
theorem set3_0 (w : World) (r : Nat) (X Y Z : Value) (h : (w.cell? ⟨r, 0, none⟩).isSome = true) : (((w.setCell ⟨r, 0, none⟩ X).setCell ⟨r, 1, none⟩ Y).setCell ⟨r, 2, none⟩ Z).cell? ⟨r, 0, none⟩ = some X := by
  rw [World.cell?_setCell_other _ _ _ _ (by intro e; simp at e), World.cell?_setCell_other _ _ _ _ (by intro e; simp at e), World.cell?_setCell_same' _ _ _ h]
theorem set3_1 (w : World) (r : Nat) (X Y Z : Value) (h : (w.cell? ⟨r, 1, none⟩).isSome = true) : (((w.setCell ⟨r, 0, none⟩ X).setCell ⟨r, 1, none⟩ Y).setCell ⟨r, 2, none⟩ Z).cell? ⟨r, 1, none⟩ = some Y := by
  rw [World.cell?_setCell_other _ _ _ _ (by intro e; simp at e), World.cell?_setCell_same' _ _ _ (by rw [World.cell?_setCell_other _ _ _ _ (by intro e; simp at e)]; exact h)]
theorem set3_2 (w : World) (r : Nat) (X Y Z : Value) (h : (w.cell? ⟨r, 2, none⟩).isSome = true) : (((w.setCell ⟨r, 0, none⟩ X).setCell ⟨r, 1, none⟩ Y).setCell ⟨r, 2, none⟩ Z).cell? ⟨r, 2, none⟩ = some Z := by
  rw [World.cell?_setCell_same' _ _ _ (by rw [World.cell?_setCell_other _ _ _ _ (by intro e; simp at e), World.cell?_setCell_other _ _ _ _ (by intro e; simp at e)]; exact h)]
theorem is2 {w : World} {b B : Nat} {i k : Int} (h : w.cell? ⟨b, 0, none⟩ = some (.int .i64 i)) (h' : w.cell? ⟨b, 1, none⟩ = some (.int .i64 k)) (hb : b < B) : Is .i64 w B (some ⟨b, 0, none⟩) [i, k] := fun _ =>
  ⟨b, 0, rfl, hb, fun j hj => by
    rcases (by simp at hj; omega : j = 0 ∨ j = 1) with rfl | rfl
    · exact h
    · exact h'⟩
theorem ret_t3 {R : (Int × Int) × Int} {a b c : Int} (h : R = ((a, b), c)) : Ending.returned (.tuple #[.int .i64 a, .int .i64 b, .int .i64 c]) = .returned (.tuple #[.int .i64 R.1.1, .int .i64 R.1.2, .int .i64 R.2]) := by rw [h]
set_option maxRecDepth 100000 in
set_option maxHeartbeats 4000000 in
theorem near28 (x : En) (A : Option Addr) (cap : Nat) (i k : Int) (w : World) (hc : InCr w w.heap.size A x.cs) (hcap : x.cs.length ≤ cap) : Calls Tryz.prog 28 #[.agg #[.int .i64 x.cy, .int .i64 x.gr, .slice A x.cs.length cap], .int .i64 i, .int .i64 k] w fun e w' => e = .returned (.tuple #[.int .i64 (nearR x i k).1.1, .int .i64 (nearR x i k).1.2, .int .i64 (nearR x i k).2]) ∧ Below w.heap.size w w' := by
  by_cases hx : numE x [i, k] = 0
  · obtain ⟨h0, hi, hk⟩ := numE_2 hx
    have HX := Lib.hid hx
    have hq : (numE x [i, k] != 0) = false := by simp [hx]
    clear hx
    have OK := Lib.hid (chE_ok h0)
    have H0 := Lib.hid h0
    clear h0
    by_cases he : i = k
    · subst he
      have HZ : Hid (nearR x i i = ((0, 0), 1)) := Lib.hid (by unfold nearR; rw [if_neg (by rw [HX.out]; decide), if_pos rfl])
      clear hi hk
      go_enter Tryz.func28, Tryz.ntmps28
      go_wp2_with fail
      obtain ⟨X1, hX1⟩ : ∃ X1, X1 = (w.alloc (.cells #[.int .i64 x.cy, .int .i64 x.gr, .slice A x.cs.length cap] 24)).alloc (.cells #[.int .i64 i, .int .i64 i] 3) := ⟨_, rfl⟩
      have BX1 : Hid (Below w.heap.size w X1) := Lib.hid (by rw [hX1]; exact ((Below.refl _ _).alloc (Nat.le_refl _) _).alloc (by simp) _)
      have zxX1 : w.heap.size < X1.heap.size := by rw [hX1]; simp <;> omega
      have xX1_0 : X1.cell? ⟨w.heap.size, 0, none⟩ = some (.int .i64 x.cy) := by rw [hX1]; go_simp
      have xX1_1 : X1.cell? ⟨w.heap.size, 1, none⟩ = some (.int .i64 x.gr) := by rw [hX1]; go_simp
      have xX1_2 : X1.cell? ⟨w.heap.size, 2, none⟩ = some (.slice A x.cs.length cap) := by rw [hX1]; go_simp
      have znX1 : w.heap.size + 1 < X1.heap.size := by rw [hX1]; simp <;> omega
      have nX1_0 : X1.cell? ⟨w.heap.size + 1, 0, none⟩ = some (.int .i64 i) := by rw [hX1]; go_simp
      have nX1_1 : X1.cell? ⟨w.heap.size + 1, 1, none⟩ = some (.int .i64 i) := by rw [hX1]; go_simp
      have mX1 : w.heap.size ≤ X1.heap.size := by rw [hX1]; simp <;> omega
      rw [← hX1]
      clear hX1
      have IX1 := Lib.hid (hc.below BX1.out)
      clear hc
      have N1 := is2 nX1_0 nX1_1 znX1
      refine (num2 x A cap _ 2 i i X1 (IX1.out.mono mX1) hcap N1).mono ?_
      rintro e w1 ⟨rfl, hw1⟩
      have Bw1 : Hid (Below w.heap.size w w1) := Lib.hid (BX1.out.trans ((hw1).mono mX1))
      have mw1 : w.heap.size ≤ w1.heap.size := Nat.le_trans mX1 (hw1).size
      have zxw1 : w.heap.size < w1.heap.size := Nat.lt_of_lt_of_le zxX1 (hw1).size
      have xw1_0 := ((hw1).cell (p := ⟨w.heap.size, 0, none⟩) zxX1).trans xX1_0
      have xw1_1 := ((hw1).cell (p := ⟨w.heap.size, 1, none⟩) zxX1).trans xX1_1
      have xw1_2 := ((hw1).cell (p := ⟨w.heap.size, 2, none⟩) zxX1).trans xX1_2
      have znw1 : w.heap.size + 1 < w1.heap.size := Nat.lt_of_lt_of_le znX1 (hw1).size
      have nw1_0 := ((hw1).cell (p := ⟨w.heap.size + 1, 0, none⟩) znX1).trans nX1_0
      have nw1_1 := ((hw1).cell (p := ⟨w.heap.size + 1, 1, none⟩) znX1).trans nX1_1
      have Iw1 := Lib.hid (IX1.out.below ((hw1).mono mX1))
      clear BX1 mX1 xX1_0 xX1_1 xX1_2 zxX1 nX1_0 nX1_1 znX1 IX1
      clear hw1
      clear N1
      clear znw1 nw1_0 nw1_1
      go_wp2_with fail
      go_ret3
      exact ⟨ret_t3 HZ.out, Bw1.out⟩
    obtain ⟨n, rfl⟩ : ∃ n : Nat, i = n := ⟨i.toNat, by omega⟩
    obtain ⟨m, rfl⟩ : ∃ m : Nat, k = m := ⟨k.toNat, by omega⟩
    have hn : n < x.cs.length := by omega
    have hm : m < x.cs.length := by omega
    have hne : ((n : Int) == (m : Int)) = false := by simpa using he
    clear hi hk
    obtain ⟨c, hcj⟩ : ∃ c, x.cs[n]? = some c := ⟨_, List.getElem?_eq_getElem hn⟩
    obtain ⟨d, hdj⟩ : ∃ c, x.cs[m]? = some c := ⟨_, List.getElem?_eq_getElem hm⟩
    obtain ⟨N, hN⟩ : ∃ N : Nat, x.cy = N := ⟨x.cy.toNat, by have := OK.out.1; omega⟩
    have N1 : N ≤ 120 := by have := OK.out.1; omega
    have PC : Hid (pathR x n = (pathL c N, 0)) := Lib.hid (by rw [path_of H0.out hcj, hN]; rfl)
    have PD : Hid (pathR x m = (pathL d N, 0)) := Lib.hid (by rw [path_of H0.out hdj, hN]; rfl)
    have HZ : Hid (nearR x n m = (((stN c d (N + 1)).2.1, (stN c d (N + 1)).2.2), 0)) := Lib.hid (by unfold nearR; rw [if_neg (by rw [HX.out]; decide), if_neg he, crAt_n hcj, crAt_n hdj, hN]; rfl)
    have KC : Hid (crE c x.cy = 0) := Lib.hid (cr_ok hcj OK.out.2.2.2.2).2
    have KD : Hid (crE d x.cy = 0) := Lib.hid (cr_ok hdj OK.out.2.2.2.2).2
    have JC := Lib.hid hcj
    have JD := Lib.hid hdj
    clear hcj hdj he
    have HN := Lib.hid hN
    clear hN
    go_enter Tryz.func28, Tryz.ntmps28
    go_wp2_with fail
    obtain ⟨X1, hX1⟩ : ∃ X1, X1 = (w.alloc (.cells #[.int .i64 x.cy, .int .i64 x.gr, .slice A x.cs.length cap] 24)).alloc (.cells #[.int .i64 n, .int .i64 m] 3) := ⟨_, rfl⟩
    have BX1 : Hid (Below w.heap.size w X1) := Lib.hid (by rw [hX1]; exact ((Below.refl _ _).alloc (Nat.le_refl _) _).alloc (by simp) _)
    have zxX1 : w.heap.size < X1.heap.size := by rw [hX1]; simp <;> omega
    have xX1_0 : X1.cell? ⟨w.heap.size, 0, none⟩ = some (.int .i64 x.cy) := by rw [hX1]; go_simp
    have xX1_1 : X1.cell? ⟨w.heap.size, 1, none⟩ = some (.int .i64 x.gr) := by rw [hX1]; go_simp
    have xX1_2 : X1.cell? ⟨w.heap.size, 2, none⟩ = some (.slice A x.cs.length cap) := by rw [hX1]; go_simp
    have znX1 : w.heap.size + 1 < X1.heap.size := by rw [hX1]; simp <;> omega
    have nX1_0 : X1.cell? ⟨w.heap.size + 1, 0, none⟩ = some (.int .i64 n) := by rw [hX1]; go_simp
    have nX1_1 : X1.cell? ⟨w.heap.size + 1, 1, none⟩ = some (.int .i64 m) := by rw [hX1]; go_simp
    have mX1 : w.heap.size ≤ X1.heap.size := by rw [hX1]; simp <;> omega
    rw [← hX1]
    clear hX1
    have IX1 := Lib.hid (hc.below BX1.out)
    clear hc
    have N1 := is2 nX1_0 nX1_1 znX1
    refine (num2 x A cap _ 2 n m X1 (IX1.out.mono mX1) hcap N1).mono ?_
    rintro e w1 ⟨rfl, hw1⟩
    have Bw1 : Hid (Below w.heap.size w w1) := Lib.hid (BX1.out.trans ((hw1).mono mX1))
    have mw1 : w.heap.size ≤ w1.heap.size := Nat.le_trans mX1 (hw1).size
    have zxw1 : w.heap.size < w1.heap.size := Nat.lt_of_lt_of_le zxX1 (hw1).size
    have xw1_0 := ((hw1).cell (p := ⟨w.heap.size, 0, none⟩) zxX1).trans xX1_0
    have xw1_1 := ((hw1).cell (p := ⟨w.heap.size, 1, none⟩) zxX1).trans xX1_1
    have xw1_2 := ((hw1).cell (p := ⟨w.heap.size, 2, none⟩) zxX1).trans xX1_2
    have znw1 : w.heap.size + 1 < w1.heap.size := Nat.lt_of_lt_of_le znX1 (hw1).size
    have nw1_0 := ((hw1).cell (p := ⟨w.heap.size + 1, 0, none⟩) znX1).trans nX1_0
    have nw1_1 := ((hw1).cell (p := ⟨w.heap.size + 1, 1, none⟩) znX1).trans nX1_1
    have Iw1 := Lib.hid (IX1.out.below ((hw1).mono mX1))
    clear BX1 mX1 xX1_0 xX1_1 xX1_2 zxX1 nX1_0 nX1_1 znX1 IX1
    clear hw1
    clear N1
    clear znw1 nw1_0 nw1_1
    go_wp2_with fail
    refine (path22 x A cap n w1 (Iw1.out.mono mw1) hcap).mono ?_
    rintro e w2 ⟨PAP, pcP, rfl, hown, hw2⟩
    rw [PC.out] at hown ⊢
    obtain ⟨gP, rfl, hgP, zgPw2, hp⟩ := Own.path hown
    clear hown
    have Pw2 := Lib.hid hp
    clear hp
    rw [show (pathL c N, (0 : Int)).1.length = N + 1 from pathL_len _ _]
    have Bw2 : Hid (Below w.heap.size w w2) := Lib.hid (Bw1.out.trans ((hw2).mono mw1))
    have mw2 : w.heap.size ≤ w2.heap.size := Nat.le_trans mw1 (hw2).size
    have zxw2 : w.heap.size < w2.heap.size := Nat.lt_of_lt_of_le zxw1 (hw2).size
    have xw2_0 := ((hw2).cell (p := ⟨w.heap.size, 0, none⟩) zxw1).trans xw1_0
    have xw2_1 := ((hw2).cell (p := ⟨w.heap.size, 1, none⟩) zxw1).trans xw1_1
    have xw2_2 := ((hw2).cell (p := ⟨w.heap.size, 2, none⟩) zxw1).trans xw1_2
    have Iw2 := Lib.hid (Iw1.out.below ((hw2).mono mw1))
    clear Bw1 mw1 xw1_0 xw1_1 xw1_2 zxw1 Iw1
    go_wp2_with fail
    refine (path22 x A cap m w2 (Iw2.out.mono mw2) hcap).mono ?_
    rintro e w3 ⟨PAQ, pcQ, rfl, hown, hw3⟩
    rw [PD.out] at hown ⊢
    obtain ⟨gQ, rfl, hgQ, zgQw3, hp⟩ := Own.path hown
    clear hown
    have Qw3 := Lib.hid hp
    clear hp
    rw [show (pathL d N, (0 : Int)).1.length = N + 1 from pathL_len _ _]
    have Bw3 : Hid (Below w.heap.size w w3) := Lib.hid (Bw2.out.trans ((hw3).mono mw2))
    have mw3 : w.heap.size ≤ w3.heap.size := Nat.le_trans mw2 (hw3).size
    have zxw3 : w.heap.size < w3.heap.size := Nat.lt_of_lt_of_le zxw2 (hw3).size
    have xw3_0 := ((hw3).cell (p := ⟨w.heap.size, 0, none⟩) zxw2).trans xw2_0
    have xw3_1 := ((hw3).cell (p := ⟨w.heap.size, 1, none⟩) zxw2).trans xw2_1
    have xw3_2 := ((hw3).cell (p := ⟨w.heap.size, 2, none⟩) zxw2).trans xw2_2
    have Iw3 := Lib.hid (Iw2.out.below ((hw3).mono mw2))
    have Pw3 := Lib.hid (Pw2.out.below (hw3) zgPw2)
    have zgPw3 := Nat.lt_of_lt_of_le zgPw2 (hw3).size
    clear Bw2 mw2 xw2_0 xw2_1 xw2_2 zxw2 Iw2 Pw2 zgPw2
    go_wp2_with fail
    have PI := Lib.hid Iw3.out
    have sP : gP < w3.heap.size := zgPw3
    have sQ : gQ < w3.heap.size := zgQw3
    go_loopw [6, 7, 12, 49] (fun a s l y wr => ∃ t : Nat, t ≤ N + 1 ∧ y = .int .i64 t ∧ l = .int .i64 (stN c d t).1 ∧ a = .int .i64 (stN c d t).2.1 ∧ s = .int .i64 (stN c d t).2.2 ∧ Below w3.heap.size w3 wr) (fun _ _ _ y _ => N + 1 - (intOf y).toNat)
    case atStart => exact ⟨0, Nat.zero_le _, rfl, rfl, rfl, rfl, Below.refl _ _⟩
    case round =>
      obtain ⟨t, ht, rfl, rfl, rfl, rfl, hb⟩ := hrel
      have HB := Lib.hid hb
      have zr := hb.size
      clear hb
      by_cases hlt : t < N + 1
      · obtain ⟨b, off, rfl, hbb, hcc⟩ := (PI.out.below (HB.out.mono mw3)).out_ (by omega)
        obtain ⟨La, cpa, hAa, -⟩ := hcc n c JC.out
        obtain ⟨a0, a1, a2, a3, a4, a5, a6, a7, a8, a9, a10, a11, a12⟩ := hAa
        obtain ⟨Le, cpe, hAe, -⟩ := hcc m d JD.out
        obtain ⟨e0, e1, e2, e3, e4, e5, e6, e7, e8, e9, e10, e11, e12⟩ := hAe
        clear hcc
        have ep : wr.cell? ⟨gP, t * 2, none⟩ = some (.int .i64 (flyN c t).1) := (Pw3.out.below HB.out sP) t (by omega)
        have eq : wr.cell? ⟨gQ, t * 2, none⟩ = some (.int .i64 (flyN d t).1) := (Qw3.out.below HB.out sQ) t (by omega)
        have r2 := (HB.out.cell (p := ⟨w.heap.size, 2, none⟩) zxw3).trans xw3_2
        have zx : w.heap.size < wr.heap.size := by omega
        have zp : gP < wr.heap.size := by omega
        have zq : gQ < wr.heap.size := by omega
        have zb : b < wr.heap.size := by omega
        have t0 : (0 : Int) ≤ (t : Int) := by omega
        have hlI : (t : Int) < (N : Int) + 1 := by omega
        have t1 : (t : Int) ≤ 120 := by omega
        have nI : (n : Int) < (x.cs.length : Int) := by omega
        have mI : (m : Int) < (x.cs.length : Int) := by omega
        clear xw3_0 xw3_1 xw3_2
        go_upto_region 16 with fail
        go_cut [14, 15] (fun p q wx => ∃ g h, p = .pointer (some ⟨g, 0, none⟩) ∧ q = .pointer (some ⟨h, 0, none⟩) ∧ At3 wx g (posAt c t) ∧ At3 wx h (posAt d t) ∧ Below wr.heap.size wr wx)
        case first =>
          have KP := Lib.hid (show okP c.p ∧ okV c.v from ⟨(crE_ok KC.out).1, (crE_ok KC.out).2.1⟩)
          have KQ := Lib.hid (show okP d.p ∧ okV d.v from ⟨(crE_ok KD.out).1, (crE_ok KD.out).2.1⟩)
          have S0 := Lib.hid (sk_refl wr)
          go_region_held3 (fun w' => (∀ b o, b < wr.heap.size → w'.cell? ⟨b, o, none⟩ = wr.cell? ⟨b, o, none⟩) ∧ wr.heap.size ≤ w'.heap.size ∧ Below wr.heap.size wr w') (first | with_reducible exact S0.out | ((repeat (first | with_reducible assumption | with_reducible exact sk_refl _ | with_reducible apply sk_drew | with_reducible apply sk_alloc | (with_reducible apply sk_set (by first | assumption | exact Nat.le_refl _ | (simp; done) | (simp; omega) | (show _ ≤ _; omega))))); done) | go_keep) (first
            | ((with_reducible refine (moved82 c La cpa t (flyN c t).1 _ KP.out.1 KP.out.2 (by omega) t1).mono ?_); rintro e w5 ⟨rfl, hw5⟩; have Sw5 := sk_call (wr := wr) hw5 (by (repeat (first | with_reducible assumption | with_reducible exact sk_refl _ | with_reducible apply sk_drew | with_reducible apply sk_alloc | (with_reducible apply sk_set (by first | assumption | exact Nat.le_refl _ | (simp; done) | (simp; omega) | (show _ ≤ _; omega)))))); have hcw5 := (bcell hw5).1; have hfw5 := (bcell hw5).2; have hsw5 := hw5.size; (try simp at hsw5); (try have : wr.heap.size < w5.heap.size := (by omega)); (try have : wr.heap.size + 1 < w5.heap.size := (by omega)); (try have := fun (i : Nat) => hcw5 (wr.heap.size) i (by first | (simp; done) | (simp; omega))); (try have := fun (i : Nat) => hcw5 (wr.heap.size + 1) i (by first | (simp; done) | (simp; omega))); (try have : wr.heap.size ≠ wr.heap.size + 1 := (by omega)); (try have : wr.heap.size + 1 ≠ wr.heap.size := (by omega)); (try clear a0 a1 a2 a3 a4 a5 a6 a7 a8 a9 a10 a11 a12 e0 e1 e2 e3 e4 e5 e6 e7 e8 e9 e10 e11 e12 ep eq r2 nI mI hlI zx zp zq zb))
            | ((with_reducible refine (moved82 d Le cpe t (flyN d t).1 _ KQ.out.1 KQ.out.2 (by omega) t1).mono ?_); rintro e w6 ⟨rfl, hw6⟩; have Sw6 := sk_call (wr := wr) hw6 (by (repeat (first | with_reducible assumption | with_reducible exact sk_refl _ | with_reducible apply sk_drew | with_reducible apply sk_alloc | (with_reducible apply sk_set (by first | assumption | exact Nat.le_refl _ | (simp; done) | (simp; omega) | (show _ ≤ _; omega)))))); have hcw6 := (bcell hw6).1; have hfw6 := (bcell hw6).2; have hsw6 := hw6.size; (try simp at hsw6); (try have : wr.heap.size < w6.heap.size := (by omega)); (try have : wr.heap.size + 1 < w6.heap.size := (by omega)); (try have : w5.heap.size < w6.heap.size := (by omega)); (try have : w5.heap.size + 1 < w6.heap.size := (by omega)); (try have := fun (i : Nat) => hcw6 (wr.heap.size) i (by first | (simp; done) | (simp; omega))); (try have := fun (i : Nat) => hcw6 (wr.heap.size + 1) i (by first | (simp; done) | (simp; omega))); (try have := fun (i : Nat) => hcw6 (w5.heap.size) i (by first | (simp; done) | (simp; omega))); (try have := fun (i : Nat) => hcw6 (w5.heap.size + 1) i (by first | (simp; done) | (simp; omega))); (try have : wr.heap.size ≠ wr.heap.size + 1 := (by omega)); (try have : wr.heap.size + 1 ≠ wr.heap.size := (by omega)); (try have : w5.heap.size ≠ w5.heap.size + 1 := (by omega)); (try have : w5.heap.size + 1 ≠ w5.heap.size := (by omega)); (try clear a0 a1 a2 a3 a4 a5 a6 a7 a8 a9 a10 a11 a12 e0 e1 e2 e3 e4 e5 e6 e7 e8 e9 e10 e11 e12 ep eq r2 nI mI hlI zx zp zq zb))
            )
          all_goals (go_wp2_with fail)
          all_goals go_meet
          all_goals (case rel => (refine ⟨_, _, rfl, rfl, ⟨?_, ?_, ?_, ?_⟩, ⟨?_, ?_, ?_, ?_⟩, sk_b ?_⟩ <;> (try unfold posAt) <;> first | (simp; done) | (simp; omega) | (go_simp; done) | (go_simp; omega) | ((repeat (first | with_reducible assumption | with_reducible exact sk_refl _ | with_reducible apply sk_drew | with_reducible apply sk_alloc | (with_reducible apply sk_set (by first | assumption | exact Nat.le_refl _ | (simp; done) | (simp; omega) | (show _ ≤ _; omega))))); done)))
        case rest =>
          obtain ⟨g, h, rfl, rfl, ⟨zg, p0, p1, p2⟩, ⟨zh, q0, q1, q2⟩, hb⟩ := hcut
          have HX := Lib.hid (HB.out.trans (hb.mono zr))
          have zc := hb.size
          clear hb a0 a1 a2 a3 a4 a5 a6 a7 a8 a9 a10 a11 a12 e0 e1 e2 e3 e4 e5 e6 e7 e8 e9 e10 e11 e12 ep eq r2
          have e0 : erS (posAt c t) (posAt d t) = 0 := by unfold erS; rw [if_pos ⟨posAt_ok KC.out OK.out.1.1 OK.out.1.2 t (by rw [HN.out]; omega), posAt_ok KD.out OK.out.1.1 OK.out.1.2 t (by rw [HN.out]; omega)⟩]
          go_wp2_with fail
          have T := slant25 (posAt c t) (posAt d t) wc
          rw [e0] at T
          refine T.mono ?_
          rintro e w7 ⟨rfl, hb7⟩
          clear T
          have p07 := (hb7.cell (p := ⟨g, 0, none⟩) zg).trans p0
          have p17 := (hb7.cell (p := ⟨g, 1, none⟩) zg).trans p1
          have p27 := (hb7.cell (p := ⟨g, 2, none⟩) zg).trans p2
          have q07 := (hb7.cell (p := ⟨h, 0, none⟩) zh).trans q0
          have q17 := (hb7.cell (p := ⟨h, 1, none⟩) zh).trans q1
          have q27 := (hb7.cell (p := ⟨h, 2, none⟩) zh).trans q2
          have H7 := Lib.hid (HX.out.trans (hb7.mono (by omega)))
          have z7 := hb7.size
          clear hb7 p0 p1 p2 q0 q1 q2
          obtain ⟨b0, b1⟩ := stN_bd c d t
          by_cases h1 : (stN c d t).1 < 0
          · have HS : Hid (stN c d (t + 1) = (s2G (posAt c t) (posAt d t), (t : Int), slG (posAt c t) (posAt d t))) := Lib.hid (by rw [stN, if_pos (.inl h1)])
            go_wp2_with fail
            have T := slant27 (posAt c t) (posAt d t) w7
            rw [e0] at T
            refine T.mono ?_
            rintro e w8 ⟨rfl, hb8⟩
            clear T
            have H8 := Lib.hid (H7.out.trans (hb8.mono (by omega)))
            clear hb8
            go_wp2_with fail
            exact ⟨⟨t + 1, by omega, by go_num, by rw [HS.out], by rw [HS.out], by rw [HS.out], H8.out⟩, by simp [intOf]; omega⟩
          · by_cases h2 : s2G (posAt c t) (posAt d t) < (stN c d t).1
            · have HS : Hid (stN c d (t + 1) = (s2G (posAt c t) (posAt d t), (t : Int), slG (posAt c t) (posAt d t))) := Lib.hid (by rw [stN, if_pos (.inr h2)])
              go_wp2_with fail
              have T := slant27 (posAt c t) (posAt d t) w7
              rw [e0] at T
              refine T.mono ?_
              rintro e w8 ⟨rfl, hb8⟩
              clear T
              have H8 := Lib.hid (H7.out.trans (hb8.mono (by omega)))
              clear hb8
              go_wp2_with fail
              exact ⟨⟨t + 1, by omega, by go_num, by rw [HS.out], by rw [HS.out], by rw [HS.out], H8.out⟩, by simp [intOf]; omega⟩
            · have HS : Hid (stN c d (t + 1) = stN c d t) := Lib.hid (by rw [stN, if_neg (fun h => h.elim h1 h2)])
              go_wp2_with fail
              exact ⟨⟨t + 1, by omega, by go_num, by rw [HS.out], by rw [HS.out], by rw [HS.out], H7.out⟩, by simp [intOf]; omega⟩
      · obtain rfl : t = N + 1 := by omega
        have hlI : ¬ ((N + 1 : Nat) : Int) < (N : Int) + 1 := by omega
        go_wp2_with fail
        go_ret3
        exact ⟨ret_t3 HZ.out, Bw3.out.trans (HB.out.mono mw3)⟩
  · have hq : (numE x [i, k] != 0) = true := by simp [hx]
    have HZ : Hid (nearR x i k = ((0, 0), numE x [i, k])) := Lib.hid (by unfold nearR; rw [if_pos hx])
    clear hx
    go_enter Tryz.func28, Tryz.ntmps28
    go_wp2_with fail
    obtain ⟨X1, hX1⟩ : ∃ X1, X1 = (w.alloc (.cells #[.int .i64 x.cy, .int .i64 x.gr, .slice A x.cs.length cap] 24)).alloc (.cells #[.int .i64 i, .int .i64 k] 3) := ⟨_, rfl⟩
    have BX1 : Hid (Below w.heap.size w X1) := Lib.hid (by rw [hX1]; exact ((Below.refl _ _).alloc (Nat.le_refl _) _).alloc (by simp) _)
    have zxX1 : w.heap.size < X1.heap.size := by rw [hX1]; simp <;> omega
    have xX1_0 : X1.cell? ⟨w.heap.size, 0, none⟩ = some (.int .i64 x.cy) := by rw [hX1]; go_simp
    have xX1_1 : X1.cell? ⟨w.heap.size, 1, none⟩ = some (.int .i64 x.gr) := by rw [hX1]; go_simp
    have xX1_2 : X1.cell? ⟨w.heap.size, 2, none⟩ = some (.slice A x.cs.length cap) := by rw [hX1]; go_simp
    have znX1 : w.heap.size + 1 < X1.heap.size := by rw [hX1]; simp <;> omega
    have nX1_0 : X1.cell? ⟨w.heap.size + 1, 0, none⟩ = some (.int .i64 i) := by rw [hX1]; go_simp
    have nX1_1 : X1.cell? ⟨w.heap.size + 1, 1, none⟩ = some (.int .i64 k) := by rw [hX1]; go_simp
    have mX1 : w.heap.size ≤ X1.heap.size := by rw [hX1]; simp <;> omega
    rw [← hX1]
    clear hX1
    have IX1 := Lib.hid (hc.below BX1.out)
    clear hc
    have N1 := is2 nX1_0 nX1_1 znX1
    refine (num2 x A cap _ 2 i k X1 (IX1.out.mono mX1) hcap N1).mono ?_
    rintro e w1 ⟨rfl, hw1⟩
    have Bw1 : Hid (Below w.heap.size w w1) := Lib.hid (BX1.out.trans ((hw1).mono mX1))
    have mw1 : w.heap.size ≤ w1.heap.size := Nat.le_trans mX1 (hw1).size
    have zxw1 : w.heap.size < w1.heap.size := Nat.lt_of_lt_of_le zxX1 (hw1).size
    have xw1_0 := ((hw1).cell (p := ⟨w.heap.size, 0, none⟩) zxX1).trans xX1_0
    have xw1_1 := ((hw1).cell (p := ⟨w.heap.size, 1, none⟩) zxX1).trans xX1_1
    have xw1_2 := ((hw1).cell (p := ⟨w.heap.size, 2, none⟩) zxX1).trans xX1_2
    have znw1 : w.heap.size + 1 < w1.heap.size := Nat.lt_of_lt_of_le znX1 (hw1).size
    have nw1_0 := ((hw1).cell (p := ⟨w.heap.size + 1, 0, none⟩) znX1).trans nX1_0
    have nw1_1 := ((hw1).cell (p := ⟨w.heap.size + 1, 1, none⟩) znX1).trans nX1_1
    have Iw1 := Lib.hid (IX1.out.below ((hw1).mono mX1))
    clear BX1 mX1 xX1_0 xX1_1 xX1_2 zxX1 nX1_0 nX1_1 znX1 IX1
    clear hw1
    clear N1
    clear znw1 nw1_0 nw1_1
    go_wp2_with fail
    go_ret3
    exact ⟨ret_t3 HZ.out, Bw1.out⟩
end Go.Proofs.YtnnnpliigdfipaaGreatDoor
