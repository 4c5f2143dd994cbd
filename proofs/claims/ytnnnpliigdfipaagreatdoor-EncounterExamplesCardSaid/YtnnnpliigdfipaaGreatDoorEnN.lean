/- encounter: Where. -/
import Derived.Test.YtnnnpliigdfipaaGreatDoorRows
import Derived.WalkKit
import Derived.WalkLawsBesides
import Derived.WalkSpells
import Derived.ProofKit
import Derived.Below
import Derived.Outline
import Derived.Lib.Hide
import Derived.Deep.RegionWith
import Derived.Deep.RegionHeld3
import Derived.Deep.DrawnRows
import Derived.StillTailTactics
import Derived.BigQuiet
import Derived.Deep.QuietTactic
import Derived.Deep.LoopGhost
import Derived.IntWalk
import Derived.Lib.MinMax
import Derived.Test.YtnnnpliigdfipaaGreatDoorEnM
namespace Go.Proofs.YtnnnpliigdfipaaGreatDoor
open Go.RowKit
attribute [local go_sem ↓] Go.wp_at_zero Go.wp_at_succ
attribute [local go_sem] wrap_lit
def posAt (c : Cr) (k : Nat) : V3 := c.at k (flyN c k).1
def wheR (x : En) (i k : Int) : V3 × Int := if (pathR x i).2 ≠ 0 then (⟨0, 0, 0⟩, (pathR x i).2) else if inB k 0 x.cy = false then (⟨0, 0, 0⟩, 8) else (posAt (crAt x i) k.toNat, 0)
theorem ret_ws {R : V3 × Int} {a b c d : Int} (h : R = (⟨a, b, c⟩, d)) : Ending.returned (.tuple #[.agg #[.int .i64 a, .int .i64 b, .int .i64 c], .int .i64 d]) = .returned (.tuple #[.agg #[.int .i64 R.1.x, .int .i64 R.1.y, .int .i64 R.1.z], .int .i64 R.2]) := by rw [h]
theorem pathR_ok {x : En} {i : Int} (h : (pathR x i).2 = 0) : chE x = 0 ∧ ∃ (n : Nat) (c : Cr), i = n ∧ n < x.cs.length ∧ x.cs[n]? = some c ∧ pathR x i = (pathL c x.cy.toNat, 0) ∧ crAt x i = c := by
  unfold pathR at h
  split at h
  · rename_i g; exact absurd h g
  · rename_i g
    have g' : numE x [i] = 0 := by simpa using g
    obtain ⟨h0, hi⟩ := numE_0 g'
    have hi0 := hi 0 (by simp)
    simp only [nth, List.getD_cons_zero] at hi0
    have hn : i.toNat < x.cs.length := by omega
    have e : i = (i.toNat : Int) := by omega
    have hc : crAt x i = x.cs[i.toNat] := by unfold crAt; simp [List.getD_eq_getElem?_getD, hn]
    refine ⟨h0, i.toNat, x.cs[i.toNat], e, hn, List.getElem?_eq_getElem hn, ?_, hc⟩
    unfold pathR
    rw [if_neg g, hc]
theorem set3_other (w : World) (r : Nat) (X Y Z : Value) (b o : Nat) (h : b ≠ r) : (((w.setCell ⟨r, 0, none⟩ X).setCell ⟨r, 1, none⟩ Y).setCell ⟨r, 2, none⟩ Z).cell? ⟨b, o, none⟩ = w.cell? ⟨b, o, none⟩ := by
  have e : ∀ i, (⟨r, i, none⟩ : Addr) ≠ ⟨b, o, none⟩ := fun i g => h (by injection g with g; exact g.symm)
  rw [World.cell?_setCell_other _ _ _ _ (e 2), World.cell?_setCell_other _ _ _ _ (e 1), World.cell?_setCell_other _ _ _ _ (e 0)]
theorem set_some (w : World) (p q : Addr) (X : Value) (h : (w.cell? q).isSome = true) : ((w.setCell p X).cell? q).isSome = true := by
  by_cases e : p = q
  · subst e; rw [World.cell?_setCell_same' _ _ _ h]; rfl
  · rw [World.cell?_setCell_other _ _ _ _ e]; exact h
theorem set3_some (w : World) (r : Nat) (X Y Z : Value) (i : Nat) (h : (w.cell? ⟨r, i, none⟩).isSome = true) : ((((w.setCell ⟨r, 0, none⟩ X).setCell ⟨r, 1, none⟩ Y).setCell ⟨r, 2, none⟩ Z).cell? ⟨r, i, none⟩).isSome = true := set_some _ _ _ _ (set_some _ _ _ _ (set_some _ _ _ _ h))
theorem set3_fr (w : World) (r : Nat) (X Y Z : Value) (i : Nat) : (((w.setCell ⟨r, 0, none⟩ X).setCell ⟨r, 1, none⟩ Y).setCell ⟨r, 2, none⟩ Z).frozen? ⟨r, i, none⟩ = w.frozen? ⟨r, i, none⟩ := by simp
def cellv (w : World) (p : Addr) : Value := (w.cell? p).getD undef
theorem cellv_of {w : World} {p : Addr} (h : (w.cell? p).isSome = true) : w.cell? p = some (cellv w p) := by
  unfold cellv
  cases e : w.cell? p with
  | none => rw [e] at h; cases h
  | some v => rfl
theorem cellv_some {w : World} {p : Addr} {v : Value} (h : w.cell? p = some v) : (w.cell? p).isSome = true := by rw [h]; rfl
theorem nth_path {c : Cr} {N k : Nat} (h : k ≤ N) : nth (flat (pathL c N)) (k * 2) = (flyN c k).1 ∧ nth (flat (pathL c N)) (k * 2 + 1) = (flyN c k).2 := by
  have hl : k < (pathL c N).length := by rw [pathL_len]; omega
  have := nth_flat (pathL c N) k hl
  rw [this.1, this.2]
  simp [pathL]
set_option maxRecDepth 100000 in
set_option maxHeartbeats 4000000 in
theorem where26 (x : En) (A : Option Addr) (cap : Nat) (i k : Int) (w : World) (hc : InCr w w.heap.size A x.cs) (hcap : x.cs.length ≤ cap) : Calls Tryz.prog 26 #[.agg #[.int .i64 x.cy, .int .i64 x.gr, .slice A x.cs.length cap], .int .i64 i, .int .i64 k] w fun e w' => e = .returned (.tuple #[.agg #[.int .i64 (wheR x i k).1.x, .int .i64 (wheR x i k).1.y, .int .i64 (wheR x i k).1.z], .int .i64 (wheR x i k).2]) ∧ Below w.heap.size w w' := by
  by_cases hx : (pathR x i).2 = 0
  · obtain ⟨h0, n, c0, rfl, hn, hcj, hpr, hcr⟩ := pathR_ok hx
    have OK := Lib.hid (chE_ok h0)
    have HP := Lib.hid hpr
    have HC := Lib.hid hcr
    clear h0 hpr hcr
    have HX := Lib.hid hx
    clear hx
    have HJ0 := Lib.hid hcj
    clear hcj
    have hcy : x.cy.toNat = x.cy := by have := OK.out.1; omega
    by_cases hk : inB k 0 x.cy = true
    · obtain ⟨k0, k1⟩ := inB_iff hk
      obtain ⟨K, rfl⟩ : ∃ K : Nat, k = K := ⟨k.toNat, by omega⟩
      have HK := Lib.hid hk
      have hq : (!inB K 0 x.cy) = false := by simp [hk]
      clear hk
      have K1 : K ≤ x.cy.toNat := by omega
      have K2 : (K : Int) ≤ 120 := by have := OK.out.1; omega
      have HZ : Hid (wheR x n K = (posAt c0 K, 0)) := Lib.hid (by unfold wheR; rw [if_neg (by rw [HX.out]; decide), if_neg (by rw [HK.out]; decide), HC.out]; rfl)
      clear hcy k0 k1
      go_enter Tryz.func26, Tryz.ntmps26
      go_wp2_with fail
      have hsz : ∀ a b, ((w.alloc a).alloc b).heap.size = w.heap.size + 1 + 1 := by intro a b; simp
      obtain ⟨X1, hX1⟩ : ∃ X1, X1 = (w.alloc (.cells #[.int .i64 x.cy, .int .i64 x.gr, .slice A x.cs.length cap] 24)).alloc (.cells #[.int .i64 0, .int .i64 0, .int .i64 0] 46) := ⟨_, rfl⟩
      have BX1 : Hid (Below w.heap.size w X1) := Lib.hid (by rw [hX1]; exact ((Below.refl _ _).alloc (Nat.le_refl _) _).alloc (by simp) _)
      have zxX1 : w.heap.size < X1.heap.size := by rw [hX1]; simp <;> omega
      have xX1_0 : X1.cell? ⟨w.heap.size, 0, none⟩ = some (.int .i64 x.cy) := by rw [hX1]; go_simp
      have xX1_1 : X1.cell? ⟨w.heap.size, 1, none⟩ = some (.int .i64 x.gr) := by rw [hX1]; go_simp
      have xX1_2 : X1.cell? ⟨w.heap.size, 2, none⟩ = some (.slice A x.cs.length cap) := by rw [hX1]; go_simp
      have zrX1 : w.heap.size + 1 < X1.heap.size := by rw [hX1]; simp <;> omega
      have rX1_0 : X1.cell? ⟨w.heap.size + 1, 0, none⟩ = some (.int .i64 0) := by rw [hX1]; go_simp
      have rX1_1 : X1.cell? ⟨w.heap.size + 1, 1, none⟩ = some (.int .i64 0) := by rw [hX1]; go_simp
      have rX1_2 : X1.cell? ⟨w.heap.size + 1, 2, none⟩ = some (.int .i64 0) := by rw [hX1]; go_simp
      have frX1 : ∀ i, X1.frozen? ⟨w.heap.size + 1, i, none⟩ = false := by intro i; rw [hX1]; go_simp
      have mX1 : w.heap.size ≤ X1.heap.size := by rw [hX1]; simp <;> omega
      have sX1 : X1.heap.size = w.heap.size + 1 + 1 := by rw [hX1]; simp
      rw [← hX1]
      clear hX1 hsz
      have IX1 := Lib.hid (hc.below BX1.out)
      clear hc
      refine (path22 x A cap n X1 (IX1.out.mono mX1) hcap).mono ?_
      rintro e w1 ⟨PA, pc, rfl, hown, hw1⟩
      have HO := Lib.hid hown
      clear hown
      have Bw1 : Hid (Below w.heap.size w w1) := Lib.hid (BX1.out.trans ((hw1).mono mX1))
      have mw1 : w.heap.size ≤ w1.heap.size := Nat.le_trans mX1 (hw1).size
      have zxw1 : w.heap.size < w1.heap.size := Nat.lt_of_lt_of_le zxX1 (hw1).size
      have xw1_0 := ((hw1).cell (p := ⟨w.heap.size, 0, none⟩) zxX1).trans xX1_0
      have xw1_1 := ((hw1).cell (p := ⟨w.heap.size, 1, none⟩) zxX1).trans xX1_1
      have xw1_2 := ((hw1).cell (p := ⟨w.heap.size, 2, none⟩) zxX1).trans xX1_2
      have zrw1 : w.heap.size + 1 < w1.heap.size := Nat.lt_of_lt_of_le zrX1 (hw1).size
      have rw1_0 := ((hw1).cell (p := ⟨w.heap.size + 1, 0, none⟩) zrX1).trans rX1_0
      have rw1_1 := ((hw1).cell (p := ⟨w.heap.size + 1, 1, none⟩) zrX1).trans rX1_1
      have rw1_2 := ((hw1).cell (p := ⟨w.heap.size + 1, 2, none⟩) zrX1).trans rX1_2
      have frw1 : ∀ i, w1.frozen? ⟨w.heap.size + 1, i, none⟩ = false := fun i => ((hw1).frozen (p := ⟨w.heap.size + 1, i, none⟩) zrX1).trans (frX1 i)
      have Iw1 := Lib.hid (IX1.out.below ((hw1).mono mX1))
      clear BX1 mX1 xX1_0 xX1_1 xX1_2 zxX1 rX1_0 rX1_1 rX1_2 frX1 zrX1 IX1
      rw [HP.out] at HO ⊢
      obtain ⟨g, cs, rfl, hg, hgh, hgc⟩ := HO.out (by simp [flat2_len, pathL_len])
      clear HO
      have ep := hgc (K * 2) (by rw [flat2_len, pathL_len]; omega)
      rw [(nth_path K1).1] at ep
      have epc : w1.cell? ⟨g, K * 2, none⟩ = some (.int .i64 (flyN c0 K).1) := by simp [World.cell?, hgh, ep]
      clear hgc ep
      have zg := heap_lt hgh
      have ng : g ≠ w.heap.size + 1 := by omega
      clear hgh
      obtain ⟨b, off, rfl, hbb, hcc⟩ := Iw1.out (by omega)
      obtain ⟨c, hcj⟩ : ∃ c, x.cs[n]? = some c := ⟨_, List.getElem?_eq_getElem (by omega)⟩
      obtain ⟨LA, cap', hA, hL⟩ := hcc n c hcj
      have Lw1 := Lib.hid hL
      have HJ := Lib.hid hcj
      clear hcc hcj hL
      obtain ⟨a0, a1, a2, a3, a4, a5, a6, a7, a8, a9, a10, a11, a12⟩ := hA
      have nb : b ≠ w.heap.size + 1 := by omega
      have hbb : b < w1.heap.size := by omega
      obtain rfl : c = c0 := Option.some.inj (HJ.out.symm.trans HJ0.out)
      clear HJ0
      have hnI : (n : Int) < (x.cs.length : Int) := by omega
      obtain ⟨M, hM⟩ : ∃ M, M = x.cy.toNat + 1 := ⟨_, rfl⟩
      rw [show (pathL c x.cy.toNat, (0 : Int)).1.length = M by rw [hM]; exact pathL_len _ _]
      have hKI : (K : Int) < (M : Int) := by omega
      clear hM
      go_wp2_with fail
      refine (outside71 K 0 x.cy _).mono ?_
      rintro e wS ⟨rfl, rfl⟩
      go_wp2_with fail
      obtain ⟨okp, okv, -⟩ := crE_ok (cr_ok HJ.out OK.out.2.2.2.2).2
      have K0 : (0 : Int) ≤ (K : Int) := by omega
      have nx : w.heap.size ≠ w.heap.size + 1 := by omega
      have g0 : (w1.cell? ⟨w.heap.size + 1, 0, none⟩).isSome = true := by rw [rw1_0]; rfl
      have g1 : (w1.cell? ⟨w.heap.size + 1, 1, none⟩).isSome = true := by rw [rw1_1]; rfl
      have g2 : (w1.cell? ⟨w.heap.size + 1, 2, none⟩).isSome = true := by rw [rw1_2]; rfl
      go_region_held3 (fun w' => w'.cell? ⟨w.heap.size, 2, none⟩ = some (.slice (some ⟨b, off, none⟩) x.cs.length cap) ∧ w'.cell? ⟨b, off + n * 13, none⟩ = some (.int .i64 c.ad) ∧ w'.cell? ⟨b, off + n * 13 + 1, none⟩ = some (.int .i64 c.p.x) ∧ w'.cell? ⟨b, off + n * 13 + 2, none⟩ = some (.int .i64 c.p.y) ∧ w'.cell? ⟨b, off + n * 13 + 3, none⟩ = some (.int .i64 c.p.z) ∧ w'.cell? ⟨b, off + n * 13 + 4, none⟩ = some (.int .i64 c.v.x) ∧ w'.cell? ⟨b, off + n * 13 + 5, none⟩ = some (.int .i64 c.v.y) ∧ w'.cell? ⟨b, off + n * 13 + 6, none⟩ = some (.int .i64 c.v.z) ∧ w'.cell? ⟨b, off + n * 13 + 7, none⟩ = some (.int .i64 c.pu) ∧ w'.cell? ⟨b, off + n * 13 + 8, none⟩ = some (.slice LA c.lg.length cap') ∧ w'.cell? ⟨b, off + n * 13 + 9, none⟩ = some (.int .u8 c.mo) ∧ w'.cell? ⟨b, off + n * 13 + 10, none⟩ = some (.int .i64 c.de) ∧ w'.cell? ⟨b, off + n * 13 + 11, none⟩ = some (.int .i64 c.pp) ∧ w'.cell? ⟨b, off + n * 13 + 12, none⟩ = some (.int .i64 c.mi) ∧ w'.cell? ⟨g, K * 2, none⟩ = some (.int .i64 (flyN c K).1) ∧ w'.cell? ⟨w.heap.size + 1, 0, none⟩ = some (cellv w' ⟨w.heap.size + 1, 0, none⟩) ∧ w'.cell? ⟨w.heap.size + 1, 1, none⟩ = some (cellv w' ⟨w.heap.size + 1, 1, none⟩) ∧ w'.cell? ⟨w.heap.size + 1, 2, none⟩ = some (cellv w' ⟨w.heap.size + 1, 2, none⟩) ∧ w'.frozen? ⟨w.heap.size + 1, 0, none⟩ = false ∧ w'.frozen? ⟨w.heap.size + 1, 1, none⟩ = false ∧ w'.frozen? ⟨w.heap.size + 1, 2, none⟩ = false) (first | exact ⟨xw1_2, a0, a1, a2, a3, a4, a5, a6, a7, a8, a9, a10, a11, a12, epc, cellv_of g0, cellv_of g1, cellv_of g2, frw1 0, frw1 1, frw1 2⟩ | exact ⟨q0, q1, q2, q3, q4, q5, q6, q7, q8, q9, q10, q11, q12, q13, q14, qv0, qv1, qv2, qf0, qf1, qf2⟩ | exact ⟨(set3_other _ _ _ _ _ _ _ nx).trans q0, (set3_other _ _ _ _ _ _ _ nb).trans q1, (set3_other _ _ _ _ _ _ _ nb).trans q2, (set3_other _ _ _ _ _ _ _ nb).trans q3, (set3_other _ _ _ _ _ _ _ nb).trans q4, (set3_other _ _ _ _ _ _ _ nb).trans q5, (set3_other _ _ _ _ _ _ _ nb).trans q6, (set3_other _ _ _ _ _ _ _ nb).trans q7, (set3_other _ _ _ _ _ _ _ nb).trans q8, (set3_other _ _ _ _ _ _ _ nb).trans q9, (set3_other _ _ _ _ _ _ _ nb).trans q10, (set3_other _ _ _ _ _ _ _ nb).trans q11, (set3_other _ _ _ _ _ _ _ nb).trans q12, (set3_other _ _ _ _ _ _ _ nb).trans q13, (set3_other _ _ _ _ _ _ _ ng).trans q14, cellv_of (set3_some _ _ _ _ _ _ (cellv_some qv0)), cellv_of (set3_some _ _ _ _ _ _ (cellv_some qv1)), cellv_of (set3_some _ _ _ _ _ _ (cellv_some qv2)), (set3_fr _ _ _ _ _ _).trans qf0, (set3_fr _ _ _ _ _ _).trans qf1, (set3_fr _ _ _ _ _ _).trans qf2⟩ | go_keep) (first
        | ((with_reducible refine (moved82 c LA cap' K (flyN c K).1 _ okp okv (by omega) K2).mono ?_); rintro e w2 ⟨rfl, hb2⟩; have hs2 := hb2.size; (try simp at hs2); have q0 := (hb2.cell (p := ⟨w.heap.size, 2, none⟩) zxw1).trans xw1_2; have q1 := (hb2.cell (p := ⟨b, off + n * 13, none⟩) hbb).trans a0; have q2 := (hb2.cell (p := ⟨b, off + n * 13 + 1, none⟩) hbb).trans a1; have q3 := (hb2.cell (p := ⟨b, off + n * 13 + 2, none⟩) hbb).trans a2; have q4 := (hb2.cell (p := ⟨b, off + n * 13 + 3, none⟩) hbb).trans a3; have q5 := (hb2.cell (p := ⟨b, off + n * 13 + 4, none⟩) hbb).trans a4; have q6 := (hb2.cell (p := ⟨b, off + n * 13 + 5, none⟩) hbb).trans a5; have q7 := (hb2.cell (p := ⟨b, off + n * 13 + 6, none⟩) hbb).trans a6; have q8 := (hb2.cell (p := ⟨b, off + n * 13 + 7, none⟩) hbb).trans a7; have q9 := (hb2.cell (p := ⟨b, off + n * 13 + 8, none⟩) hbb).trans a8; have q10 := (hb2.cell (p := ⟨b, off + n * 13 + 9, none⟩) hbb).trans a9; have q11 := (hb2.cell (p := ⟨b, off + n * 13 + 10, none⟩) hbb).trans a10; have q12 := (hb2.cell (p := ⟨b, off + n * 13 + 11, none⟩) hbb).trans a11; have q13 := (hb2.cell (p := ⟨b, off + n * 13 + 12, none⟩) hbb).trans a12; have q14 := (hb2.cell (p := ⟨g, K * 2, none⟩) zg).trans epc; have qf0 := (hb2.frozen (p := ⟨w.heap.size + 1, 0, none⟩) zrw1).trans (frw1 0); have qf1 := (hb2.frozen (p := ⟨w.heap.size + 1, 1, none⟩) zrw1).trans (frw1 1); have qf2 := (hb2.frozen (p := ⟨w.heap.size + 1, 2, none⟩) zrw1).trans (frw1 2); have qg0 : (w2.cell? ⟨w.heap.size + 1, 0, none⟩).isSome = true := (by rw [hb2.cell (p := ⟨w.heap.size + 1, 0, none⟩) zrw1]; exact g0); have qg1 : (w2.cell? ⟨w.heap.size + 1, 1, none⟩).isSome = true := (by rw [hb2.cell (p := ⟨w.heap.size + 1, 1, none⟩) zrw1]; exact g1); have qg2 : (w2.cell? ⟨w.heap.size + 1, 2, none⟩).isSome = true := (by rw [hb2.cell (p := ⟨w.heap.size + 1, 2, none⟩) zrw1]; exact g2); have qv0 := cellv_of qg0; have qv1 := cellv_of qg1; have qv2 := cellv_of qg2; clear qg0 qg1 qg2))
      go_wp2_with fail
      (try simp only [Exit.inBlock, Exit.then])
      exact bodyPost_ret (v := .tuple #[.agg #[.int .i64 ((c.at K (flyN c K).1).x), .int .i64 ((c.at K (flyN c K).1).y), .int .i64 ((c.at K (flyN c K).1).z)], .int .i64 (0)]) (by simp [results, Tryz.results26, go_sem, qv0, qv1, qv2]) rfl ⟨ret_ws (by rw [HZ.out]; rfl), ((((Bw1.out.drew).trans (hb2.mono mw1)).setCell (p := ⟨w.heap.size + 1, 0, none⟩) (by simp) _).setCell (p := ⟨w.heap.size + 1, 1, none⟩) (by simp) _).setCell (p := ⟨w.heap.size + 1, 2, none⟩) (by simp) _⟩
    · have hk' : inB k 0 x.cy = false := by simpa using hk
      have hq : (!inB k 0 x.cy) = true := by simp [hk']
      have HZ : Hid (wheR x n k = (⟨0, 0, 0⟩, 8)) := Lib.hid (by unfold wheR; rw [if_neg (by rw [HX.out]; decide), if_pos hk'])
      clear hk hk' hcy hn
      go_enter Tryz.func26, Tryz.ntmps26
      go_wp2_with fail
      have hsz : ∀ a b, ((w.alloc a).alloc b).heap.size = w.heap.size + 1 + 1 := by intro a b; simp
      obtain ⟨X1, hX1⟩ : ∃ X1, X1 = (w.alloc (.cells #[.int .i64 x.cy, .int .i64 x.gr, .slice A x.cs.length cap] 24)).alloc (.cells #[.int .i64 0, .int .i64 0, .int .i64 0] 46) := ⟨_, rfl⟩
      have BX1 : Hid (Below w.heap.size w X1) := Lib.hid (by rw [hX1]; exact ((Below.refl _ _).alloc (Nat.le_refl _) _).alloc (by simp) _)
      have zxX1 : w.heap.size < X1.heap.size := by rw [hX1]; simp <;> omega
      have xX1_0 : X1.cell? ⟨w.heap.size, 0, none⟩ = some (.int .i64 x.cy) := by rw [hX1]; go_simp
      have xX1_1 : X1.cell? ⟨w.heap.size, 1, none⟩ = some (.int .i64 x.gr) := by rw [hX1]; go_simp
      have xX1_2 : X1.cell? ⟨w.heap.size, 2, none⟩ = some (.slice A x.cs.length cap) := by rw [hX1]; go_simp
      have zrX1 : w.heap.size + 1 < X1.heap.size := by rw [hX1]; simp <;> omega
      have rX1_0 : X1.cell? ⟨w.heap.size + 1, 0, none⟩ = some (.int .i64 0) := by rw [hX1]; go_simp
      have rX1_1 : X1.cell? ⟨w.heap.size + 1, 1, none⟩ = some (.int .i64 0) := by rw [hX1]; go_simp
      have rX1_2 : X1.cell? ⟨w.heap.size + 1, 2, none⟩ = some (.int .i64 0) := by rw [hX1]; go_simp
      have frX1 : ∀ i, X1.frozen? ⟨w.heap.size + 1, i, none⟩ = false := by intro i; rw [hX1]; go_simp
      have mX1 : w.heap.size ≤ X1.heap.size := by rw [hX1]; simp <;> omega
      have sX1 : X1.heap.size = w.heap.size + 1 + 1 := by rw [hX1]; simp
      rw [← hX1]
      clear hX1 hsz
      have IX1 := Lib.hid (hc.below BX1.out)
      clear hc
      refine (path22 x A cap n X1 (IX1.out.mono mX1) hcap).mono ?_
      rintro e w1 ⟨PA, pc, rfl, hown, hw1⟩
      have HO := Lib.hid hown
      clear hown
      have Bw1 : Hid (Below w.heap.size w w1) := Lib.hid (BX1.out.trans ((hw1).mono mX1))
      have mw1 : w.heap.size ≤ w1.heap.size := Nat.le_trans mX1 (hw1).size
      have zxw1 : w.heap.size < w1.heap.size := Nat.lt_of_lt_of_le zxX1 (hw1).size
      have xw1_0 := ((hw1).cell (p := ⟨w.heap.size, 0, none⟩) zxX1).trans xX1_0
      have xw1_1 := ((hw1).cell (p := ⟨w.heap.size, 1, none⟩) zxX1).trans xX1_1
      have xw1_2 := ((hw1).cell (p := ⟨w.heap.size, 2, none⟩) zxX1).trans xX1_2
      have zrw1 : w.heap.size + 1 < w1.heap.size := Nat.lt_of_lt_of_le zrX1 (hw1).size
      have rw1_0 := ((hw1).cell (p := ⟨w.heap.size + 1, 0, none⟩) zrX1).trans rX1_0
      have rw1_1 := ((hw1).cell (p := ⟨w.heap.size + 1, 1, none⟩) zrX1).trans rX1_1
      have rw1_2 := ((hw1).cell (p := ⟨w.heap.size + 1, 2, none⟩) zrX1).trans rX1_2
      have frw1 : ∀ i, w1.frozen? ⟨w.heap.size + 1, i, none⟩ = false := fun i => ((hw1).frozen (p := ⟨w.heap.size + 1, i, none⟩) zrX1).trans (frX1 i)
      have Iw1 := Lib.hid (IX1.out.below ((hw1).mono mX1))
      clear BX1 mX1 xX1_0 xX1_1 xX1_2 zxX1 rX1_0 rX1_1 rX1_2 frX1 zrX1 IX1
      rw [HP.out] at HO ⊢
      clear HO
      go_wp2_with fail
      refine (outside71 k 0 x.cy _).mono ?_
      rintro e wS ⟨rfl, rfl⟩
      go_wp2_with fail
      (try simp only [Exit.inBlock, Exit.then])
      exact bodyPost_ret (v := .tuple #[.agg #[.int .i64 (0), .int .i64 (0), .int .i64 (0)], .int .i64 (8)]) (by simp [results, Tryz.results26, go_sem, rw1_0, rw1_1, rw1_2]) rfl ⟨ret_ws HZ.out, (((Bw1.out).setCell (p := ⟨w.heap.size + 1, 0, none⟩) (by simp) _).setCell (p := ⟨w.heap.size + 1, 1, none⟩) (by simp) _).setCell (p := ⟨w.heap.size + 1, 2, none⟩) (by simp) _⟩
  · have hq : ((pathR x i).2 != 0) = true := by simp [hx]
    have HZ : Hid (wheR x i k = (⟨0, 0, 0⟩, (pathR x i).2)) := Lib.hid (by unfold wheR; rw [if_pos hx])
    clear hx
    go_enter Tryz.func26, Tryz.ntmps26
    go_wp2_with fail
    have hsz : ∀ a b, ((w.alloc a).alloc b).heap.size = w.heap.size + 1 + 1 := by intro a b; simp
    obtain ⟨X1, hX1⟩ : ∃ X1, X1 = (w.alloc (.cells #[.int .i64 x.cy, .int .i64 x.gr, .slice A x.cs.length cap] 24)).alloc (.cells #[.int .i64 0, .int .i64 0, .int .i64 0] 46) := ⟨_, rfl⟩
    have BX1 : Hid (Below w.heap.size w X1) := Lib.hid (by rw [hX1]; exact ((Below.refl _ _).alloc (Nat.le_refl _) _).alloc (by simp) _)
    have zxX1 : w.heap.size < X1.heap.size := by rw [hX1]; simp <;> omega
    have xX1_0 : X1.cell? ⟨w.heap.size, 0, none⟩ = some (.int .i64 x.cy) := by rw [hX1]; go_simp
    have xX1_1 : X1.cell? ⟨w.heap.size, 1, none⟩ = some (.int .i64 x.gr) := by rw [hX1]; go_simp
    have xX1_2 : X1.cell? ⟨w.heap.size, 2, none⟩ = some (.slice A x.cs.length cap) := by rw [hX1]; go_simp
    have zrX1 : w.heap.size + 1 < X1.heap.size := by rw [hX1]; simp <;> omega
    have rX1_0 : X1.cell? ⟨w.heap.size + 1, 0, none⟩ = some (.int .i64 0) := by rw [hX1]; go_simp
    have rX1_1 : X1.cell? ⟨w.heap.size + 1, 1, none⟩ = some (.int .i64 0) := by rw [hX1]; go_simp
    have rX1_2 : X1.cell? ⟨w.heap.size + 1, 2, none⟩ = some (.int .i64 0) := by rw [hX1]; go_simp
    have frX1 : ∀ i, X1.frozen? ⟨w.heap.size + 1, i, none⟩ = false := by intro i; rw [hX1]; go_simp
    have mX1 : w.heap.size ≤ X1.heap.size := by rw [hX1]; simp <;> omega
    have sX1 : X1.heap.size = w.heap.size + 1 + 1 := by rw [hX1]; simp
    rw [← hX1]
    clear hX1 hsz
    have IX1 := Lib.hid (hc.below BX1.out)
    clear hc
    refine (path22 x A cap i X1 (IX1.out.mono mX1) hcap).mono ?_
    rintro e w1 ⟨PA, pc, rfl, hown, hw1⟩
    have HO := Lib.hid hown
    clear hown
    have Bw1 : Hid (Below w.heap.size w w1) := Lib.hid (BX1.out.trans ((hw1).mono mX1))
    have mw1 : w.heap.size ≤ w1.heap.size := Nat.le_trans mX1 (hw1).size
    have zxw1 : w.heap.size < w1.heap.size := Nat.lt_of_lt_of_le zxX1 (hw1).size
    have xw1_0 := ((hw1).cell (p := ⟨w.heap.size, 0, none⟩) zxX1).trans xX1_0
    have xw1_1 := ((hw1).cell (p := ⟨w.heap.size, 1, none⟩) zxX1).trans xX1_1
    have xw1_2 := ((hw1).cell (p := ⟨w.heap.size, 2, none⟩) zxX1).trans xX1_2
    have zrw1 : w.heap.size + 1 < w1.heap.size := Nat.lt_of_lt_of_le zrX1 (hw1).size
    have rw1_0 := ((hw1).cell (p := ⟨w.heap.size + 1, 0, none⟩) zrX1).trans rX1_0
    have rw1_1 := ((hw1).cell (p := ⟨w.heap.size + 1, 1, none⟩) zrX1).trans rX1_1
    have rw1_2 := ((hw1).cell (p := ⟨w.heap.size + 1, 2, none⟩) zrX1).trans rX1_2
    have frw1 : ∀ i, w1.frozen? ⟨w.heap.size + 1, i, none⟩ = false := fun i => ((hw1).frozen (p := ⟨w.heap.size + 1, i, none⟩) zrX1).trans (frX1 i)
    have Iw1 := Lib.hid (IX1.out.below ((hw1).mono mX1))
    clear BX1 mX1 xX1_0 xX1_1 xX1_2 zxX1 rX1_0 rX1_1 rX1_2 frX1 zrX1 IX1
    clear HO
    go_wp2_with fail
    (try simp only [Exit.inBlock, Exit.then])
    exact bodyPost_ret (v := .tuple #[.agg #[.int .i64 (0), .int .i64 (0), .int .i64 (0)], .int .i64 ((pathR x i).2)]) (by simp [results, Tryz.results26, go_sem, rw1_0, rw1_1, rw1_2]) rfl ⟨ret_ws HZ.out, (((Bw1.out).setCell (p := ⟨w.heap.size + 1, 0, none⟩) (by simp) _).setCell (p := ⟨w.heap.size + 1, 1, none⟩) (by simp) _).setCell (p := ⟨w.heap.size + 1, 2, none⟩) (by simp) _⟩
end Go.Proofs.YtnnnpliigdfipaaGreatDoor
