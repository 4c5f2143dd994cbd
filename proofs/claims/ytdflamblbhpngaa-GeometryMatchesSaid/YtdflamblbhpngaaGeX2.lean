/- GeometryMatches returns true for every input. -/
import Derived.Test.YtdflamblbhpngaaRows
import Derived.WalkKit
import Derived.WalkLawsBesides
import Derived.WalkSpells
import Derived.ProofKit
import Derived.Below
import Derived.Outline
import Derived.Lib.Hide
import Derived.Deep.RegionWith
import Derived.Deep.RegionHeld3
import Derived.Deep.DrawnRows
import Derived.StillTailTactics
import Derived.BigQuiet
import Derived.Deep.QuietTactic
import Derived.Deep.LoopGhost
import Derived.IntWalk
import Derived.Test.YtdflamblbhpngaaGeV
import Derived.Test.YtdflamblbhpngaaKO
import Derived.WalkKit
import Derived.ProofKit
import Derived.OpenShut
import Derived.ShutString
import Derived.ChangeOld
import Derived.Below
import Derived.Lib.SmallJoins
namespace Go.Proofs.Ytdflamblbhpngaa
open Go.RowKit
attribute [local go_sem ↓] Go.wp_at_zero Go.wp_at_succ
attribute [local go_sem] wrap_lit

set_option maxRecDepth 100000 in
set_option maxHeartbeats 4000000 in
theorem matches7 (p q v : V3) (t : Int) (w : World) : Calls Try.prog 7 #[.agg #[.int .i64 p.x, .int .i64 p.y, .int .i64 p.z], .agg #[.int .i64 q.x, .int .i64 q.y, .int .i64 q.z], .agg #[.int .i64 v.x, .int .i64 v.y, .int .i64 v.z], .int .i64 t] w fun e w' => e = .returned (.bool true) ∧ Below w.heap.size w w' := by
  have T0 := Lib.hid (slant25 p q)
  have T1 := Lib.hid (slant26 p q)
  have T2 := Lib.hid (slant27 p q)
  have T3 := Lib.hid (slant28 p q)
  have T4 := Lib.hid (move29 p v t)
  have T5 := Lib.hid (move30 p v t)
  generalize slG p q = c1 at *
  generalize s2G p q = c2 at *
  generalize erS p q = c3 at *
  generalize mvR p v t = m at *
  generalize mvE p v t = c5 at *
  go_enter Try.func7, Try.ntmps7
  go_wp2_with fail
  refine (T0.out _).mono ?_
  rintro e w1 ⟨rfl, hb1⟩
  have hc1 := (bcell hb1).1
  have hf1 := (bcell hb1).2
  have hs1 := hb1.size
  try simp at hs1
  have hz1_0 : w.heap.size < w1.heap.size := by omega
  have hz1_1 : w.heap.size + 1 < w1.heap.size := by omega
  have hz1_2 : w.heap.size + 1 + 1 < w1.heap.size := by omega
  have B1 : Below w.heap.size w w1 := ((((Below.refl _ _).alloc (Nat.le_refl _) _).alloc (by first | omega | (simp; omega) | simp) _).alloc (by first | omega | (simp; omega) | simp) _).trans (hb1.mono (by first | omega | (simp; omega) | simp))
  go_wp2_with fail
  refine (T1.out _).mono ?_
  rintro e w2 ⟨rfl, hb2⟩
  have hc2 := (bcell hb2).1
  have hf2 := (bcell hb2).2
  have hs2 := hb2.size
  try simp at hs2
  have hz2_0 : w.heap.size < w2.heap.size := by omega
  have hz2_1 : w.heap.size + 1 < w2.heap.size := by omega
  have hz2_2 : w.heap.size + 1 + 1 < w2.heap.size := by omega
  have B2 : Below w.heap.size w w2 := (B1).trans (hb2.mono (by first | omega | (simp; omega) | simp))
  go_wp2_with fail
  refine (T2.out _).mono ?_
  rintro e w3 ⟨rfl, hb3⟩
  have hc3 := (bcell hb3).1
  have hf3 := (bcell hb3).2
  have hs3 := hb3.size
  try simp at hs3
  have hz3_0 : w.heap.size < w3.heap.size := by omega
  have hz3_1 : w.heap.size + 1 < w3.heap.size := by omega
  have hz3_2 : w.heap.size + 1 + 1 < w3.heap.size := by omega
  have B3 : Below w.heap.size w w3 := (B2).trans (hb3.mono (by first | omega | (simp; omega) | simp))
  go_wp2_with fail
  refine (T3.out _).mono ?_
  rintro e w4 ⟨rfl, hb4⟩
  have hc4 := (bcell hb4).1
  have hf4 := (bcell hb4).2
  have hs4 := hb4.size
  try simp at hs4
  have hz4_0 : w.heap.size < w4.heap.size := by omega
  have hz4_1 : w.heap.size + 1 < w4.heap.size := by omega
  have hz4_2 : w.heap.size + 1 + 1 < w4.heap.size := by omega
  have B4 : Below w.heap.size w w4 := (B3).trans (hb4.mono (by first | omega | (simp; omega) | simp))
  go_wp2_with fail
  refine (T4.out _).mono ?_
  rintro e w5 ⟨rfl, hb5⟩
  have hc5 := (bcell hb5).1
  have hf5 := (bcell hb5).2
  have hs5 := hb5.size
  try simp at hs5
  have hz5_0 : w.heap.size < w5.heap.size := by omega
  have hz5_1 : w.heap.size + 1 < w5.heap.size := by omega
  have hz5_2 : w.heap.size + 1 + 1 < w5.heap.size := by omega
  have B5 : Below w.heap.size w w5 := (B4).trans (hb5.mono (by first | omega | (simp; omega) | simp))
  go_wp2_with fail
  refine (T5.out _).mono ?_
  rintro e w6 ⟨rfl, hb6⟩
  have hc6 := (bcell hb6).1
  have hf6 := (bcell hb6).2
  have hs6 := hb6.size
  try simp at hs6
  have hz6_0 : w.heap.size < w6.heap.size := by omega
  have hz6_1 : w.heap.size + 1 < w6.heap.size := by omega
  have hz6_2 : w.heap.size + 1 + 1 < w6.heap.size := by omega
  have hz6_3 : w5.heap.size < w6.heap.size := by omega
  have B6 : Below w.heap.size w w6 := (B5.alloc (by first | omega | (simp; omega) | simp) _).trans (hb6.mono (by first | omega | (simp; omega) | simp))
  go_wp2_with fail
  obtain ⟨X, hX⟩ : ∃ X, X = w6.alloc (.cells #[.int .i64 m.x, .int .i64 m.y, .int .i64 m.z] 23) := ⟨_, rfl⟩
  have k_0 : X.cell? ⟨w.heap.size, 0, none⟩ = some (.int .i64 p.x) := by rw [hX]; go_simp
  have k_1 : X.cell? ⟨w.heap.size, 1, none⟩ = some (.int .i64 p.y) := by rw [hX]; go_simp
  have k_2 : X.cell? ⟨w.heap.size, 2, none⟩ = some (.int .i64 p.z) := by rw [hX]; go_simp
  have k_3 : X.cell? ⟨w.heap.size + 1 + 1, 0, none⟩ = some (.int .i64 v.x) := by rw [hX]; go_simp
  have k_4 : X.cell? ⟨w.heap.size + 1 + 1, 1, none⟩ = some (.int .i64 v.y) := by rw [hX]; go_simp
  have k_5 : X.cell? ⟨w.heap.size + 1 + 1, 2, none⟩ = some (.int .i64 v.z) := by rw [hX]; go_simp
  have k_6 : X.cell? ⟨w5.heap.size, 0, none⟩ = some (.int .i64 m.x) := by rw [hX]; go_simp
  have k_7 : X.cell? ⟨w5.heap.size, 1, none⟩ = some (.int .i64 m.y) := by rw [hX]; go_simp
  have k_8 : X.cell? ⟨w5.heap.size, 2, none⟩ = some (.int .i64 m.z) := by rw [hX]; go_simp
  have k_9 : X.cell? ⟨w6.heap.size, 0, none⟩ = some (.int .i64 m.x) := by rw [hX]; go_simp
  have k_10 : X.cell? ⟨w6.heap.size, 1, none⟩ = some (.int .i64 m.y) := by rw [hX]; go_simp
  have k_11 : X.cell? ⟨w6.heap.size, 2, none⟩ = some (.int .i64 m.z) := by rw [hX]; go_simp
  have zX_0 : w.heap.size < X.heap.size := by rw [hX]; simp <;> omega
  have zX_1 : w.heap.size + 1 + 1 < X.heap.size := by rw [hX]; simp <;> omega
  have zX_2 : w5.heap.size < X.heap.size := by rw [hX]; simp <;> omega
  have zX_3 : w6.heap.size < X.heap.size := by rw [hX]; simp <;> omega
  have BX : Below w.heap.size w X := by rw [hX]; exact B6.alloc (by first | omega | (simp; omega) | simp) _
  rw [← hX]
  clear hX
  go_region_held3 (fun w' => w'.cell? ⟨w.heap.size, 0, none⟩ = some (.int .i64 p.x) ∧ w'.cell? ⟨w.heap.size, 1, none⟩ = some (.int .i64 p.y) ∧ w'.cell? ⟨w.heap.size, 2, none⟩ = some (.int .i64 p.z) ∧ w'.cell? ⟨w.heap.size + 1 + 1, 0, none⟩ = some (.int .i64 v.x) ∧ w'.cell? ⟨w.heap.size + 1 + 1, 1, none⟩ = some (.int .i64 v.y) ∧ w'.cell? ⟨w.heap.size + 1 + 1, 2, none⟩ = some (.int .i64 v.z) ∧ w'.cell? ⟨w5.heap.size, 0, none⟩ = some (.int .i64 m.x) ∧ w'.cell? ⟨w5.heap.size, 1, none⟩ = some (.int .i64 m.y) ∧ w'.cell? ⟨w5.heap.size, 2, none⟩ = some (.int .i64 m.z) ∧ w'.cell? ⟨w6.heap.size, 0, none⟩ = some (.int .i64 m.x) ∧ w'.cell? ⟨w6.heap.size, 1, none⟩ = some (.int .i64 m.y) ∧ w'.cell? ⟨w6.heap.size, 2, none⟩ = some (.int .i64 m.z)) (first | exact ⟨k_0, k_1, k_2, k_3, k_4, k_5, k_6, k_7, k_8, k_9, k_10, k_11⟩ | exact ⟨r15_0, r15_1, r15_2, r15_3, r15_4, r15_5, r15_6, r15_7, r15_8, r15_9, r15_10, r15_11⟩ | exact ⟨r14_0, r14_1, r14_2, r14_3, r14_4, r14_5, r14_6, r14_7, r14_8, r14_9, r14_10, r14_11⟩ | exact ⟨r13_0, r13_1, r13_2, r13_3, r13_4, r13_5, r13_6, r13_7, r13_8, r13_9, r13_10, r13_11⟩ | exact ⟨r12_0, r12_1, r12_2, r12_3, r12_4, r12_5, r12_6, r12_7, r12_8, r12_9, r12_10, r12_11⟩ | exact ⟨r11_0, r11_1, r11_2, r11_3, r11_4, r11_5, r11_6, r11_7, r11_8, r11_9, r11_10, r11_11⟩ | go_keep) (first
    | ((with_reducible refine (chkB31 p _).mono ?_); rintro e w11 ⟨rfl, hb11⟩; have hs11 := hb11.size; (try simp at hs11); have z11_0 : w.heap.size < w11.heap.size := (by omega); have z11_1 : w.heap.size + 1 + 1 < w11.heap.size := (by omega); have z11_2 : w5.heap.size < w11.heap.size := (by omega); have z11_3 : w6.heap.size < w11.heap.size := (by omega); have r11_0 := (hb11.cell (p := ⟨w.heap.size, 0, none⟩) zX_0).trans k_0; have r11_1 := (hb11.cell (p := ⟨w.heap.size, 1, none⟩) zX_0).trans k_1; have r11_2 := (hb11.cell (p := ⟨w.heap.size, 2, none⟩) zX_0).trans k_2; have r11_3 := (hb11.cell (p := ⟨w.heap.size + 1 + 1, 0, none⟩) zX_1).trans k_3; have r11_4 := (hb11.cell (p := ⟨w.heap.size + 1 + 1, 1, none⟩) zX_1).trans k_4; have r11_5 := (hb11.cell (p := ⟨w.heap.size + 1 + 1, 2, none⟩) zX_1).trans k_5; have r11_6 := (hb11.cell (p := ⟨w5.heap.size, 0, none⟩) zX_2).trans k_6; have r11_7 := (hb11.cell (p := ⟨w5.heap.size, 1, none⟩) zX_2).trans k_7; have r11_8 := (hb11.cell (p := ⟨w5.heap.size, 2, none⟩) zX_2).trans k_8; have r11_9 := (hb11.cell (p := ⟨w6.heap.size, 0, none⟩) zX_3).trans k_9; have r11_10 := (hb11.cell (p := ⟨w6.heap.size, 1, none⟩) zX_3).trans k_10; have r11_11 := (hb11.cell (p := ⟨w6.heap.size, 2, none⟩) zX_3).trans k_11)
    | ((with_reducible refine (chkB32 p _).mono ?_); rintro e w12 ⟨rfl, hb12⟩; have hs12 := hb12.size; (try simp at hs12); have z12_0 : w.heap.size < w12.heap.size := (by omega); have z12_1 : w.heap.size + 1 + 1 < w12.heap.size := (by omega); have z12_2 : w5.heap.size < w12.heap.size := (by omega); have z12_3 : w6.heap.size < w12.heap.size := (by omega); have r12_0 := (hb12.cell (p := ⟨w.heap.size, 0, none⟩) z11_0).trans r11_0; have r12_1 := (hb12.cell (p := ⟨w.heap.size, 1, none⟩) z11_0).trans r11_1; have r12_2 := (hb12.cell (p := ⟨w.heap.size, 2, none⟩) z11_0).trans r11_2; have r12_3 := (hb12.cell (p := ⟨w.heap.size + 1 + 1, 0, none⟩) z11_1).trans r11_3; have r12_4 := (hb12.cell (p := ⟨w.heap.size + 1 + 1, 1, none⟩) z11_1).trans r11_4; have r12_5 := (hb12.cell (p := ⟨w.heap.size + 1 + 1, 2, none⟩) z11_1).trans r11_5; have r12_6 := (hb12.cell (p := ⟨w5.heap.size, 0, none⟩) z11_2).trans r11_6; have r12_7 := (hb12.cell (p := ⟨w5.heap.size, 1, none⟩) z11_2).trans r11_7; have r12_8 := (hb12.cell (p := ⟨w5.heap.size, 2, none⟩) z11_2).trans r11_8; have r12_9 := (hb12.cell (p := ⟨w6.heap.size, 0, none⟩) z11_3).trans r11_9; have r12_10 := (hb12.cell (p := ⟨w6.heap.size, 1, none⟩) z11_3).trans r11_10; have r12_11 := (hb12.cell (p := ⟨w6.heap.size, 2, none⟩) z11_3).trans r11_11)
    | ((with_reducible refine (chkB33 v _).mono ?_); rintro e w13 ⟨rfl, hb13⟩; have hs13 := hb13.size; (try simp at hs13); have z13_0 : w.heap.size < w13.heap.size := (by omega); have z13_1 : w.heap.size + 1 + 1 < w13.heap.size := (by omega); have z13_2 : w5.heap.size < w13.heap.size := (by omega); have z13_3 : w6.heap.size < w13.heap.size := (by omega); have r13_0 := (hb13.cell (p := ⟨w.heap.size, 0, none⟩) z12_0).trans r12_0; have r13_1 := (hb13.cell (p := ⟨w.heap.size, 1, none⟩) z12_0).trans r12_1; have r13_2 := (hb13.cell (p := ⟨w.heap.size, 2, none⟩) z12_0).trans r12_2; have r13_3 := (hb13.cell (p := ⟨w.heap.size + 1 + 1, 0, none⟩) z12_1).trans r12_3; have r13_4 := (hb13.cell (p := ⟨w.heap.size + 1 + 1, 1, none⟩) z12_1).trans r12_4; have r13_5 := (hb13.cell (p := ⟨w.heap.size + 1 + 1, 2, none⟩) z12_1).trans r12_5; have r13_6 := (hb13.cell (p := ⟨w5.heap.size, 0, none⟩) z12_2).trans r12_6; have r13_7 := (hb13.cell (p := ⟨w5.heap.size, 1, none⟩) z12_2).trans r12_7; have r13_8 := (hb13.cell (p := ⟨w5.heap.size, 2, none⟩) z12_2).trans r12_8; have r13_9 := (hb13.cell (p := ⟨w6.heap.size, 0, none⟩) z12_3).trans r12_9; have r13_10 := (hb13.cell (p := ⟨w6.heap.size, 1, none⟩) z12_3).trans r12_10; have r13_11 := (hb13.cell (p := ⟨w6.heap.size, 2, none⟩) z12_3).trans r12_11)
    | ((with_reducible refine (chkB34 v _).mono ?_); rintro e w14 ⟨rfl, hb14⟩; have hs14 := hb14.size; (try simp at hs14); have z14_0 : w.heap.size < w14.heap.size := (by omega); have z14_1 : w.heap.size + 1 + 1 < w14.heap.size := (by omega); have z14_2 : w5.heap.size < w14.heap.size := (by omega); have z14_3 : w6.heap.size < w14.heap.size := (by omega); have r14_0 := (hb14.cell (p := ⟨w.heap.size, 0, none⟩) z13_0).trans r13_0; have r14_1 := (hb14.cell (p := ⟨w.heap.size, 1, none⟩) z13_0).trans r13_1; have r14_2 := (hb14.cell (p := ⟨w.heap.size, 2, none⟩) z13_0).trans r13_2; have r14_3 := (hb14.cell (p := ⟨w.heap.size + 1 + 1, 0, none⟩) z13_1).trans r13_3; have r14_4 := (hb14.cell (p := ⟨w.heap.size + 1 + 1, 1, none⟩) z13_1).trans r13_4; have r14_5 := (hb14.cell (p := ⟨w.heap.size + 1 + 1, 2, none⟩) z13_1).trans r13_5; have r14_6 := (hb14.cell (p := ⟨w5.heap.size, 0, none⟩) z13_2).trans r13_6; have r14_7 := (hb14.cell (p := ⟨w5.heap.size, 1, none⟩) z13_2).trans r13_7; have r14_8 := (hb14.cell (p := ⟨w5.heap.size, 2, none⟩) z13_2).trans r13_8; have r14_9 := (hb14.cell (p := ⟨w6.heap.size, 0, none⟩) z13_3).trans r13_9; have r14_10 := (hb14.cell (p := ⟨w6.heap.size, 1, none⟩) z13_3).trans r13_10; have r14_11 := (hb14.cell (p := ⟨w6.heap.size, 2, none⟩) z13_3).trans r13_11)
    | ((with_reducible refine (awake18 _).mono ?_); rintro e w15 ⟨rfl, hb15⟩; have hs15 := hb15.size; (try simp at hs15); have z15_0 : w.heap.size < w15.heap.size := (by omega); have z15_1 : w.heap.size + 1 + 1 < w15.heap.size := (by omega); have z15_2 : w5.heap.size < w15.heap.size := (by omega); have z15_3 : w6.heap.size < w15.heap.size := (by omega); have r15_0 := (hb15.cell (p := ⟨w.heap.size, 0, none⟩) z14_0).trans r14_0; have r15_1 := (hb15.cell (p := ⟨w.heap.size, 1, none⟩) z14_0).trans r14_1; have r15_2 := (hb15.cell (p := ⟨w.heap.size, 2, none⟩) z14_0).trans r14_2; have r15_3 := (hb15.cell (p := ⟨w.heap.size + 1 + 1, 0, none⟩) z14_1).trans r14_3; have r15_4 := (hb15.cell (p := ⟨w.heap.size + 1 + 1, 1, none⟩) z14_1).trans r14_4; have r15_5 := (hb15.cell (p := ⟨w.heap.size + 1 + 1, 2, none⟩) z14_1).trans r14_5; have r15_6 := (hb15.cell (p := ⟨w5.heap.size, 0, none⟩) z14_2).trans r14_6; have r15_7 := (hb15.cell (p := ⟨w5.heap.size, 1, none⟩) z14_2).trans r14_7; have r15_8 := (hb15.cell (p := ⟨w5.heap.size, 2, none⟩) z14_2).trans r14_8; have r15_9 := (hb15.cell (p := ⟨w6.heap.size, 0, none⟩) z14_3).trans r14_9; have r15_10 := (hb15.cell (p := ⟨w6.heap.size, 1, none⟩) z14_3).trans r14_10; have r15_11 := (hb15.cell (p := ⟨w6.heap.size, 2, none⟩) z14_3).trans r14_11))
  go_wp2_with fail
  go_ret
  exact ⟨rfl, (((((BX.trans (Below.trans (Below.drew (Below.refl w.heap.size X)) (hb11.mono (by show _ ≤ X.heap.size; omega)))).trans (hb12.mono (by omega))).trans (hb13.mono (by omega))).trans (hb14.mono (by omega)))).trans (hb15.mono (by omega))⟩

namespace geometryMatchesRow
open Go.ChangeShapes Go.WideShapes Go.ChangeAt Go.RowKit
open Go.ChangeMaps (open_string shut_string)
set_option linter.unusedVariables false
theorem own : ownKnob Try.prog.godebug = none := by kernel_rfl
theorem laidOut : laidOutB Try.prog = true := by kernel_rfl
set_option maxRecDepth 100000 in
theorem lifted (os : Os) (started : os.Started) (H : Type) (enc : TypeId × Value → H) :
    ReturnsInHanded {} Try.checked os 7 .any (Rows.geometryMatchesSpec.pre6 enc Try.prog Try.f7 Rows.geometryMatchesRow.domain false) (Rows.geometryMatchesSpec.post enc Try.prog Try.f7 false true false false) := by
  refine returnsInHanded_of_change (C := Try.checked) own started (by kernel_rfl) Try.func7
    (ChangeSpec.witness6 (enc := enc) (C := Try.checked) false ⟨#[], #[.agg #[.int .i64 0, .int .i64 0, .int .i64 0], .agg #[.int .i64 0, .int .i64 0, .int .i64 0], .agg #[.int .i64 0, .int .i64 0, .int .i64 0], .int .i64 0], []⟩ 8 (by kernel_rfl) (by kernel_rfl) (by kernel_rfl) (by kernel_rfl)) ?_
  intro W base args ds gs before hval0 hW hcnd _hsz
  have hval : ∀ (j : Nat) t v, Try.f7.params[j]? = some t → args[j]? = some v → Value.okWide Try.prog W .any base t v := hval0
  have hW' := hW
  obtain ⟨p, q, hA0, hV, rfl, hfz, hnd⟩ := hW
  have hA : DataW.TrodAll enc Try.prog W 0 (fun _ => true) true Try.f7.params.toList args.toList ds p := hA0
  rw [Try.params7] at hA hval
  obtain ⟨v0, vs0, d0, ds0, p0, q0, hargs, rfl, rfl, h0, r0⟩ := trodAll_cons hA
  obtain ⟨v1, vs1, d1, ds1, p1, q1, rfl, rfl, rfl, h1, r1⟩ := trodAll_cons r0
  obtain ⟨v2, vs2, d2, ds2, p2, q2, rfl, rfl, rfl, h2, r2⟩ := trodAll_cons r1
  obtain ⟨v3, vs3, d3, ds3, p3, q3, rfl, rfl, rfl, h3, r3⟩ := trodAll_cons r2
  obtain ⟨rfl, rfl, rfl⟩ := trodAll_nil r3
  obtain rfl : args = #[v0, v1, v2, v3] := by cases args; simp_all
  obtain ⟨rfl, rfl⟩ := trodVars_none hV
  have k0 := h0
  have lt0 : ∀ x ∈ p0, x.block < W.heap.size := by obtain ⟨m, hm⟩ := k0; exact DataW.trod_lt m _ _ _ hm
  have k1 := h1
  have lt1 : ∀ x ∈ p1, x.block < W.heap.size := by obtain ⟨m, hm⟩ := k1; exact DataW.trod_lt m _ _ _ hm
  have k2 := h2
  have lt2 : ∀ x ∈ p2, x.block < W.heap.size := by obtain ⟨m, hm⟩ := k2; exact DataW.trod_lt m _ _ _ hm
  have k3 := h3
  have lt3 : ∀ x ∈ p3, x.block < W.heap.size := by obtain ⟨m, hm⟩ := k3; exact DataW.trod_lt m _ _ _ hm
  obtain ⟨cs0, rfl, i0⟩ := open_leaves 9 [.i64, .i64, .i64] (by kernel_rfl) (by kernel_rfl) (hval 0 23 v0 rfl rfl) h0
  obtain ⟨a0_0, c0_0, rfl, w0_0, i0_0⟩ := i0
  obtain ⟨a0_1, c0_1, rfl, w0_1, i0_1⟩ := i0_0
  obtain ⟨a0_2, c0_2, rfl, w0_2, i0_2⟩ := i0_1
  obtain rfl : c0_2 = [] := i0_2
  obtain ⟨cs1, rfl, i1⟩ := open_leaves 9 [.i64, .i64, .i64] (by kernel_rfl) (by kernel_rfl) (hval 1 23 v1 rfl rfl) h1
  obtain ⟨a1_0, c1_0, rfl, w1_0, i1_0⟩ := i1
  obtain ⟨a1_1, c1_1, rfl, w1_1, i1_1⟩ := i1_0
  obtain ⟨a1_2, c1_2, rfl, w1_2, i1_2⟩ := i1_1
  obtain rfl : c1_2 = [] := i1_2
  obtain ⟨cs2, rfl, i2⟩ := open_leaves 9 [.i64, .i64, .i64] (by kernel_rfl) (by kernel_rfl) (hval 2 24 v2 rfl rfl) h2
  obtain ⟨a2_0, c2_0, rfl, w2_0, i2_0⟩ := i2
  obtain ⟨a2_1, c2_1, rfl, w2_1, i2_1⟩ := i2_0
  obtain ⟨a2_2, c2_2, rfl, w2_2, i2_2⟩ := i2_1
  obtain rfl : c2_2 = [] := i2_2
  obtain ⟨a3, rfl, -, -, w3⟩ := open_int Try.underlying3 (hval 3 3 v3 rfl rfl) h3
  clear hA0 hval0
  refine (matches7 ⟨a0_0, a0_1, a0_2⟩ ⟨a1_0, a1_1, a1_2⟩ ⟨a2_0, a2_1, a2_2⟩ a3 W).mono fun e W' ⟨he, bel⟩ => ?_
  subst he
  exact ⟨_, rfl, _, _, _, [], _, [], hW', trodAll_mk1 (shut_bool Try.underlying4 _), (trodAll_cons_mk (Below.trod laidOut (by kernel_rfl) (of_decide_eq_true (by kernel_rfl)) k0 bel lt0) (trodAll_cons_mk (Below.trod laidOut (by kernel_rfl) (of_decide_eq_true (by kernel_rfl)) k1 bel lt1) (trodAll_cons_mk (Below.trod laidOut (by kernel_rfl) (of_decide_eq_true (by kernel_rfl)) k2 bel lt2) (trodAll_cons_mk (Below.trod laidOut (by kernel_rfl) (of_decide_eq_true (by kernel_rfl)) k3 bel lt3) trodAll_mk0)))), rfl, bel.frame _, fun h => by cases h⟩

theorem over : Rows.geometryMatchesRow.holds Try.pinned (OpenSpec.ofChange Rows.geometryMatchesSpec) :=
  OpenClaim.holds_of_wide 7 Try.f7 rfl rfl rfl rfl rfl rfl rfl ⟨rfl, rfl, rfl, rfl, rfl⟩ rfl rfl rfl rfl rfl (by kernel_rfl) Try.func7 (by kernel_rfl)
    (of_decide_eq_true (by kernel_rfl)) (by unfold Func.isWrapper; first | (rw [if_pos (by decide +kernel)]; kernel_rfl) | (rw [if_neg (by decide +kernel)]; exact ⟨rfl, rfl⟩))
    (fun os started H enc _ => lifted os started H enc)
theorem proved : Rows.GeometryMatchesSaid := over
end geometryMatchesRow
end Go.Proofs.Ytdflamblbhpngaa
