/- The values of WhisperExamples. -/
import Derived.Test.YtlbchidgadcmpaaRows
import Derived.WalkKit
import Derived.WalkLawsBesides
import Derived.WalkSpells
import Derived.ProofKit
import Derived.Below
import Derived.Outline
import Derived.Lib.Hide
import Derived.Deep.RegionWith
import Derived.Deep.RegionHeld3
import Derived.Deep.DrawnRows
import Derived.StillTailTactics
import Derived.BigQuiet
import Derived.Deep.QuietTactic
import Derived.Deep.LoopGhost
import Derived.IntWalk
import Derived.Test.YtlbchidgadcmpaaWhR
import Derived.Test.YtlbchidgadcmpaaWhO
import Derived.Test.YtlbchidgadcmpaaKS
import Derived.Deep.DeepCutAuto
import Derived.Deep.CutBlock
import Derived.WalkKit
import Derived.ProofKit
import Derived.OpenShut
import Derived.ShutString
import Derived.ChangeOld
import Derived.Below
import Derived.Lib.SmallJoins
namespace Go.Proofs.Ytlbchidgadcmpaa
open Go.RowKit
attribute [local go_sem ↓] Go.wp_at_zero Go.wp_at_succ
attribute [local go_sem] wrap_lit

def lad (k : Nat) : List Int := (List.range k).map fun i => 3 * ((i : Nat) : Int) + 1
def ste (k : Nat) : List Int := (List.range k).map fun i => 4 * ((i : Nat) : Int) + 3
theorem lad_step (k : Nat) : lad (k + 1) = lad k ++ [3 * (k : Int) + 1] := by simp [lad, List.range_succ]
theorem ste_step (k : Nat) : ste (k + 1) = ste k ++ [4 * (k : Int) + 3] := by simp [ste, List.range_succ]
def whole : List (Int × Int) := [(0, 255)]
def z65 : List Int := List.replicate 65 0
def s33 : List (Int × Int) := List.replicate 33 (0, 0)
theorem made2 (n j : Nat) (h : j < n) : (madeCells #[Value.int .i64 0, .int .i64 0] n)[j]? = some (.int .i64 0) := by
  rcases Nat.mod_two_eq_zero_or_one j with e | e <;> simp [madeCells, h, e]
theorem flat33 : flatS s33 = List.replicate 66 0 := by decide
theorem made33 (W : World) : Is .i64 (W.alloc (.cells (madeCells #[.int .i64 0, .int .i64 0] 66) 44)) (W.heap.size + 1) (some ⟨W.heap.size, 0, none⟩) (flatS s33) := fun _ => by
  refine ⟨W.heap.size, 0, rfl, by omega, fun j hj => ?_⟩
  rw [flat33] at hj ⊢
  rw [List.length_replicate] at hj
  rw [nth_zero, World.cell?_alloc_at _ _ _ _ rfl]
  simpa using made2 66 j hj
theorem acc_cap {w : World} {base n : Nat} {e : TypeId} {v : Value} {ys : List Int} (h : Acc .i64 w base e 1 v n ys) (hn : 0 < n) : ∃ g cp, v = .slice (some ⟨g, 0, none⟩) n cp ∧ n ≤ cp ∧ Is .i64 w w.heap.size (some ⟨g, 0, none⟩) ys := by
  obtain ⟨A, C, e1, ho⟩ := h.own
  obtain ⟨hl, h0 | ⟨g, cp, cur, rfl, hb, hh, hc, -⟩⟩ := h
  · obtain ⟨-, h0⟩ := h0; omega
  · cases e1
    exact ⟨g, _, rfl, hc, ho.is⟩
theorem yE_a : rpE [] [0] = 3 := by decide
theorem yE_b : rpE s33 [] = 4 := by decide
theorem yE_c : rpE [(3, 3)] z65 = 1 := by decide
theorem yE_d : rpE whole z65 = 4 := by decide
theorem yE_e : rpE whole [255, 256] = 1 := by decide
theorem yV_e : wsV whole [255, 256] = 0 := by unfold wsV; rw [rpL_bad (by rw [yE_e]; decide)]; rfl
theorem yE_f : ckT [(0, 256)] = 1 := by decide
theorem yB_f : tlB [(0, 256)] = false := by unfold tlB; rw [yE_f]; rfl
theorem yE_g : ckT [(-1, 5)] = 1 := by decide
theorem yB_g : tlB [(-1, 5)] = false := by unfold tlB; rw [yE_g]; rfl
theorem yE_o : rpE whole [] = 0 := by decide
theorem yV_o : wsV whole [] = 0 := by unfold wsV; rw [rpL_ok yE_o]; decide
set_option maxRecDepth 100000 in
theorem yE_h : plE z65 0 = 4 := by decide +kernel
set_option maxRecDepth 100000 in
theorem yE_i : plE [0] 0 = 1 := by decide +kernel
set_option maxRecDepth 100000 in
theorem yE_j : plE [] 0 = 1 := by decide +kernel
set_option maxRecDepth 100000 in
theorem yE_m : plE [7, 7] 1 = 9 := by decide +kernel
set_option maxRecDepth 100000 in
theorem yE_p : plE [] 1 = 0 := by decide +kernel
set_option maxRecDepth 100000 in
theorem yE_q : plE (lad 3) 1 = 0 := by decide +kernel
set_option maxRecDepth 100000 in
theorem yE_r : plE [255, 1] 1 = 0 := by decide +kernel
set_option maxRecDepth 100000 in
theorem ykW0 : Wd (Al (lad 33) 1) 0 = 3 := by decide +kernel
set_option maxRecDepth 100000 in
theorem ykW3 : Wd (Al (lad 33) 1) 3 = 6 := by decide +kernel
set_option maxRecDepth 100000 in
theorem ykW6 : Wd (Al (lad 33) 1) 6 = 9 := by decide +kernel
set_option maxRecDepth 100000 in
theorem ykW9 : Wd (Al (lad 33) 1) 9 = 12 := by decide +kernel
set_option maxRecDepth 100000 in
theorem ykW12 : Wd (Al (lad 33) 1) 12 = 15 := by decide +kernel
set_option maxRecDepth 100000 in
theorem ykW15 : Wd (Al (lad 33) 1) 15 = 18 := by decide +kernel
set_option maxRecDepth 100000 in
theorem ykW18 : Wd (Al (lad 33) 1) 18 = 21 := by decide +kernel
set_option maxRecDepth 100000 in
theorem ykW21 : Wd (Al (lad 33) 1) 21 = 24 := by decide +kernel
set_option maxRecDepth 100000 in
theorem ykW24 : Wd (Al (lad 33) 1) 24 = 27 := by decide +kernel
set_option maxRecDepth 100000 in
theorem ykW27 : Wd (Al (lad 33) 1) 27 = 30 := by decide +kernel
set_option maxRecDepth 100000 in
theorem ykW30 : Wd (Al (lad 33) 1) 30 = 33 := by decide +kernel
set_option maxRecDepth 100000 in
theorem ykW33 : Wd (Al (lad 33) 1) 33 = 36 := by decide +kernel
set_option maxRecDepth 100000 in
theorem ykW36 : Wd (Al (lad 33) 1) 36 = 39 := by decide +kernel
set_option maxRecDepth 100000 in
theorem ykW39 : Wd (Al (lad 33) 1) 39 = 42 := by decide +kernel
set_option maxRecDepth 100000 in
theorem ykW42 : Wd (Al (lad 33) 1) 42 = 45 := by decide +kernel
set_option maxRecDepth 100000 in
theorem ykW45 : Wd (Al (lad 33) 1) 45 = 48 := by decide +kernel
set_option maxRecDepth 100000 in
theorem ykW48 : Wd (Al (lad 33) 1) 48 = 51 := by decide +kernel
set_option maxRecDepth 100000 in
theorem ykW51 : Wd (Al (lad 33) 1) 51 = 54 := by decide +kernel
set_option maxRecDepth 100000 in
theorem ykW54 : Wd (Al (lad 33) 1) 54 = 57 := by decide +kernel
set_option maxRecDepth 100000 in
theorem ykW57 : Wd (Al (lad 33) 1) 57 = 60 := by decide +kernel
set_option maxRecDepth 100000 in
theorem ykW60 : Wd (Al (lad 33) 1) 60 = 63 := by decide +kernel
set_option maxRecDepth 100000 in
theorem ykW63 : Wd (Al (lad 33) 1) 63 = 66 := by decide +kernel
set_option maxRecDepth 100000 in
theorem ykW66 : Wd (Al (lad 33) 1) 66 = 69 := by decide +kernel
set_option maxRecDepth 100000 in
theorem ykW69 : Wd (Al (lad 33) 1) 69 = 72 := by decide +kernel
set_option maxRecDepth 100000 in
theorem ykW72 : Wd (Al (lad 33) 1) 72 = 75 := by decide +kernel
set_option maxRecDepth 100000 in
theorem ykW75 : Wd (Al (lad 33) 1) 75 = 78 := by decide +kernel
set_option maxRecDepth 100000 in
theorem ykW78 : Wd (Al (lad 33) 1) 78 = 81 := by decide +kernel
set_option maxRecDepth 100000 in
theorem ykW81 : Wd (Al (lad 33) 1) 81 = 84 := by decide +kernel
set_option maxRecDepth 100000 in
theorem ykW84 : Wd (Al (lad 33) 1) 84 = 87 := by decide +kernel
set_option maxRecDepth 100000 in
theorem ykW87 : Wd (Al (lad 33) 1) 87 = 90 := by decide +kernel
set_option maxRecDepth 100000 in
theorem ykW90 : Wd (Al (lad 33) 1) 90 = 93 := by decide +kernel
set_option maxRecDepth 100000 in
theorem ykW93 : Wd (Al (lad 33) 1) 93 = 96 := by decide +kernel
set_option maxRecDepth 100000 in
theorem ykW96 : Wd (Al (lad 33) 1) 96 = 255 := by decide +kernel
theorem yk_255 : F (Al (lad 33) 1) 255 = 0 := rfl
theorem yk_96 : F (Al (lad 33) 1) 96 = 1 := by rw [F_in _ (by decide), ykW96, yk_255]
theorem yk_93 : F (Al (lad 33) 1) 93 = 2 := by rw [F_in _ (by decide), ykW93, yk_96]
theorem yk_90 : F (Al (lad 33) 1) 90 = 3 := by rw [F_in _ (by decide), ykW90, yk_93]
theorem yk_87 : F (Al (lad 33) 1) 87 = 4 := by rw [F_in _ (by decide), ykW87, yk_90]
theorem yk_84 : F (Al (lad 33) 1) 84 = 5 := by rw [F_in _ (by decide), ykW84, yk_87]
theorem yk_81 : F (Al (lad 33) 1) 81 = 6 := by rw [F_in _ (by decide), ykW81, yk_84]
theorem yk_78 : F (Al (lad 33) 1) 78 = 7 := by rw [F_in _ (by decide), ykW78, yk_81]
theorem yk_75 : F (Al (lad 33) 1) 75 = 8 := by rw [F_in _ (by decide), ykW75, yk_78]
theorem yk_72 : F (Al (lad 33) 1) 72 = 9 := by rw [F_in _ (by decide), ykW72, yk_75]
theorem yk_69 : F (Al (lad 33) 1) 69 = 10 := by rw [F_in _ (by decide), ykW69, yk_72]
theorem yk_66 : F (Al (lad 33) 1) 66 = 11 := by rw [F_in _ (by decide), ykW66, yk_69]
theorem yk_63 : F (Al (lad 33) 1) 63 = 12 := by rw [F_in _ (by decide), ykW63, yk_66]
theorem yk_60 : F (Al (lad 33) 1) 60 = 13 := by rw [F_in _ (by decide), ykW60, yk_63]
theorem yk_57 : F (Al (lad 33) 1) 57 = 14 := by rw [F_in _ (by decide), ykW57, yk_60]
theorem yk_54 : F (Al (lad 33) 1) 54 = 15 := by rw [F_in _ (by decide), ykW54, yk_57]
theorem yk_51 : F (Al (lad 33) 1) 51 = 16 := by rw [F_in _ (by decide), ykW51, yk_54]
theorem yk_48 : F (Al (lad 33) 1) 48 = 17 := by rw [F_in _ (by decide), ykW48, yk_51]
theorem yk_45 : F (Al (lad 33) 1) 45 = 18 := by rw [F_in _ (by decide), ykW45, yk_48]
theorem yk_42 : F (Al (lad 33) 1) 42 = 19 := by rw [F_in _ (by decide), ykW42, yk_45]
theorem yk_39 : F (Al (lad 33) 1) 39 = 20 := by rw [F_in _ (by decide), ykW39, yk_42]
theorem yk_36 : F (Al (lad 33) 1) 36 = 21 := by rw [F_in _ (by decide), ykW36, yk_39]
theorem yk_33 : F (Al (lad 33) 1) 33 = 22 := by rw [F_in _ (by decide), ykW33, yk_36]
theorem yk_30 : F (Al (lad 33) 1) 30 = 23 := by rw [F_in _ (by decide), ykW30, yk_33]
theorem yk_27 : F (Al (lad 33) 1) 27 = 24 := by rw [F_in _ (by decide), ykW27, yk_30]
theorem yk_24 : F (Al (lad 33) 1) 24 = 25 := by rw [F_in _ (by decide), ykW24, yk_27]
theorem yk_21 : F (Al (lad 33) 1) 21 = 26 := by rw [F_in _ (by decide), ykW21, yk_24]
theorem yk_18 : F (Al (lad 33) 1) 18 = 27 := by rw [F_in _ (by decide), ykW18, yk_21]
theorem yk_15 : F (Al (lad 33) 1) 15 = 28 := by rw [F_in _ (by decide), ykW15, yk_18]
theorem yk_12 : F (Al (lad 33) 1) 12 = 29 := by rw [F_in _ (by decide), ykW12, yk_15]
theorem yk_9 : F (Al (lad 33) 1) 9 = 30 := by rw [F_in _ (by decide), ykW9, yk_12]
theorem yk_6 : F (Al (lad 33) 1) 6 = 31 := by rw [F_in _ (by decide), ykW6, yk_9]
theorem yk_3 : F (Al (lad 33) 1) 3 = 32 := by rw [F_in _ (by decide), ykW3, yk_6]
theorem yk_0 : F (Al (lad 33) 1) 0 = 33 := by rw [F_in _ (by decide), ykW0, yk_3]
set_option maxRecDepth 100000 in
theorem ylW0 : Wd (Al (ste 64) 2) 0 = 10 := by decide +kernel
set_option maxRecDepth 100000 in
theorem ylW10 : Wd (Al (ste 64) 2) 10 = 18 := by decide +kernel
set_option maxRecDepth 100000 in
theorem ylW18 : Wd (Al (ste 64) 2) 18 = 26 := by decide +kernel
set_option maxRecDepth 100000 in
theorem ylW26 : Wd (Al (ste 64) 2) 26 = 34 := by decide +kernel
set_option maxRecDepth 100000 in
theorem ylW34 : Wd (Al (ste 64) 2) 34 = 42 := by decide +kernel
set_option maxRecDepth 100000 in
theorem ylW42 : Wd (Al (ste 64) 2) 42 = 50 := by decide +kernel
set_option maxRecDepth 100000 in
theorem ylW50 : Wd (Al (ste 64) 2) 50 = 58 := by decide +kernel
set_option maxRecDepth 100000 in
theorem ylW58 : Wd (Al (ste 64) 2) 58 = 66 := by decide +kernel
set_option maxRecDepth 100000 in
theorem ylW66 : Wd (Al (ste 64) 2) 66 = 74 := by decide +kernel
set_option maxRecDepth 100000 in
theorem ylW74 : Wd (Al (ste 64) 2) 74 = 82 := by decide +kernel
set_option maxRecDepth 100000 in
theorem ylW82 : Wd (Al (ste 64) 2) 82 = 90 := by decide +kernel
set_option maxRecDepth 100000 in
theorem ylW90 : Wd (Al (ste 64) 2) 90 = 98 := by decide +kernel
set_option maxRecDepth 100000 in
theorem ylW98 : Wd (Al (ste 64) 2) 98 = 106 := by decide +kernel
set_option maxRecDepth 100000 in
theorem ylW106 : Wd (Al (ste 64) 2) 106 = 114 := by decide +kernel
set_option maxRecDepth 100000 in
theorem ylW114 : Wd (Al (ste 64) 2) 114 = 122 := by decide +kernel
set_option maxRecDepth 100000 in
theorem ylW122 : Wd (Al (ste 64) 2) 122 = 130 := by decide +kernel
set_option maxRecDepth 100000 in
theorem ylW130 : Wd (Al (ste 64) 2) 130 = 138 := by decide +kernel
set_option maxRecDepth 100000 in
theorem ylW138 : Wd (Al (ste 64) 2) 138 = 146 := by decide +kernel
set_option maxRecDepth 100000 in
theorem ylW146 : Wd (Al (ste 64) 2) 146 = 154 := by decide +kernel
set_option maxRecDepth 100000 in
theorem ylW154 : Wd (Al (ste 64) 2) 154 = 162 := by decide +kernel
set_option maxRecDepth 100000 in
theorem ylW162 : Wd (Al (ste 64) 2) 162 = 170 := by decide +kernel
set_option maxRecDepth 100000 in
theorem ylW170 : Wd (Al (ste 64) 2) 170 = 178 := by decide +kernel
set_option maxRecDepth 100000 in
theorem ylW178 : Wd (Al (ste 64) 2) 178 = 186 := by decide +kernel
set_option maxRecDepth 100000 in
theorem ylW186 : Wd (Al (ste 64) 2) 186 = 194 := by decide +kernel
set_option maxRecDepth 100000 in
theorem ylW194 : Wd (Al (ste 64) 2) 194 = 202 := by decide +kernel
set_option maxRecDepth 100000 in
theorem ylW202 : Wd (Al (ste 64) 2) 202 = 210 := by decide +kernel
set_option maxRecDepth 100000 in
theorem ylW210 : Wd (Al (ste 64) 2) 210 = 218 := by decide +kernel
set_option maxRecDepth 100000 in
theorem ylW218 : Wd (Al (ste 64) 2) 218 = 226 := by decide +kernel
set_option maxRecDepth 100000 in
theorem ylW226 : Wd (Al (ste 64) 2) 226 = 234 := by decide +kernel
set_option maxRecDepth 100000 in
theorem ylW234 : Wd (Al (ste 64) 2) 234 = 242 := by decide +kernel
set_option maxRecDepth 100000 in
theorem ylW242 : Wd (Al (ste 64) 2) 242 = 250 := by decide +kernel
set_option maxRecDepth 100000 in
theorem ylW250 : Wd (Al (ste 64) 2) 250 = 255 := by decide +kernel
theorem yl_255 : F (Al (ste 64) 2) 255 = 0 := rfl
theorem yl_250 : F (Al (ste 64) 2) 250 = 1 := by rw [F_in _ (by decide), ylW250, yl_255]
theorem yl_242 : F (Al (ste 64) 2) 242 = 2 := by rw [F_in _ (by decide), ylW242, yl_250]
theorem yl_234 : F (Al (ste 64) 2) 234 = 3 := by rw [F_in _ (by decide), ylW234, yl_242]
theorem yl_226 : F (Al (ste 64) 2) 226 = 4 := by rw [F_in _ (by decide), ylW226, yl_234]
theorem yl_218 : F (Al (ste 64) 2) 218 = 5 := by rw [F_in _ (by decide), ylW218, yl_226]
theorem yl_210 : F (Al (ste 64) 2) 210 = 6 := by rw [F_in _ (by decide), ylW210, yl_218]
theorem yl_202 : F (Al (ste 64) 2) 202 = 7 := by rw [F_in _ (by decide), ylW202, yl_210]
theorem yl_194 : F (Al (ste 64) 2) 194 = 8 := by rw [F_in _ (by decide), ylW194, yl_202]
theorem yl_186 : F (Al (ste 64) 2) 186 = 9 := by rw [F_in _ (by decide), ylW186, yl_194]
theorem yl_178 : F (Al (ste 64) 2) 178 = 10 := by rw [F_in _ (by decide), ylW178, yl_186]
theorem yl_170 : F (Al (ste 64) 2) 170 = 11 := by rw [F_in _ (by decide), ylW170, yl_178]
theorem yl_162 : F (Al (ste 64) 2) 162 = 12 := by rw [F_in _ (by decide), ylW162, yl_170]
theorem yl_154 : F (Al (ste 64) 2) 154 = 13 := by rw [F_in _ (by decide), ylW154, yl_162]
theorem yl_146 : F (Al (ste 64) 2) 146 = 14 := by rw [F_in _ (by decide), ylW146, yl_154]
theorem yl_138 : F (Al (ste 64) 2) 138 = 15 := by rw [F_in _ (by decide), ylW138, yl_146]
theorem yl_130 : F (Al (ste 64) 2) 130 = 16 := by rw [F_in _ (by decide), ylW130, yl_138]
theorem yl_122 : F (Al (ste 64) 2) 122 = 17 := by rw [F_in _ (by decide), ylW122, yl_130]
theorem yl_114 : F (Al (ste 64) 2) 114 = 18 := by rw [F_in _ (by decide), ylW114, yl_122]
theorem yl_106 : F (Al (ste 64) 2) 106 = 19 := by rw [F_in _ (by decide), ylW106, yl_114]
theorem yl_98 : F (Al (ste 64) 2) 98 = 20 := by rw [F_in _ (by decide), ylW98, yl_106]
theorem yl_90 : F (Al (ste 64) 2) 90 = 21 := by rw [F_in _ (by decide), ylW90, yl_98]
theorem yl_82 : F (Al (ste 64) 2) 82 = 22 := by rw [F_in _ (by decide), ylW82, yl_90]
theorem yl_74 : F (Al (ste 64) 2) 74 = 23 := by rw [F_in _ (by decide), ylW74, yl_82]
theorem yl_66 : F (Al (ste 64) 2) 66 = 24 := by rw [F_in _ (by decide), ylW66, yl_74]
theorem yl_58 : F (Al (ste 64) 2) 58 = 25 := by rw [F_in _ (by decide), ylW58, yl_66]
theorem yl_50 : F (Al (ste 64) 2) 50 = 26 := by rw [F_in _ (by decide), ylW50, yl_58]
theorem yl_42 : F (Al (ste 64) 2) 42 = 27 := by rw [F_in _ (by decide), ylW42, yl_50]
theorem yl_34 : F (Al (ste 64) 2) 34 = 28 := by rw [F_in _ (by decide), ylW34, yl_42]
theorem yl_26 : F (Al (ste 64) 2) 26 = 29 := by rw [F_in _ (by decide), ylW26, yl_34]
theorem yl_18 : F (Al (ste 64) 2) 18 = 30 := by rw [F_in _ (by decide), ylW18, yl_26]
theorem yl_10 : F (Al (ste 64) 2) 10 = 31 := by rw [F_in _ (by decide), ylW10, yl_18]
theorem yl_0 : F (Al (ste 64) 2) 0 = 32 := by rw [F_in _ (by decide), ylW0, yl_10]
set_option maxRecDepth 100000 in
theorem yl6W6 : Wd (Al (ste 64) 2) 6 = 14 := by decide +kernel
set_option maxRecDepth 100000 in
theorem yl6W14 : Wd (Al (ste 64) 2) 14 = 22 := by decide +kernel
set_option maxRecDepth 100000 in
theorem yl6W22 : Wd (Al (ste 64) 2) 22 = 30 := by decide +kernel
set_option maxRecDepth 100000 in
theorem yl6W30 : Wd (Al (ste 64) 2) 30 = 38 := by decide +kernel
set_option maxRecDepth 100000 in
theorem yl6W38 : Wd (Al (ste 64) 2) 38 = 46 := by decide +kernel
set_option maxRecDepth 100000 in
theorem yl6W46 : Wd (Al (ste 64) 2) 46 = 54 := by decide +kernel
set_option maxRecDepth 100000 in
theorem yl6W54 : Wd (Al (ste 64) 2) 54 = 62 := by decide +kernel
set_option maxRecDepth 100000 in
theorem yl6W62 : Wd (Al (ste 64) 2) 62 = 70 := by decide +kernel
set_option maxRecDepth 100000 in
theorem yl6W70 : Wd (Al (ste 64) 2) 70 = 78 := by decide +kernel
set_option maxRecDepth 100000 in
theorem yl6W78 : Wd (Al (ste 64) 2) 78 = 86 := by decide +kernel
set_option maxRecDepth 100000 in
theorem yl6W86 : Wd (Al (ste 64) 2) 86 = 94 := by decide +kernel
set_option maxRecDepth 100000 in
theorem yl6W94 : Wd (Al (ste 64) 2) 94 = 102 := by decide +kernel
set_option maxRecDepth 100000 in
theorem yl6W102 : Wd (Al (ste 64) 2) 102 = 110 := by decide +kernel
set_option maxRecDepth 100000 in
theorem yl6W110 : Wd (Al (ste 64) 2) 110 = 118 := by decide +kernel
set_option maxRecDepth 100000 in
theorem yl6W118 : Wd (Al (ste 64) 2) 118 = 126 := by decide +kernel
set_option maxRecDepth 100000 in
theorem yl6W126 : Wd (Al (ste 64) 2) 126 = 134 := by decide +kernel
set_option maxRecDepth 100000 in
theorem yl6W134 : Wd (Al (ste 64) 2) 134 = 142 := by decide +kernel
set_option maxRecDepth 100000 in
theorem yl6W142 : Wd (Al (ste 64) 2) 142 = 150 := by decide +kernel
set_option maxRecDepth 100000 in
theorem yl6W150 : Wd (Al (ste 64) 2) 150 = 158 := by decide +kernel
set_option maxRecDepth 100000 in
theorem yl6W158 : Wd (Al (ste 64) 2) 158 = 166 := by decide +kernel
set_option maxRecDepth 100000 in
theorem yl6W166 : Wd (Al (ste 64) 2) 166 = 174 := by decide +kernel
set_option maxRecDepth 100000 in
theorem yl6W174 : Wd (Al (ste 64) 2) 174 = 182 := by decide +kernel
set_option maxRecDepth 100000 in
theorem yl6W182 : Wd (Al (ste 64) 2) 182 = 190 := by decide +kernel
set_option maxRecDepth 100000 in
theorem yl6W190 : Wd (Al (ste 64) 2) 190 = 198 := by decide +kernel
set_option maxRecDepth 100000 in
theorem yl6W198 : Wd (Al (ste 64) 2) 198 = 206 := by decide +kernel
set_option maxRecDepth 100000 in
theorem yl6W206 : Wd (Al (ste 64) 2) 206 = 214 := by decide +kernel
set_option maxRecDepth 100000 in
theorem yl6W214 : Wd (Al (ste 64) 2) 214 = 222 := by decide +kernel
set_option maxRecDepth 100000 in
theorem yl6W222 : Wd (Al (ste 64) 2) 222 = 230 := by decide +kernel
set_option maxRecDepth 100000 in
theorem yl6W230 : Wd (Al (ste 64) 2) 230 = 238 := by decide +kernel
set_option maxRecDepth 100000 in
theorem yl6W238 : Wd (Al (ste 64) 2) 238 = 246 := by decide +kernel
set_option maxRecDepth 100000 in
theorem yl6W246 : Wd (Al (ste 64) 2) 246 = 254 := by decide +kernel
set_option maxRecDepth 100000 in
theorem yl6W254 : Wd (Al (ste 64) 2) 254 = 255 := by decide +kernel
theorem yl6_255 : F (Al (ste 64) 2) 255 = 0 := rfl
theorem yl6_254 : F (Al (ste 64) 2) 254 = 1 := by rw [F_in _ (by decide), yl6W254, yl6_255]
theorem yl6_246 : F (Al (ste 64) 2) 246 = 2 := by rw [F_in _ (by decide), yl6W246, yl6_254]
theorem yl6_238 : F (Al (ste 64) 2) 238 = 3 := by rw [F_in _ (by decide), yl6W238, yl6_246]
theorem yl6_230 : F (Al (ste 64) 2) 230 = 4 := by rw [F_in _ (by decide), yl6W230, yl6_238]
theorem yl6_222 : F (Al (ste 64) 2) 222 = 5 := by rw [F_in _ (by decide), yl6W222, yl6_230]
theorem yl6_214 : F (Al (ste 64) 2) 214 = 6 := by rw [F_in _ (by decide), yl6W214, yl6_222]
theorem yl6_206 : F (Al (ste 64) 2) 206 = 7 := by rw [F_in _ (by decide), yl6W206, yl6_214]
theorem yl6_198 : F (Al (ste 64) 2) 198 = 8 := by rw [F_in _ (by decide), yl6W198, yl6_206]
theorem yl6_190 : F (Al (ste 64) 2) 190 = 9 := by rw [F_in _ (by decide), yl6W190, yl6_198]
theorem yl6_182 : F (Al (ste 64) 2) 182 = 10 := by rw [F_in _ (by decide), yl6W182, yl6_190]
theorem yl6_174 : F (Al (ste 64) 2) 174 = 11 := by rw [F_in _ (by decide), yl6W174, yl6_182]
theorem yl6_166 : F (Al (ste 64) 2) 166 = 12 := by rw [F_in _ (by decide), yl6W166, yl6_174]
theorem yl6_158 : F (Al (ste 64) 2) 158 = 13 := by rw [F_in _ (by decide), yl6W158, yl6_166]
theorem yl6_150 : F (Al (ste 64) 2) 150 = 14 := by rw [F_in _ (by decide), yl6W150, yl6_158]
theorem yl6_142 : F (Al (ste 64) 2) 142 = 15 := by rw [F_in _ (by decide), yl6W142, yl6_150]
theorem yl6_134 : F (Al (ste 64) 2) 134 = 16 := by rw [F_in _ (by decide), yl6W134, yl6_142]
theorem yl6_126 : F (Al (ste 64) 2) 126 = 17 := by rw [F_in _ (by decide), yl6W126, yl6_134]
theorem yl6_118 : F (Al (ste 64) 2) 118 = 18 := by rw [F_in _ (by decide), yl6W118, yl6_126]
theorem yl6_110 : F (Al (ste 64) 2) 110 = 19 := by rw [F_in _ (by decide), yl6W110, yl6_118]
theorem yl6_102 : F (Al (ste 64) 2) 102 = 20 := by rw [F_in _ (by decide), yl6W102, yl6_110]
theorem yl6_94 : F (Al (ste 64) 2) 94 = 21 := by rw [F_in _ (by decide), yl6W94, yl6_102]
theorem yl6_86 : F (Al (ste 64) 2) 86 = 22 := by rw [F_in _ (by decide), yl6W86, yl6_94]
theorem yl6_78 : F (Al (ste 64) 2) 78 = 23 := by rw [F_in _ (by decide), yl6W78, yl6_86]
theorem yl6_70 : F (Al (ste 64) 2) 70 = 24 := by rw [F_in _ (by decide), yl6W70, yl6_78]
theorem yl6_62 : F (Al (ste 64) 2) 62 = 25 := by rw [F_in _ (by decide), yl6W62, yl6_70]
theorem yl6_54 : F (Al (ste 64) 2) 54 = 26 := by rw [F_in _ (by decide), yl6W54, yl6_62]
theorem yl6_46 : F (Al (ste 64) 2) 46 = 27 := by rw [F_in _ (by decide), yl6W46, yl6_54]
theorem yl6_38 : F (Al (ste 64) 2) 38 = 28 := by rw [F_in _ (by decide), yl6W38, yl6_46]
theorem yl6_30 : F (Al (ste 64) 2) 30 = 29 := by rw [F_in _ (by decide), yl6W30, yl6_38]
theorem yl6_22 : F (Al (ste 64) 2) 22 = 30 := by rw [F_in _ (by decide), yl6W22, yl6_30]
theorem yl6_14 : F (Al (ste 64) 2) 14 = 31 := by rw [F_in _ (by decide), yl6W14, yl6_22]
theorem yl6_6 : F (Al (ste 64) 2) 6 = 32 := by rw [F_in _ (by decide), yl6W6, yl6_14]
set_option maxRecDepth 100000 in
theorem ylW7 : Wd (Al (ste 64) 2) 7 = 18 := by decide +kernel
theorem yF7 : F (Al (ste 64) 2) 7 = 31 := by rw [F_in _ (by decide), ylW7, yl_18]
theorem yF0 : F (Al (ste 64) 2) 0 = 32 := yl_0
theorem yF6 : F (Al (ste 64) 2) (7 - 1) = 32 := yl6_6
set_option maxRecDepth 100000 in
theorem yf_k : ∀ s : Nat, s < 255 → (cnt (lad 33) s ((s + 1 : Nat) : Int) : Int) ≤ 1 := by decide +kernel
set_option maxRecDepth 100000 in
theorem yf_l : ∀ s : Nat, s < 255 → (cnt (ste 64) s ((s + 1 : Nat) : Int) : Int) ≤ 2 := by decide +kernel
theorem yc_k : ckN (lad 33) = 0 := by decide +kernel
theorem yc_l : ckN (ste 64) = 0 := by decide +kernel
theorem yE_k : plE (lad 33) 1 = 4 := plE_4 yc_k (by decide) yf_k (by rw [yk_0]; decide)
theorem yE_l : plE (ste 64) 2 = 0 := plE_ok.2 ⟨yc_l, by decide, fun s hs => by have := yf_l s hs; push_cast at this; exact this, by rw [yF0]; decide⟩
theorem yL_l : ∃ l, plL (ste 64) 2 = (0, 7) :: l ∧ l.length = 31 := by
  have hP := fits_pl yE_l
  have h := pl_len yE_l
  rw [yF0] at h
  have e : ∃ l, plL (ste 64) 2 = (0, 7) :: l := by
    have h1 := Pl_to hP (x := 0) (y := 7) (by decide) (by decide) (by decide) (by rw [yF0, yF7]) (yF6.trans yF0.symm)
    have h2 := plL_ok yE_l
    generalize Pl (Al (ste 64) 2) 7 = t at h1
    generalize Pl (Al (ste 64) 2) 0 = t0 at h1 h2
    subst h1
    exact ⟨t.map fun p => ((p.1 : Int), (p.2 : Int)), by rw [h2]; rfl⟩
  obtain ⟨l, e⟩ := e
  rw [e] at h
  exact ⟨l, e, by simpa using h⟩
set_option maxRecDepth 100000 in
theorem yFp_0 : F (Al [] 1) 0 = 1 := by decide +kernel
set_option maxRecDepth 100000 in
theorem yFp_255 : F (Al [] 1) 255 = 0 := by decide +kernel
set_option maxRecDepth 100000 in
theorem yGp_255 : F (Al [] 1) (255 - 1) = 1 := by decide +kernel
theorem yL_p : plL [] 1 = [(0, 255)] := by
  have hP := fits_pl yE_p
  rw [plL_ok yE_p, Pl_to hP (x := 0) (y := 255) (by decide) (by decide) (by decide) (by rw [yFp_0, yFp_255]) (yGp_255.trans yFp_0.symm), Pl_end]
  rfl
set_option maxRecDepth 100000 in
theorem yFq_0 : F (Al (lad 3) 1) 0 = 3 := by decide +kernel
set_option maxRecDepth 100000 in
theorem yFq_1 : F (Al (lad 3) 1) 1 = 2 := by decide +kernel
set_option maxRecDepth 100000 in
theorem yFq_4 : F (Al (lad 3) 1) 4 = 1 := by decide +kernel
set_option maxRecDepth 100000 in
theorem yFq_255 : F (Al (lad 3) 1) 255 = 0 := by decide +kernel
set_option maxRecDepth 100000 in
theorem yGq_1 : F (Al (lad 3) 1) (1 - 1) = 3 := by decide +kernel
set_option maxRecDepth 100000 in
theorem yGq_4 : F (Al (lad 3) 1) (4 - 1) = 2 := by decide +kernel
set_option maxRecDepth 100000 in
theorem yGq_255 : F (Al (lad 3) 1) (255 - 1) = 1 := by decide +kernel
theorem yL_q : plL (lad 3) 1 = [(0, 1), (1, 4), (4, 255)] := by
  have hP := fits_pl yE_q
  rw [plL_ok yE_q, Pl_to hP (x := 0) (y := 1) (by decide) (by decide) (by decide) (by rw [yFq_0, yFq_1]) (yGq_1.trans yFq_0.symm), Pl_to hP (x := 1) (y := 4) (by decide) (by decide) (by decide) (by rw [yFq_1, yFq_4]) (yGq_4.trans yFq_1.symm), Pl_to hP (x := 4) (y := 255) (by decide) (by decide) (by decide) (by rw [yFq_4, yFq_255]) (yGq_255.trans yFq_4.symm), Pl_end]
  rfl
set_option maxRecDepth 100000 in
theorem yFr_0 : F (Al [255, 1] 1) 0 = 2 := by decide +kernel
set_option maxRecDepth 100000 in
theorem yFr_1 : F (Al [255, 1] 1) 1 = 1 := by decide +kernel
set_option maxRecDepth 100000 in
theorem yFr_255 : F (Al [255, 1] 1) 255 = 0 := by decide +kernel
set_option maxRecDepth 100000 in
theorem yGr_1 : F (Al [255, 1] 1) (1 - 1) = 2 := by decide +kernel
set_option maxRecDepth 100000 in
theorem yGr_255 : F (Al [255, 1] 1) (255 - 1) = 1 := by decide +kernel
theorem yL_r : plL [255, 1] 1 = [(0, 1), (1, 255)] := by
  have hP := fits_pl yE_r
  rw [plL_ok yE_r, Pl_to hP (x := 0) (y := 1) (by decide) (by decide) (by decide) (by rw [yFr_0, yFr_1]) (yGr_1.trans yFr_0.symm), Pl_to hP (x := 1) (y := 255) (by decide) (by decide) (by decide) (by rw [yFr_1, yFr_255]) (yGr_255.trans yFr_1.symm), Pl_end]
  rfl
end Go.Proofs.Ytlbchidgadcmpaa
