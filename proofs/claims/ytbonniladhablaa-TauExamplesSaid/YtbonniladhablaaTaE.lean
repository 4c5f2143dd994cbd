/- Package tau and its reference: Horizontal and Vertical. -/
import Derived.Test.YtbonniladhablaaRows
import Derived.WalkKit
import Derived.WalkLawsBesides
import Derived.WalkSpells
import Derived.ProofKit
import Derived.Below
import Derived.Outline
import Derived.Lib.Hide
import Derived.Deep.RegionWith
import Derived.Deep.RegionHeld3
import Derived.Deep.DrawnRows
import Derived.StillTailTactics
import Derived.BigQuiet
import Derived.Deep.QuietTactic
import Derived.Deep.LoopGhost
import Derived.IntWalk
import Derived.Test.YtbonniladhablaaTaD
namespace Go.Proofs.Ytbonniladhablaa
open Go.RowKit
attribute [local go_sem ↓] Go.wp_at_zero Go.wp_at_succ
attribute [local go_sem] wrap_lit

theorem tm_bd (R V N k : Int) (hx : okX R V N) (hk0 : 0 ≤ k) (hk1 : k ≤ 8192) : 0 ≤ (tm R V N k).2.1 ∧ (tm R V N k).2.1 ≤ 34359738368 := by
  unfold tm
  rw [if_neg (fun hn => hn ⟨hx, hk0, hk1⟩)]
  obtain ⟨x1, x2, x3, x4, x5, x6⟩ := hx
  by_cases hd : R ≤ 256 * k
  · rw [if_pos hd]; simp
  · rw [if_neg hd]
    by_cases hv : 0 ≤ V
    · rw [if_pos hv]; simp
    · rw [if_neg hv]
      obtain ⟨m5, m6⟩ := mul_bd (a := R) (A := 2097152) (b := -V) (B := 16384) (by omega) (by omega) (by omega) (by omega)
      refine ⟨Int.ediv_nonneg (by omega) (by omega), Int.le_trans (Int.ediv_le_self _ (by omega)) (by omega)⟩

def hoB (R V N T Ne H Vv : Int) : Bool := if okX R V N ∧ okL T Ne H Vv then hz R V T Ne else false
def hoE (R V N T Ne H Vv : Int) : Int := if okX R V N ∧ okL T Ne H Vv then 0 else 1
def veB (a r T Ne H Vv : Int) : Bool := if okA a r ∧ okL T Ne H Vv then vt a r H Vv else false
def veE (a r T Ne H Vv : Int) : Int := if okA a r ∧ okL T Ne H Vv then 0 else 1

theorem horiz11 (R V N T Ne H Vv : Int) (w : World) : Calls Try.prog 11 #[.agg #[.int .i64 R, .int .i64 V, .int .i64 N], .agg #[.int .i64 T, .int .i64 Ne, .int .i64 H, .int .i64 Vv]] w fun e w' => e = .returned (.tuple #[.bool (hoB R V N T Ne H Vv), .int .i64 (hoE R V N T Ne H Vv)]) ∧ Below w.heap.size w w' := by
  have HC := chk17 R V N
  have HLv := level34 T Ne H Vv
  by_cases hx : okX R V N
  · rw [show chk R V N = 0 by unfold chk; rw [if_pos hx]] at HC
    have HC' := Lib.hid HC; clear HC
    by_cases hl : okL T Ne H Vv
    · rw [show lvE T Ne H Vv = 0 by unfold lvE; rw [if_pos hl]] at HLv
      have HL' := Lib.hid HLv; clear HLv
      rw [show hoB R V N T Ne H Vv = hz R V T Ne by unfold hoB; rw [if_pos ⟨hx, hl⟩], show hoE R V N T Ne H Vv = 0 by unfold hoE; rw [if_pos ⟨hx, hl⟩]]
      have HH := Lib.hid (fun w => horizontal35 R V N 0 0 T Ne H Vv w hx hl)
      clear hx hl
      go_enter Try.func11, Try.ntmps11
      go_wp2_with fail
      refine (HC'.out _).mono ?_
      rintro e w1 ⟨rfl, rfl⟩
      go_wp2_with fail
      refine (HL'.out _).mono ?_
      rintro e w2 ⟨rfl, hb2⟩
      have hbX : Below (w.alloc (.cells #[.int .i64 R, .int .i64 V, .int .i64 N] 23)).heap.size (w.alloc (.cells #[.int .i64 R, .int .i64 V, .int .i64 N] 23)) w2 := (((Below.refl _ _).alloc (Nat.le_refl _) _).alloc (by simp) _).trans (hb2.mono (by simp))
      have hbL : Below ((w.alloc (.cells #[.int .i64 R, .int .i64 V, .int .i64 N] 23)).alloc (.cells #[.int .i64 T, .int .i64 Ne, .int .i64 H, .int .i64 Vv] 27)).heap.size ((w.alloc (.cells #[.int .i64 R, .int .i64 V, .int .i64 N] 23)).alloc (.cells #[.int .i64 T, .int .i64 Ne, .int .i64 H, .int .i64 Vv] 27)) w2 := ((Below.refl _ _).alloc (Nat.le_refl _) _).trans (hb2.mono (by simp))
      have c0 : w2.cell? ⟨w.heap.size, 0, none⟩ = some (.int .i64 R) := (hbX.cell (p := ⟨w.heap.size, 0, none⟩) (by simp)).trans (World.cell?_alloc_at _ _ _ _ rfl)
      have c1 : w2.cell? ⟨w.heap.size, 1, none⟩ = some (.int .i64 V) := (hbX.cell (p := ⟨w.heap.size, 1, none⟩) (by simp)).trans (World.cell?_alloc_at _ _ _ _ rfl)
      have c2 : w2.cell? ⟨w.heap.size, 2, none⟩ = some (.int .i64 N) := (hbX.cell (p := ⟨w.heap.size, 2, none⟩) (by simp)).trans (World.cell?_alloc_at _ _ _ _ rfl)
      have d0 : w2.cell? ⟨w.heap.size + 1, 0, none⟩ = some (.int .i64 T) := (hbL.cell (p := ⟨w.heap.size + 1, 0, none⟩) (by simp)).trans (World.cell?_alloc_at _ _ _ _ (by simp))
      have d1 : w2.cell? ⟨w.heap.size + 1, 1, none⟩ = some (.int .i64 Ne) := (hbL.cell (p := ⟨w.heap.size + 1, 1, none⟩) (by simp)).trans (World.cell?_alloc_at _ _ _ _ (by simp))
      have d2 : w2.cell? ⟨w.heap.size + 1, 2, none⟩ = some (.int .i64 H) := (hbL.cell (p := ⟨w.heap.size + 1, 2, none⟩) (by simp)).trans (World.cell?_alloc_at _ _ _ _ (by simp))
      have d3 : w2.cell? ⟨w.heap.size + 1, 3, none⟩ = some (.int .i64 Vv) := (hbL.cell (p := ⟨w.heap.size + 1, 3, none⟩) (by simp)).trans (World.cell?_alloc_at _ _ _ _ (by simp))
      have hbw : Below w.heap.size w w2 := ((Below.refl _ _).alloc (Nat.le_refl _) _).trans (hbX.mono (by simp))
      have hsz := hb2.size
      clear hbX hbL hb2
      go_wp2_with fail
      refine (HH.out _).mono ?_
      rintro e w3 ⟨rfl, hb3⟩
      go_wp2_with fail
      go_ret2
      exact ⟨rfl, hbw.trans (hb3.mono (by simp at hsz ⊢; omega))⟩
    · rw [show lvE T Ne H Vv = 1 by unfold lvE; rw [if_neg hl]] at HLv
      have HL' := Lib.hid HLv; clear HLv
      rw [show hoB R V N T Ne H Vv = false by unfold hoB; rw [if_neg (fun h => hl h.2)], show hoE R V N T Ne H Vv = 1 by unfold hoE; rw [if_neg (fun h => hl h.2)]]
      clear hx hl
      go_enter Try.func11, Try.ntmps11
      go_wp2_with fail
      refine (HC'.out _).mono ?_
      rintro e w1 ⟨rfl, rfl⟩
      go_wp2_with fail
      refine (HL'.out _).mono ?_
      rintro e w2 ⟨rfl, hb2⟩
      go_wp2_with fail
      go_ret2
      exact ⟨rfl, ((((Below.refl _ _).alloc (Nat.le_refl _) _).alloc (by simp) _).alloc (by simp; omega) _).trans (hb2.mono (by simp; omega))⟩
  · rw [show chk R V N = 1 by unfold chk; rw [if_neg hx]] at HC
    have HC' := Lib.hid HC; clear HC HLv
    rw [show hoB R V N T Ne H Vv = false by unfold hoB; rw [if_neg (fun h => hx h.1)], show hoE R V N T Ne H Vv = 1 by unfold hoE; rw [if_neg (fun h => hx h.1)]]
    clear hx
    go_enter Try.func11, Try.ntmps11
    go_wp2_with fail
    refine (HC'.out _).mono ?_
    rintro e w1 ⟨rfl, rfl⟩
    go_wp2_with fail
    go_ret2
    exact ⟨rfl, by repeat' (first | exact Below.refl _ _ | assumption | refine Below.drew ?_ | refine below_drewN ?_ _ | refine Below.alloc ?_ ?_ _ | (simp <;> omega))⟩

theorem horiz12 (R V N T Ne H Vv : Int) (w : World) : Calls Try.prog 12 #[.agg #[.int .i64 R, .int .i64 V, .int .i64 N], .agg #[.int .i64 T, .int .i64 Ne, .int .i64 H, .int .i64 Vv]] w fun e w' => e = .returned (.tuple #[.bool (hoB R V N T Ne H Vv), .int .i64 (hoE R V N T Ne H Vv)]) ∧ Below w.heap.size w w' := by
  have HC := chk18 R V N
  have HLv := level36 T Ne H Vv
  by_cases hx : okX R V N
  · rw [show chk R V N = 0 by unfold chk; rw [if_pos hx]] at HC
    have HC' := Lib.hid HC; clear HC
    by_cases hl : okL T Ne H Vv
    · rw [show lvE T Ne H Vv = 0 by unfold lvE; rw [if_pos hl]] at HLv
      have HL' := Lib.hid HLv; clear HLv
      rw [show hoB R V N T Ne H Vv = hz R V T Ne by unfold hoB; rw [if_pos ⟨hx, hl⟩], show hoE R V N T Ne H Vv = 0 by unfold hoE; rw [if_pos ⟨hx, hl⟩]]
      have HT := Lib.hid (time10 R V N Ne)
      have hz0 := tm_hz R V N T Ne H Vv hx hl
      have HZ := Lib.hid hz0; clear hz0
      have HB := Lib.hid (tm_bd R V N Ne hx hl.2.2.2.2.1 (by have := hl.2.2.2.2.2.1; omega))
      have HT1 := Lib.hid (And.intro hl.1 hl.2.1)
      clear hx hl
      go_enter Try.func12, Try.ntmps12
      go_wp2_with fail
      refine (HC'.out _).mono ?_
      rintro e w1 ⟨rfl, rfl⟩
      go_wp2_with fail
      refine (HL'.out _).mono ?_
      rintro e w2 ⟨rfl, hb2⟩
      have hbX : Below (w.alloc (.cells #[.int .i64 R, .int .i64 V, .int .i64 N] 23)).heap.size (w.alloc (.cells #[.int .i64 R, .int .i64 V, .int .i64 N] 23)) w2 := (((Below.refl _ _).alloc (Nat.le_refl _) _).alloc (by simp) _).trans (hb2.mono (by simp))
      have hbL : Below ((w.alloc (.cells #[.int .i64 R, .int .i64 V, .int .i64 N] 23)).alloc (.cells #[.int .i64 T, .int .i64 Ne, .int .i64 H, .int .i64 Vv] 27)).heap.size ((w.alloc (.cells #[.int .i64 R, .int .i64 V, .int .i64 N] 23)).alloc (.cells #[.int .i64 T, .int .i64 Ne, .int .i64 H, .int .i64 Vv] 27)) w2 := ((Below.refl _ _).alloc (Nat.le_refl _) _).trans (hb2.mono (by simp))
      have c0 : w2.cell? ⟨w.heap.size, 0, none⟩ = some (.int .i64 R) := (hbX.cell (p := ⟨w.heap.size, 0, none⟩) (by simp)).trans (World.cell?_alloc_at _ _ _ _ rfl)
      have c1 : w2.cell? ⟨w.heap.size, 1, none⟩ = some (.int .i64 V) := (hbX.cell (p := ⟨w.heap.size, 1, none⟩) (by simp)).trans (World.cell?_alloc_at _ _ _ _ rfl)
      have c2 : w2.cell? ⟨w.heap.size, 2, none⟩ = some (.int .i64 N) := (hbX.cell (p := ⟨w.heap.size, 2, none⟩) (by simp)).trans (World.cell?_alloc_at _ _ _ _ rfl)
      have d0 : w2.cell? ⟨w.heap.size + 1, 0, none⟩ = some (.int .i64 T) := (hbL.cell (p := ⟨w.heap.size + 1, 0, none⟩) (by simp)).trans (World.cell?_alloc_at _ _ _ _ (by simp))
      have d1 : w2.cell? ⟨w.heap.size + 1, 1, none⟩ = some (.int .i64 Ne) := (hbL.cell (p := ⟨w.heap.size + 1, 1, none⟩) (by simp)).trans (World.cell?_alloc_at _ _ _ _ (by simp))
      have d2 : w2.cell? ⟨w.heap.size + 1, 2, none⟩ = some (.int .i64 H) := (hbL.cell (p := ⟨w.heap.size + 1, 2, none⟩) (by simp)).trans (World.cell?_alloc_at _ _ _ _ (by simp))
      have d3 : w2.cell? ⟨w.heap.size + 1, 3, none⟩ = some (.int .i64 Vv) := (hbL.cell (p := ⟨w.heap.size + 1, 3, none⟩) (by simp)).trans (World.cell?_alloc_at _ _ _ _ (by simp))
      have hbw : Below w.heap.size w w2 := ((Below.refl _ _).alloc (Nat.le_refl _) _).trans (hbX.mono (by simp))
      have hsz := hb2.size
      clear hbX hbL hb2
      go_wp2_with fail
      refine (HT.out _).mono ?_
      rintro e w3 ⟨rfl, hb3⟩
      have d0' : w3.cell? ⟨w.heap.size + 1, 0, none⟩ = some (.int .i64 T) := (hb3.cell (p := ⟨w.heap.size + 1, 0, none⟩) (by simp at hsz ⊢; omega)).trans d0
      have hZ := HZ.out
      have hB := HB.out
      have hT1 := HT1.out
      clear c0 c1 c2 d0 d1 d2 d3
      generalize tm R V N Ne = m at hZ hB
      obtain ⟨p, q, e⟩ := m
      simp only at hZ hB
      have kT : IntKind.i64.wrap (T * q) = T * q := by
        obtain ⟨m1, m2⟩ := mul_bd (a := T) (A := 120) (b := q) (B := 34359738368) (by omega) (by omega) (by omega) (by omega)
        exact IntWalk.i64_in _ (by omega)
      clear hB hT1
      by_cases he : e = 0
      · subst he
        have HZ' := Lib.hid hZ; clear hZ
        dsimp only
        go_wp2_with fail
        go_ret2
        exact ⟨by rw [← HZ'.out]; simp, hbw.trans (hb3.mono (by simp at hsz ⊢; omega))⟩
      · have heb : (e == 0) = false := by simp [he]
        have HZ' := Lib.hid hZ; clear hZ
        dsimp only
        go_wp2_with fail
        go_ret2
        exact ⟨by rw [← HZ'.out]; simp [he], hbw.trans (hb3.mono (by simp at hsz ⊢; omega))⟩
    · rw [show lvE T Ne H Vv = 1 by unfold lvE; rw [if_neg hl]] at HLv
      have HL' := Lib.hid HLv; clear HLv
      rw [show hoB R V N T Ne H Vv = false by unfold hoB; rw [if_neg (fun h => hl h.2)], show hoE R V N T Ne H Vv = 1 by unfold hoE; rw [if_neg (fun h => hl h.2)]]
      clear hx hl
      go_enter Try.func12, Try.ntmps12
      go_wp2_with fail
      refine (HC'.out _).mono ?_
      rintro e w1 ⟨rfl, rfl⟩
      go_wp2_with fail
      refine (HL'.out _).mono ?_
      rintro e w2 ⟨rfl, hb2⟩
      go_wp2_with fail
      go_ret2
      exact ⟨rfl, ((((Below.refl _ _).alloc (Nat.le_refl _) _).alloc (by simp) _).alloc (by simp; omega) _).trans (hb2.mono (by simp; omega))⟩
  · rw [show chk R V N = 1 by unfold chk; rw [if_neg hx]] at HC
    have HC' := Lib.hid HC; clear HC HLv
    rw [show hoB R V N T Ne H Vv = false by unfold hoB; rw [if_neg (fun h => hx h.1)], show hoE R V N T Ne H Vv = 1 by unfold hoE; rw [if_neg (fun h => hx h.1)]]
    clear hx
    go_enter Try.func12, Try.ntmps12
    go_wp2_with fail
    refine (HC'.out _).mono ?_
    rintro e w1 ⟨rfl, rfl⟩
    go_wp2_with fail
    go_ret2
    exact ⟨rfl, by repeat' (first | exact Below.refl _ _ | assumption | refine Below.drew ?_ | refine below_drewN ?_ _ | refine Below.alloc ?_ ?_ _ | (simp <;> omega))⟩

theorem vert13 (a r T Ne H Vv : Int) (w : World) : Calls Try.prog 13 #[.int .i64 a, .int .i64 r, .agg #[.int .i64 T, .int .i64 Ne, .int .i64 H, .int .i64 Vv]] w fun e w' => e = .returned (.tuple #[.bool (veB a r T Ne H Vv), .int .i64 (veE a r T Ne H Vv)]) ∧ Below w.heap.size w w' := by
  have HC := relative37 a r
  have HLv := level34 T Ne H Vv
  by_cases hx : okA a r
  · rw [show rlE a r = 0 by unfold rlE; rw [if_pos hx]] at HC
    have HC' := Lib.hid HC; clear HC
    by_cases hl : okL T Ne H Vv
    · rw [show lvE T Ne H Vv = 0 by unfold lvE; rw [if_pos hl]] at HLv
      have HL' := Lib.hid HLv; clear HLv
      rw [show veB a r T Ne H Vv = vt a r H Vv by unfold veB; rw [if_pos ⟨hx, hl⟩], show veE a r T Ne H Vv = 0 by unfold veE; rw [if_pos ⟨hx, hl⟩]]
      have HH := Lib.hid (fun w => vertical38 0 0 0 a r T Ne H Vv w hx hl)
      clear hx hl
      go_enter Try.func13, Try.ntmps13
      go_wp2_with fail
      refine (HC'.out _).mono ?_
      rintro e w1 ⟨rfl, hb1⟩
      have f0 : w1.cell? ⟨w.heap.size, 0, none⟩ = some (.int .i64 T) := (hb1.cell (p := ⟨w.heap.size, 0, none⟩) (by simp)).trans (World.cell?_alloc_at _ _ _ _ rfl)
      have f1 : w1.cell? ⟨w.heap.size, 1, none⟩ = some (.int .i64 Ne) := (hb1.cell (p := ⟨w.heap.size, 1, none⟩) (by simp)).trans (World.cell?_alloc_at _ _ _ _ rfl)
      have f2 : w1.cell? ⟨w.heap.size, 2, none⟩ = some (.int .i64 H) := (hb1.cell (p := ⟨w.heap.size, 2, none⟩) (by simp)).trans (World.cell?_alloc_at _ _ _ _ rfl)
      have f3 : w1.cell? ⟨w.heap.size, 3, none⟩ = some (.int .i64 Vv) := (hb1.cell (p := ⟨w.heap.size, 3, none⟩) (by simp)).trans (World.cell?_alloc_at _ _ _ _ rfl)
      go_wp2_with fail
      refine (HL'.out _).mono ?_
      rintro e w2 ⟨rfl, hb2⟩
      clear f0 f1 f2 f3
      have hbL : Below (w.alloc (.cells #[.int .i64 T, .int .i64 Ne, .int .i64 H, .int .i64 Vv] 27)).heap.size (w.alloc (.cells #[.int .i64 T, .int .i64 Ne, .int .i64 H, .int .i64 Vv] 27)) w2 := hb1.trans (hb2.mono (by have := hb1.size; simp at this ⊢; omega))
      have hbw : Below w.heap.size w w2 := ((Below.refl _ _).alloc (Nat.le_refl _) _).trans (hbL.mono (by simp))
      have d0 : w2.cell? ⟨w.heap.size, 0, none⟩ = some (.int .i64 T) := (hbL.cell (p := ⟨w.heap.size, 0, none⟩) (by simp)).trans (World.cell?_alloc_at _ _ _ _ rfl)
      have d1 : w2.cell? ⟨w.heap.size, 1, none⟩ = some (.int .i64 Ne) := (hbL.cell (p := ⟨w.heap.size, 1, none⟩) (by simp)).trans (World.cell?_alloc_at _ _ _ _ rfl)
      have d2 : w2.cell? ⟨w.heap.size, 2, none⟩ = some (.int .i64 H) := (hbL.cell (p := ⟨w.heap.size, 2, none⟩) (by simp)).trans (World.cell?_alloc_at _ _ _ _ rfl)
      have d3 : w2.cell? ⟨w.heap.size, 3, none⟩ = some (.int .i64 Vv) := (hbL.cell (p := ⟨w.heap.size, 3, none⟩) (by simp)).trans (World.cell?_alloc_at _ _ _ _ rfl)
      have hsz := hbL.size
      clear hbL hb2
      clear hb1
      go_wp2_with fail
      refine (HH.out _).mono ?_
      rintro e w3 ⟨rfl, hb3⟩
      go_wp2_with fail
      go_ret2
      exact ⟨rfl, hbw.trans (hb3.mono (by simp at hsz; omega))⟩
    · rw [show lvE T Ne H Vv = 1 by unfold lvE; rw [if_neg hl]] at HLv
      have HL' := Lib.hid HLv; clear HLv
      rw [show veB a r T Ne H Vv = false by unfold veB; rw [if_neg (fun h => hl h.2)], show veE a r T Ne H Vv = 1 by unfold veE; rw [if_neg (fun h => hl h.2)]]
      clear hx hl
      go_enter Try.func13, Try.ntmps13
      go_wp2_with fail
      refine (HC'.out _).mono ?_
      rintro e w1 ⟨rfl, hb1⟩
      have f0 : w1.cell? ⟨w.heap.size, 0, none⟩ = some (.int .i64 T) := (hb1.cell (p := ⟨w.heap.size, 0, none⟩) (by simp)).trans (World.cell?_alloc_at _ _ _ _ rfl)
      have f1 : w1.cell? ⟨w.heap.size, 1, none⟩ = some (.int .i64 Ne) := (hb1.cell (p := ⟨w.heap.size, 1, none⟩) (by simp)).trans (World.cell?_alloc_at _ _ _ _ rfl)
      have f2 : w1.cell? ⟨w.heap.size, 2, none⟩ = some (.int .i64 H) := (hb1.cell (p := ⟨w.heap.size, 2, none⟩) (by simp)).trans (World.cell?_alloc_at _ _ _ _ rfl)
      have f3 : w1.cell? ⟨w.heap.size, 3, none⟩ = some (.int .i64 Vv) := (hb1.cell (p := ⟨w.heap.size, 3, none⟩) (by simp)).trans (World.cell?_alloc_at _ _ _ _ rfl)
      go_wp2_with fail
      refine (HL'.out _).mono ?_
      rintro e w2 ⟨rfl, hb2⟩
      go_wp2_with fail
      go_ret2
      exact ⟨rfl, ((Below.refl _ _).alloc (Nat.le_refl _) _).trans ((hb1.mono (by simp)).trans (hb2.mono (by have := hb1.size; simp at this; omega)))⟩
  · rw [show rlE a r = 1 by unfold rlE; rw [if_neg hx]] at HC
    have HC' := Lib.hid HC; clear HC HLv
    rw [show veB a r T Ne H Vv = false by unfold veB; rw [if_neg (fun h => hx h.1)], show veE a r T Ne H Vv = 1 by unfold veE; rw [if_neg (fun h => hx h.1)]]
    clear hx
    go_enter Try.func13, Try.ntmps13
    go_wp2_with fail
    refine (HC'.out _).mono ?_
    rintro e w1 ⟨rfl, hb1⟩
    go_wp2_with fail
    go_ret2
    exact ⟨rfl, ((Below.refl _ _).alloc (Nat.le_refl _) _).trans (hb1.mono (by simp))⟩

theorem vert14 (a r T Ne H Vv : Int) (w : World) : Calls Try.prog 14 #[.int .i64 a, .int .i64 r, .agg #[.int .i64 T, .int .i64 Ne, .int .i64 H, .int .i64 Vv]] w fun e w' => e = .returned (.tuple #[.bool (veB a r T Ne H Vv), .int .i64 (veE a r T Ne H Vv)]) ∧ Below w.heap.size w w' := by
  have HC := relative39 a r
  have HLv := level36 T Ne H Vv
  by_cases hx : okA a r
  · rw [show rlE a r = 0 by unfold rlE; rw [if_pos hx]] at HC
    have HC' := Lib.hid HC; clear HC
    by_cases hl : okL T Ne H Vv
    · rw [show lvE T Ne H Vv = 0 by unfold lvE; rw [if_pos hl]] at HLv
      have HL' := Lib.hid HLv; clear HLv
      rw [show veB a r T Ne H Vv = vt a r H Vv by unfold veB; rw [if_pos ⟨hx, hl⟩], show veE a r T Ne H Vv = 0 by unfold veE; rw [if_pos ⟨hx, hl⟩]]
      have HX := Lib.hid hx
      have HY := Lib.hid hl
      clear hx hl
      go_enter Try.func14, Try.ntmps14
      go_wp2_with fail
      refine (HC'.out _).mono ?_
      rintro e w1 ⟨rfl, rfl⟩
      go_wp2_with fail
      refine (HL'.out _).mono ?_
      rintro e w2 ⟨rfl, hb2⟩
      have hbL : Below (w.alloc (.cells #[.int .i64 T, .int .i64 Ne, .int .i64 H, .int .i64 Vv] 27)).heap.size (w.alloc (.cells #[.int .i64 T, .int .i64 Ne, .int .i64 H, .int .i64 Vv] 27)) w2 := hb2
      have hbw : Below w.heap.size w w2 := ((Below.refl _ _).alloc (Nat.le_refl _) _).trans (hbL.mono (by simp))
      have d0 : w2.cell? ⟨w.heap.size, 0, none⟩ = some (.int .i64 T) := (hbL.cell (p := ⟨w.heap.size, 0, none⟩) (by simp)).trans (World.cell?_alloc_at _ _ _ _ rfl)
      have d1 : w2.cell? ⟨w.heap.size, 1, none⟩ = some (.int .i64 Ne) := (hbL.cell (p := ⟨w.heap.size, 1, none⟩) (by simp)).trans (World.cell?_alloc_at _ _ _ _ rfl)
      have d2 : w2.cell? ⟨w.heap.size, 2, none⟩ = some (.int .i64 H) := (hbL.cell (p := ⟨w.heap.size, 2, none⟩) (by simp)).trans (World.cell?_alloc_at _ _ _ _ rfl)
      have d3 : w2.cell? ⟨w.heap.size, 3, none⟩ = some (.int .i64 Vv) := (hbL.cell (p := ⟨w.heap.size, 3, none⟩) (by simp)).trans (World.cell?_alloc_at _ _ _ _ rfl)
      have hsz := hbL.size
      clear hbL hb2
      obtain ⟨a1, a2, a3, a4⟩ := HX.out
      obtain ⟨l1, l2, l3, l4, -, -, -, -⟩ := HY.out
      clear HX HY
      by_cases ha : a < 0
      · have hvt : vt a r H Vv = (if -a ≤ H then true else if -r < 0 then decide (-a ≤ Vv * r) else false) := by unfold vt; rw [if_pos ha, vt0_eq, Int.neg_neg]
        obtain ⟨m1, m2⟩ := mul_bd (a := Vv) (A := 120) (b := r) (B := 200) (by omega) (by omega) (by omega) (by omega)
        have k1 : IntKind.i64.wrap (Vv * r) = Vv * r := IntWalk.i64_in _ (by omega)
        clear m1 m2
        by_cases hH : -a ≤ H
        · rw [if_pos hH] at hvt
          have HV := Lib.hid hvt; clear hvt
          go_wp2_with fail
          go_ret2
          exact ⟨by rw [HV.out]; first | (simp; done) | (simp; intros; omega), hbw⟩
        · rw [if_neg hH] at hvt
          by_cases hr : -r < 0
          · rw [if_pos hr] at hvt
            have HV := Lib.hid hvt; clear hvt
            go_wp2_with fail
            go_ret2
            exact ⟨by rw [HV.out]; first | (simp; done) | (simp; intros; omega), hbw⟩
          · rw [if_neg hr] at hvt
            have HV := Lib.hid hvt; clear hvt
            go_wp2_with fail
            go_ret2
            exact ⟨by rw [HV.out]; first | (simp; done) | (simp; intros; omega), hbw⟩
      · have hvt : vt a r H Vv = (if a ≤ H then true else if r < 0 then decide (a ≤ Vv * -r) else false) := by unfold vt; rw [if_neg ha, vt0_eq]
        obtain ⟨m1, m2⟩ := mul_bd (a := Vv) (A := 120) (b := -r) (B := 200) (by omega) (by omega) (by omega) (by omega)
        have k1 : IntKind.i64.wrap (Vv * -r) = Vv * -r := IntWalk.i64_in _ (by omega)
        clear m1 m2
        by_cases hH : a ≤ H
        · rw [if_pos hH] at hvt
          have HV := Lib.hid hvt; clear hvt
          go_wp2_with fail
          go_ret2
          exact ⟨by rw [HV.out]; first | (simp; done) | (simp; intros; omega), hbw⟩
        · rw [if_neg hH] at hvt
          by_cases hr : r < 0
          · rw [if_pos hr] at hvt
            have HV := Lib.hid hvt; clear hvt
            go_wp2_with fail
            go_ret2
            exact ⟨by rw [HV.out]; first | (simp; done) | (simp; intros; omega), hbw⟩
          · rw [if_neg hr] at hvt
            have HV := Lib.hid hvt; clear hvt
            go_wp2_with fail
            go_ret2
            exact ⟨by rw [HV.out]; first | (simp; done) | (simp; intros; omega), hbw⟩
    · rw [show lvE T Ne H Vv = 1 by unfold lvE; rw [if_neg hl]] at HLv
      have HL' := Lib.hid HLv; clear HLv
      rw [show veB a r T Ne H Vv = false by unfold veB; rw [if_neg (fun h => hl h.2)], show veE a r T Ne H Vv = 1 by unfold veE; rw [if_neg (fun h => hl h.2)]]
      clear hx hl
      go_enter Try.func14, Try.ntmps14
      go_wp2_with fail
      refine (HC'.out _).mono ?_
      rintro e w1 ⟨rfl, rfl⟩
      go_wp2_with fail
      refine (HL'.out _).mono ?_
      rintro e w2 ⟨rfl, hb2⟩
      go_wp2_with fail
      go_ret2
      exact ⟨rfl, ((Below.refl _ _).alloc (Nat.le_refl _) _).trans (hb2.mono (by simp))⟩
  · rw [show rlE a r = 1 by unfold rlE; rw [if_neg hx]] at HC
    have HC' := Lib.hid HC; clear HC HLv
    rw [show veB a r T Ne H Vv = false by unfold veB; rw [if_neg (fun h => hx h.1)], show veE a r T Ne H Vv = 1 by unfold veE; rw [if_neg (fun h => hx h.1)]]
    clear hx
    go_enter Try.func14, Try.ntmps14
    go_wp2_with fail
    refine (HC'.out _).mono ?_
    rintro e w1 ⟨rfl, rfl⟩
    go_wp2_with fail
    go_ret2
    exact ⟨rfl, (Below.refl _ _).alloc (Nat.le_refl _) _⟩

end Go.Proofs.Ytbonniladhablaa
