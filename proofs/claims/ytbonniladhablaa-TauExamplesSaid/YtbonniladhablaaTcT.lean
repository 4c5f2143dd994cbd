/- passes, both. -/
import Derived.Test.YtbonniladhablaaRows
import Derived.WalkKit
import Derived.WalkLawsBesides
import Derived.WalkSpells
import Derived.ProofKit
import Derived.Below
import Derived.Outline
import Derived.Lib.Hide
import Derived.Deep.RegionWith
import Derived.Deep.RegionHeld3
import Derived.Deep.DrawnRows
import Derived.StillTailTactics
import Derived.BigQuiet
import Derived.Deep.QuietTactic
import Derived.Deep.LoopGhost
import Derived.IntWalk
import Derived.Test.YtbonniladhablaaTcS
namespace Go.Proofs.Ytbonniladhablaa
open Go.RowKit
attribute [local go_sem ↓] Go.wp_at_zero Go.wp_at_succ
attribute [local go_sem] wrap_lit

/-- The three blocks of passes. -/
structure PsS (w : World) (p : Nat) (R V N a r T Ne H Vv : Int) (W : World) : Prop where
  c00 : W.cell? ⟨p, 0, none⟩ = some (.int .i64 R)
  c01 : W.cell? ⟨p, 1, none⟩ = some (.int .i64 V)
  c02 : W.cell? ⟨p, 2, none⟩ = some (.int .i64 N)
  c03 : W.cell? ⟨p, 3, none⟩ = some (.int .i64 a)
  c04 : W.cell? ⟨p, 4, none⟩ = some (.int .i64 r)
  c10 : W.cell? ⟨p + 1, 0, none⟩ = some (.int .i64 T)
  c11 : W.cell? ⟨p + 1, 1, none⟩ = some (.int .i64 Ne)
  c12 : W.cell? ⟨p + 1, 2, none⟩ = some (.int .i64 H)
  c13 : W.cell? ⟨p + 1, 3, none⟩ = some (.int .i64 Vv)
  c20 : W.cell? ⟨p + 2, 0, none⟩ = some (.func (.func 35) #[] #[])
  c21 : W.cell? ⟨p + 2, 1, none⟩ = some (.func (.func 38) #[] #[])
  bw : Below w.heap.size w W
  lt : p + 2 < W.heap.size
theorem PsS.on {w : World} {p : Nat} {R V N a r T Ne H Vv : Int} {W W1 : World} (h : PsS w p R V N a r T Ne H Vv W) (hb : Below W.heap.size W W1) : PsS w p R V N a r T Ne H Vv W1 where
  c00 := (hb.cell (p := ⟨p, 0, none⟩) (by have := h.lt; show p < W.heap.size; omega)).trans h.c00
  c01 := (hb.cell (p := ⟨p, 1, none⟩) (by have := h.lt; show p < W.heap.size; omega)).trans h.c01
  c02 := (hb.cell (p := ⟨p, 2, none⟩) (by have := h.lt; show p < W.heap.size; omega)).trans h.c02
  c03 := (hb.cell (p := ⟨p, 3, none⟩) (by have := h.lt; show p < W.heap.size; omega)).trans h.c03
  c04 := (hb.cell (p := ⟨p, 4, none⟩) (by have := h.lt; show p < W.heap.size; omega)).trans h.c04
  c10 := (hb.cell (p := ⟨p + 1, 0, none⟩) (by have := h.lt; show p + 1 < W.heap.size; omega)).trans h.c10
  c11 := (hb.cell (p := ⟨p + 1, 1, none⟩) (by have := h.lt; show p + 1 < W.heap.size; omega)).trans h.c11
  c12 := (hb.cell (p := ⟨p + 1, 2, none⟩) (by have := h.lt; show p + 1 < W.heap.size; omega)).trans h.c12
  c13 := (hb.cell (p := ⟨p + 1, 3, none⟩) (by have := h.lt; show p + 1 < W.heap.size; omega)).trans h.c13
  c20 := (hb.cell (p := ⟨p + 2, 0, none⟩) (by have := h.lt; show p + 2 < W.heap.size; omega)).trans h.c20
  c21 := (hb.cell (p := ⟨p + 2, 1, none⟩) (by have := h.lt; show p + 2 < W.heap.size; omega)).trans h.c21
  bw := h.bw.trans (hb.mono h.bw.size)
  lt := Nat.lt_of_lt_of_le h.lt hb.size
set_option maxRecDepth 100000 in
set_option maxHeartbeats 4000000 in
theorem passes41 (R V N a r T Ne H Vv : Int) (w : World) (hx : okX R V N) (ha : okA a r) (hl : okL T Ne H Vv) : Calls Try.prog 41 #[.agg #[.int .i64 R, .int .i64 V, .int .i64 N, .int .i64 a, .int .i64 r], .agg #[.int .i64 T, .int .i64 Ne, .int .i64 H, .int .i64 Vv]] w fun e w' => e = .returned (.bool (hz R V T Ne && vt a r H Vv)) ∧ Below w.heap.size w w' := by
  have C1 := Lib.hid (fun W => horizontal35 R V N a r T Ne H Vv W hx hl)
  have C2 := Lib.hid (fun W => vertical38 R V N a r T Ne H Vv W ha hl)
  clear hx ha hl
  obtain ⟨b1, hb1⟩ : ∃ b, b = hz R V T Ne := ⟨_, rfl⟩
  obtain ⟨b2, hb2⟩ : ∃ b, b = vt a r H Vv := ⟨_, rfl⟩
  rw [← hb1] at C1 ⊢
  rw [← hb2] at C2 ⊢
  clear hb1 hb2
  go_enter Try.func41, Try.ntmps41
  go_wp2_with fail
  generalize hX : World.alloc _ _ = X
  have HS : PsS w w.heap.size R V N a r T Ne H Vv X := by
    subst hX
    constructor
    · go_cell
    · go_cell
    · go_cell
    · go_cell
    · go_cell
    · go_cell
    · go_cell
    · go_cell
    · go_cell
    · exact World.cell?_alloc_at _ _ _ _ (by simp)
    · exact World.cell?_alloc_at _ _ _ _ (by simp)
    · exact (((Below.refl _ _).alloc (Nat.le_refl _) _).alloc (by simp) _).alloc (by simp; omega) _
    · simp; try omega
  clear hX
  obtain ⟨p, hp⟩ : ∃ p, p = w.heap.size := ⟨_, rfl⟩
  have HS := Lib.hid HS
  rw [← hp] at HS ⊢
  clear hp
  go_loopw [4, 11] (fun r' i wr => ∃ k : Nat, k ≤ 2 ∧ i = .int .i64 k ∧ r' = .bool false ∧ (1 ≤ k → b1 = true) ∧ (2 ≤ k → b2 = true) ∧ PsS w p R V N a r T Ne H Vv wr) (fun _ i _ => 2 - (intOf i).toNat)
  case atStart => exact ⟨0, by omega, rfl, rfl, fun h => by omega, fun h => by omega, HS.out⟩
  case round =>
    clear HS
    obtain ⟨k, hk, rfl, rfl, h1, h2, hT⟩ := hrel
    have HT := Lib.hid hT
    have s00 := hT.c00
    have s01 := hT.c01
    have s02 := hT.c02
    have s03 := hT.c03
    have s04 := hT.c04
    have s10 := hT.c10
    have s11 := hT.c11
    have s12 := hT.c12
    have s13 := hT.c13
    have s20 := hT.c20
    have s21 := hT.c21
    have hlt := hT.lt
    clear hT
    have n0 : p ≠ wr.heap.size := by omega
    have n1 : p + 1 ≠ wr.heap.size := by omega
    have al0 : ∀ (o : Nat) (c : Array Value) (T : TypeId), (wr.alloc (.cells c T)).cell? ⟨p, o, none⟩ = wr.cell? ⟨p, o, none⟩ := fun o c T => World.cell?_alloc_old _ _ _ (by simpa using n0)
    have al1 : ∀ (o : Nat) (c : Array Value) (T : TypeId), (wr.alloc (.cells c T)).cell? ⟨p + 1, o, none⟩ = wr.cell? ⟨p + 1, o, none⟩ := fun o c T => World.cell?_alloc_old _ _ _ (by simpa using n1)
    rcases (by omega : k = 0 ∨ k = 1 ∨ k = 2) with rfl | rfl | rfl
    · have hsf := fun (a : Addr) (w : World) => run_store Try.prog w a (.func (.func 35) #[] #[]) .plain rfl
      have hi : (((0 : Nat) : Int)) = 0 := rfl
      rw [hi]
      go_wp2_with fail
      clear hsf
      refine (C1.out _).mono ?_
      rintro e w5 ⟨rfl, hb5⟩
      have HT5 := Lib.hid (HT.out.on (((Below.refl wr.heap.size wr).alloc (Nat.le_refl _) _).trans (hb5.mono (by simp))))
      rcases b1 with _ | _
      · go_wp2_with fail
        go_ret
        exact ⟨rfl, HT5.out.bw⟩
      · go_wp2_with fail
        exact ⟨⟨1, by omega, rfl, rfl, fun _ => by first | trivial | rfl, fun h => by omega, HT5.out⟩, by simp [intOf]⟩
    · have hsf := fun (a : Addr) (w : World) => run_store Try.prog w a (.func (.func 38) #[] #[]) .plain rfl
      have hi : (((1 : Nat) : Int)) = 1 := rfl
      obtain rfl : b1 = true := h1 (by omega)
      rw [hi]
      go_wp2_with fail
      clear hsf
      refine (C2.out _).mono ?_
      rintro e w5 ⟨rfl, hb5⟩
      have HT5 := Lib.hid (HT.out.on (((Below.refl wr.heap.size wr).alloc (Nat.le_refl _) _).trans (hb5.mono (by simp))))
      rcases b2 with _ | _
      · go_wp2_with fail
        go_ret
        exact ⟨rfl, HT5.out.bw⟩
      · go_wp2_with fail
        exact ⟨⟨2, by omega, rfl, rfl, fun _ => by first | trivial | rfl, fun _ => by first | trivial | rfl, HT5.out⟩, by simp [intOf]⟩
    · have hi : (((2 : Nat) : Int)) = 2 := rfl
      rw [hi]
      have g1 := h1 (by omega)
      have g2 := h2 (by omega)
      subst g1 g2
      go_wp2_with fail
      go_ret
      exact ⟨rfl, HT.out.bw⟩
end Go.Proofs.Ytbonniladhablaa
