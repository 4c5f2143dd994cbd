/- EncounterExamples: texts. -/
import Derived.Test.YtnnnpliigdfipaaGreatDoorRows
import Derived.WalkKit
import Derived.WalkLawsBesides
import Derived.WalkSpells
import Derived.ProofKit
import Derived.Below
import Derived.Outline
import Derived.Lib.Hide
import Derived.Deep.RegionWith
import Derived.Deep.RegionHeld3
import Derived.Deep.DrawnRows
import Derived.StillTailTactics
import Derived.BigQuiet
import Derived.Deep.QuietTactic
import Derived.Deep.LoopGhost
import Derived.IntWalk
import Derived.Lib.MinMax
import Derived.Laws.MakeOwn
import Derived.Laws.IdiomStrings
import Derived.Test.YtnnnpliigdfipaaGreatDoorEnDC
import Derived.Test.YtnnnpliigdfipaaGreatDoorEnF1
namespace Go.Proofs.YtnnnpliigdfipaaGreatDoor
open Go.RowKit
attribute [local go_sem ↓] Go.wp_at_zero Go.wp_at_succ
attribute [local go_sem] wrap_lit
def txX : Nat → Tx
  | 0 => []
  | 1 => [10]
  | 2 => [101, 110, 99, 111, 117, 110, 116, 101, 114, 32, 49, 48, 32, 48]
  | 3 => [101, 110, 99, 111, 117, 110, 116, 101, 114, 32, 48, 49, 48, 32, 48, 10]
  | 4 => [101, 110, 99, 111, 117, 110, 116, 101, 114, 32, 49, 48, 10]
  | 5 => [101, 110, 99, 111, 117, 110, 116, 101, 114, 32, 49, 48, 32, 32, 48, 10]
  | 6 => [101, 110, 99, 111, 117, 110, 116, 101, 114, 32, 49, 48, 32, 45, 48, 10]
  | 7 => [101, 110, 99, 111, 117, 110, 116, 101, 114, 32, 49, 48, 48, 48, 48, 48, 48, 48, 48, 48, 32, 48, 10]
  | 8 => [101, 110, 99, 111, 117, 110, 116, 101, 114, 32, 49, 48, 32, 48, 10]
  | 9 => [101, 110, 99, 111, 117, 110, 116, 101, 114, 32, 49, 48, 32, 48, 10, 108, 101, 103, 32, 51, 32, 49, 48, 10]
  | 10 => [101, 110, 99, 111, 117, 110, 116, 101, 114, 32, 49, 48, 32, 48, 10, 99, 114, 97, 102, 116, 32, 49, 32, 97, 116, 32, 48, 32, 48, 32, 48, 32, 109, 111, 118, 105, 110, 103, 32, 48, 32, 48, 32, 48, 32, 112, 117, 108, 108, 32, 49, 32, 109, 111, 100, 101, 32, 110, 111, 110, 101, 32, 112, 105, 108, 111, 116, 32, 48, 32, 49, 32, 48, 10]
  | 11 => [101, 110, 99, 111, 117, 110, 116, 101, 114, 32, 49, 48, 32, 48, 10, 99, 114, 97, 102, 116, 32, 49, 32, 97, 116, 32, 48, 32, 48, 32, 48, 32, 109, 111, 118, 105, 110, 103, 32, 48, 32, 48, 32, 48, 32, 112, 117, 108, 108, 32, 49, 32, 109, 111, 100, 101, 32, 110, 111, 110, 101, 32, 112, 105, 108, 111, 116, 32, 48, 32, 49, 32, 48, 10, 99, 114, 97, 102, 116, 32, 49, 32, 97, 116, 32, 48, 32, 48, 32, 48, 32, 109, 111, 118, 105, 110, 103, 32, 48, 32, 48, 32, 48, 32, 112, 117, 108, 108, 32, 49, 32, 109, 111, 100, 101, 32, 110, 111, 110, 101, 32, 112, 105, 108, 111, 116, 32, 48, 32, 49, 32, 48, 10]
  | 12 => [101, 110, 99, 111, 117, 110, 116, 101, 114, 32, 49, 48, 32, 48, 10, 99, 114, 97, 102, 116, 32, 49, 32, 97, 116, 32, 48, 32, 48, 32, 48, 32, 109, 111, 118, 105, 110, 103, 32, 48, 32, 48, 32, 48, 32, 112, 117, 108, 108, 32, 49, 32, 109, 111, 100, 101, 32, 110, 111, 110, 101, 32, 112, 105, 108, 111, 116, 32, 48, 32, 49, 32, 48, 10, 10]
  | 13 => [101, 110, 99, 111, 117, 110, 116, 101, 114, 32, 49, 48, 32, 48, 10, 99, 114, 97, 102, 116, 32, 49, 32, 97, 116, 32, 48, 32, 48, 32, 48, 32, 109, 111, 118, 105, 110, 103, 32, 48, 32, 48, 32, 48, 32, 112, 117, 108, 108, 32, 49, 32, 109, 111, 100, 101, 32, 110, 111, 110, 101, 32, 112, 105, 108, 111, 116, 32, 48, 32, 49, 32, 48, 10, 108, 101, 103, 32, 51, 32, 49, 48]
  | 14 => [101, 110, 99, 111, 117, 110, 116, 101, 114, 32, 49, 48, 32, 48, 10, 99, 114, 97, 102, 116, 32, 49, 32, 97, 116, 32, 48, 32, 48, 32, 48, 32, 109, 111, 118, 105, 110, 103, 32, 48, 32, 48, 32, 48, 32, 112, 117, 108, 108, 32, 49, 32, 109, 111, 100, 101, 32, 110, 111, 110, 101, 32, 112, 105, 108, 111, 116, 32, 48, 32, 49, 32, 48, 10, 108, 101, 103, 32, 51, 32, 43, 49, 10]
  | 15 => [101, 110, 99, 111, 117, 110, 116, 101, 114, 32, 49, 48, 32, 48, 10, 99, 114, 97, 102, 116, 32, 49, 32, 97, 116, 32, 48, 32, 48, 32, 48, 32, 109, 111, 118, 105, 110, 103, 32, 48, 32, 48, 32, 48, 32, 112, 117, 108, 108, 32, 49, 32, 109, 111, 100, 101, 32, 110, 111, 110, 101, 32, 112, 105, 108, 111, 116, 32, 48, 32, 49, 32, 48, 10, 108, 101, 103, 32, 49, 48, 32, 48, 10]
  | 16 => [101, 110, 99, 111, 117, 110, 116, 101, 114, 32, 48, 32, 48, 10, 99, 114, 97, 102, 116, 32, 49, 32, 97, 116, 32, 48, 32, 48, 32, 48, 32, 109, 111, 118, 105, 110, 103, 32, 48, 32, 48, 32, 48, 32, 112, 117, 108, 108, 32, 49, 32, 109, 111, 100, 101, 32, 110, 111, 110, 101, 32, 112, 105, 108, 111, 116, 32, 48, 32, 49, 32, 48, 10]
  | 17 => [101, 110, 99, 111, 117, 110, 116, 101, 114, 32, 49, 48, 32, 48, 10, 99, 114, 97, 102, 116, 32, 49, 32, 97, 116, 32, 48, 32, 48, 32, 48, 32, 109, 111, 118, 105, 110, 103, 32, 48, 32, 48, 32, 48, 32, 112, 117, 108, 108, 32, 49, 32, 109, 111, 100, 101, 32, 115, 111, 109, 101, 32, 112, 105, 108, 111, 116, 32, 48, 32, 49, 32, 48, 10]
  | 18 => [101, 110, 99, 111, 117, 110, 116, 101, 114, 32, 49, 48, 32, 48, 10, 99, 114, 97, 102, 116, 32, 49, 32, 97, 116, 32, 48, 32, 48, 32, 48, 32, 109, 111, 118, 105, 110, 103, 32, 48, 32, 48, 32, 48, 32, 112, 117, 108, 108, 32, 49, 32, 109, 111, 100, 101, 32, 110, 111, 110, 101, 32, 112, 105, 108, 111, 116, 32, 48, 32, 49, 32, 48, 10, 101, 110, 99, 111, 117, 110, 116, 101, 114, 32, 49, 48, 32, 48, 10]
  | _ => []
def tlX : Nat → Int
  | 0 => 1
  | 1 => 1
  | 2 => 1
  | 3 => 1
  | 4 => 1
  | 5 => 1
  | 6 => 1
  | 7 => 1
  | 8 => 2
  | 9 => 2
  | 10 => 0
  | 11 => 0
  | 12 => 3
  | 13 => 3
  | 14 => 3
  | 15 => 0
  | 16 => 0
  | 17 => 2
  | 18 => 3
  | _ => 0
def teX : Nat → Int
  | 0 => 2
  | 1 => 2
  | 2 => 2
  | 3 => 2
  | 4 => 2
  | 5 => 2
  | 6 => 2
  | 7 => 2
  | 8 => 2
  | 9 => 2
  | 10 => 0
  | 11 => 16
  | 12 => 2
  | 13 => 2
  | 14 => 2
  | 15 => 2
  | 16 => 1
  | 17 => 2
  | 18 => 2
  | _ => 0
theorem txX_ok (k : Nat) (hk : k < 19) : (paE (txX k)).2 = (tlX k, teX k) ∧ (txX k).length ≤ 5000 := by
  rcases (by omega : k = 0 ∨ k = 1 ∨ k = 2 ∨ k = 3 ∨ k = 4 ∨ k = 5 ∨ k = 6 ∨ k = 7 ∨ k = 8 ∨ k = 9 ∨ k = 10 ∨ k = 11 ∨ k = 12 ∨ k = 13 ∨ k = 14 ∨ k = 15 ∨ k = 16 ∨ k = 17 ∨ k = 18) with rfl | rfl | rfl | rfl | rfl | rfl | rfl | rfl | rfl | rfl | rfl | rfl | rfl | rfl | rfl | rfl | rfl | rfl | rfl <;> exact ⟨by decide +kernel, by decide +kernel⟩
theorem u8_infoX : (Tryz.prog.info? 5).map (fun i => (i.zero, i.size, i.bytes)) = some (some (.int .u8 0), 1, 1) := by kernel_rfl
theorem zeros (n : Nat) (hn : n ≤ 5000) : ∃ (Z : Array Value), (∀ W : World, (Instr.makeSlice 71 (.int .i64 (n : Int)) (.int .i64 (n : Int))).run Tryz.prog W = .ok (.slice (some ⟨W.heap.size, 0, none⟩) n n) (W.alloc (.cells Z 5))) ∧ ∀ W : World, (convert 71 9 (.slice (some ⟨W.heap.size, 0, none⟩) n n)).run Tryz.prog (W.alloc (.cells Z 5)) = .ok (.string (S (List.replicate n 0))) (W.alloc (.cells Z 5)) := by
  obtain ⟨i0, hi0, hz0, hz1, hz2⟩ := info_parts u8_infoX
  refine ⟨madeCells #[.int .u8 0] (n * 1), fun W => ?_, fun W => ?_⟩
  · have h := run_make (P := Tryz.prog) W 71 5 i0 _ Tryz.underlying71 hi0 hz0 .i64 .i64 n n (by omega) (by omega) (by rw [hz2]; omega) (by omega)
    rw [hz1] at h
    simp only [Int.toNat_natCast] at h
    exact h
  · have hc : ∀ j, j < n → (W.alloc (.cells (madeCells #[.int .u8 0] (n * 1)) 5)).cell? ⟨W.heap.size, j, none⟩ = some (.int .u8 0) := fun j hj => by
      have hk : j < (madeCells #[Value.int .u8 0] (n * 1)).size := by rw [size_madeCells]; omega
      rw [World.cell?_alloc_new, Array.getElem?_eq_getElem hk]
      simp only [madeCells, Array.getElem_map, Array.getElem_range]
      simp [Nat.mod_one]
    have h := run_convert_bytes_back (W.alloc (.cells (madeCells #[.int .u8 0] (n * 1)) 5)) 71 9 5 ⟨W.heap.size, 0, none⟩ n (List.replicate n 0) Tryz.underlying71 Tryz.underlying5 Tryz.underlying9 (fun j hj => by
      have hj' : j < n := by simpa using hj
      rw [show (⟨W.heap.size, 0, none⟩ : Addr).add j = ⟨W.heap.size, j, none⟩ from (by simp [Addr.add]; exact fun h => h.symm), hc j hj', List.getElem_replicate]
      rfl)
    rw [List.length_replicate] at h
    exact h
theorem paE_zeros (n : Nat) : paE (List.replicate (n + 4097) 0) = (En.zero, 0, 4) := by
  unfold paE
  rw [if_pos (by rw [List.length_replicate]; omega)]
theorem paE_zeros1 : paE (List.replicate 4096 0) = (En.zero, 1, 2) := by
  unfold paE
  rw [if_neg (by rw [List.length_replicate]; decide), splitC_none (by intro h; have := List.eq_of_mem_replicate h; revert this; decide)]
  simp [goL]
set_option maxRecDepth 100000 in
set_option maxHeartbeats 4000000 in
theorem texts53 (K : Nat) (w : World) (E : Env K w) (hK : K ≤ w.heap.size) : Calls Tryz.prog 53 #[] w fun e w' => e = .returned (.bool true) ∧ Below w.heap.size w w' := by
  have Ew := Lib.hid E
  clear E
  go_enter Tryz.func53, Tryz.ntmps53
  go_wp2_with fail
  generalize hW : World.alloc w _ = w0
  have bw0 : Below w.heap.size w w0 := by rw [← hW]; exact (Below.refl _ _).alloc (Nat.le_refl _) _
  obtain ⟨C, hC, hCC⟩ : ∃ C : Array Value, w0.heap[w.heap.size]? = some (.cells C 108 (0, 0)) ∧ ∀ k, k < 19 → C[k * 3]? = some (.string (S (txX k))) ∧ C[k * 3 + 1]? = some (.int .i64 (tlX k)) ∧ C[k * 3 + 2]? = some (.int .i64 (teX k)) := ⟨_, by rw [← hW]; exact heap_alloc_new _ _, fun k hk => by rcases (by omega : k = 0 ∨ k = 1 ∨ k = 2 ∨ k = 3 ∨ k = 4 ∨ k = 5 ∨ k = 6 ∨ k = 7 ∨ k = 8 ∨ k = 9 ∨ k = 10 ∨ k = 11 ∨ k = 12 ∨ k = 13 ∨ k = 14 ∨ k = 15 ∨ k = 16 ∨ k = 17 ∨ k = 18) with rfl | rfl | rfl | rfl | rfl | rfl | rfl | rfl | rfl | rfl | rfl | rfl | rfl | rfl | rfl | rfl | rfl | rfl | rfl <;> exact ⟨rfl, rfl, rfl⟩⟩
  have HCC := Lib.hid hCC
  have Tw0 := Lib.hid hC
  clear hW hCC hC
  have Bw0 : Hid (Below w.heap.size w w0) := Lib.hid ((bw0))
  have mw0 : w.heap.size ≤ w0.heap.size := (bw0).size
  have Ew0 := Lib.hid (Ew.out.below ((bw0).mono (by omega)))
  clear Ew
  clear bw0
  go_loopw [0, 33] (fun rs i wr => rs = .bool false ∧ ∃ k : Nat, k ≤ 19 ∧ i = .int .i64 k ∧ Below w0.heap.size w0 wr) (fun _ i _ => 19 - (intOf i).toNat)
  case atStart => exact ⟨rfl, 0, Nat.zero_le _, rfl, Below.refl _ _⟩
  case round =>
    obtain ⟨rfl, k, hk, rfl, hb⟩ := hrel
    have HB0 := Lib.hid hb
    have s0 := hb.size
    have Bwr := Lib.hid (Bw0.out.trans ((hb).mono mw0))
    have mwr : w.heap.size ≤ wr.heap.size := Nat.le_trans mw0 (hb).size
    have Ewr := Lib.hid (Ew0.out.below ((hb).mono (by omega)))
    have Twr := Lib.hid (((hb).block _ (heap_lt Tw0.out)).trans Tw0.out)
    clear Bw0 mw0 Ew0 Tw0
    clear hb
    by_cases hlt : k < 19
    · have hltI : (k : Int) < 19 := by omega
      obtain ⟨hpk, hlk⟩ := txX_ok k hlt
      obtain ⟨k0, k1, k2⟩ := HCC.out k hlt
      obtain ⟨tx, htx⟩ : ∃ x, x = txX k := ⟨_, rfl⟩
      obtain ⟨tl, htl⟩ : ∃ x, x = tlX k := ⟨_, rfl⟩
      obtain ⟨te, hte⟩ : ∃ x, x = teX k := ⟨_, rfl⟩
      rw [← htx, ← htl, ← hte] at hpk
      rw [← htx] at k0 hlk
      rw [← htl] at k1
      rw [← hte] at k2
      clear htx htl hte
      have c0 : wr.cell? ⟨w.heap.size, k * 3, none⟩ = some (.string (S tx)) := by simp [World.cell?, Twr.out, k0]
      have c1 : wr.cell? ⟨w.heap.size, k * 3 + 1, none⟩ = some (.int .i64 tl) := by simp [World.cell?, Twr.out, k1]
      have c2 : wr.cell? ⟨w.heap.size, k * 3 + 2, none⟩ = some (.int .i64 te) := by simp [World.cell?, Twr.out, k2]
      clear k0 k1 k2
      obtain ⟨y, n, f, hp⟩ : ∃ y n f, paE tx = (y, n, f) := ⟨_, _, _, rfl⟩
      rw [hp] at hpk
      obtain ⟨rfl, rfl⟩ := Prod.mk.inj hpk
      have HP := Lib.hid hp
      clear hp hpk
      go_wp2_with fail
      obtain ⟨u1, hu1⟩ : ∃ u1, u1 = wr.alloc (.cells #[.string (S tx), .int .i64 n, .int .i64 f] 108) := ⟨_, rfl⟩
      have bu1 : Below wr.heap.size wr u1 := by rw [hu1]; exact (Below.refl _ _).alloc (Nat.le_refl _) _
      have nu1 : u1.heap[wr.heap.size]? = some (.cells #[.string (S tx), .int .i64 n, .int .i64 f] 108 (0, 0)) := by rw [hu1]; exact heap_alloc_new _ _
      have Bu1 : Hid (Below wr.heap.size wr u1) := Lib.hid ((bu1))
      have mu1 : wr.heap.size ≤ u1.heap.size := (bu1).size
      have Eu1 := Lib.hid (Ewr.out.below ((bu1).mono (by omega)))
      have Tu1 := Lib.hid (((bu1).block _ (heap_lt Twr.out)).trans Twr.out)
      clear Ewr Twr
      rw [← hu1]
      clear hu1 bu1
      have D0u1 := Lib.hid nu1
      clear nu1
      have D0c0u1 : u1.cell? ⟨wr.heap.size, 0, none⟩ = some (.string (S tx)) := by simp [World.cell?, D0u1.out]
      have D0c1u1 : u1.cell? ⟨wr.heap.size, 1, none⟩ = some (.int .i64 n) := by simp [World.cell?, D0u1.out]
      have D0c2u1 : u1.cell? ⟨wr.heap.size, 2, none⟩ = some (.int .i64 f) := by simp [World.cell?, D0u1.out]
      clear c0 c1 c2
      refine (parse16 K tx (by omega) u1 Eu1.out (by omega)).mono ?_
      rintro e u2 ⟨v, lvs, Bl, rfl, hps, hb⟩
      rw [HP.out] at hps
      rw [HP.out]
      simp only at hps ⊢
      obtain ⟨DA, dcap, rfl, hdc, hin⟩ := hps.inCr
      clear hps
      have Bu2 := Lib.hid (Bu1.out.trans ((hb).mono mu1))
      have mu2 : wr.heap.size ≤ u2.heap.size := Nat.le_trans mu1 (hb).size
      have Eu2 := Lib.hid (Eu1.out.below ((hb).mono (by omega)))
      have Tu2 := Lib.hid (((hb).block _ (heap_lt Tu1.out)).trans Tu1.out)
      have D0u2 := Lib.hid (((hb).block _ (heap_lt D0u1.out)).trans D0u1.out)
      clear Bu1 mu1 Eu1 Tu1 D0u1 D0c0u1 D0c1u1 D0c2u1
      have D0c0u2 : u2.cell? ⟨wr.heap.size, 0, none⟩ = some (.string (S tx)) := by simp [World.cell?, D0u2.out]
      have D0c1u2 : u2.cell? ⟨wr.heap.size, 1, none⟩ = some (.int .i64 n) := by simp [World.cell?, D0u2.out]
      have D0c2u2 : u2.cell? ⟨wr.heap.size, 2, none⟩ = some (.int .i64 f) := by simp [World.cell?, D0u2.out]
      have Ku2 := Lib.hid hin
      clear hb hin
      have D0a0 : ∀ ob, (u2.alloc ob).cell? ⟨wr.heap.size, 0, none⟩ = some (.string (S tx)) := fun ob => (World.cell?_alloc_lt _ _ _ (heap_lt D0u2.out)).trans D0c0u2
      have D0a1 : ∀ ob, (u2.alloc ob).cell? ⟨wr.heap.size, 1, none⟩ = some (.int .i64 n) := fun ob => (World.cell?_alloc_lt _ _ _ (heap_lt D0u2.out)).trans D0c1u2
      have D0a2 : ∀ ob, (u2.alloc ob).cell? ⟨wr.heap.size, 2, none⟩ = some (.int .i64 f) := fun ob => (World.cell?_alloc_lt _ _ _ (heap_lt D0u2.out)).trans D0c2u2
      have wk : IntKind.i64.wrap ((k : Int) + 1) = (k : Int) + 1 := IntWalk.i64_in _ (by omega)
      by_cases hf : f = 0
      · subst hf
        go_wp2_with fail
        generalize hW3 : World.alloc u2 _ = u3
        have bu3 : Below wr.heap.size wr u3 := by rw [← hW3]; exact Bu2.out.alloc mu2 _
        exact ⟨⟨rfl, k + 1, by omega, by go_num, HB0.out.trans (bu3.mono s0)⟩, by simp [intOf]; omega⟩
      · have hz := paE_bad HP.out hf
        subst hz
        have hfb : (f != 0) = true := by simpa using hf
        clear hf
        go_wp2_with fail
        obtain ⟨u3, hu3⟩ : ∃ u3, u3 = u2.alloc (.cells #[.int .i64 En.zero.cy, .int .i64 En.zero.gr, .slice DA En.zero.cs.length dcap] 24) := ⟨_, rfl⟩
        have bu3 : Below u2.heap.size u2 u3 := by rw [hu3]; exact (Below.refl _ _).alloc (Nat.le_refl _) _
        have nu3 : u3.heap[u2.heap.size]? = some (.cells #[.int .i64 En.zero.cy, .int .i64 En.zero.gr, .slice DA En.zero.cs.length dcap] 24 (0, 0)) := by rw [hu3]; exact heap_alloc_new _ _
        have Bu3 := Lib.hid (Bu2.out.trans ((bu3).mono mu2))
        have mu3 : wr.heap.size ≤ u3.heap.size := Nat.le_trans mu2 (bu3).size
        have Eu3 := Lib.hid (Eu2.out.below ((bu3).mono (by omega)))
        have Tu3 := Lib.hid (((bu3).block _ (heap_lt Tu2.out)).trans Tu2.out)
        have D0u3 := Lib.hid (((bu3).block _ (heap_lt D0u2.out)).trans D0u2.out)
        have Ku3 := Lib.hid ((Ku2.out.below (bu3)).mono (bu3).size)
        clear Bu2 mu2 Eu2 Tu2 D0u2 Ku2 D0c0u2 D0c1u2 D0c2u2
        have D0c0u3 : u3.cell? ⟨wr.heap.size, 0, none⟩ = some (.string (S tx)) := by simp [World.cell?, D0u3.out]
        have D0c1u3 : u3.cell? ⟨wr.heap.size, 1, none⟩ = some (.int .i64 n) := by simp [World.cell?, D0u3.out]
        have D0c2u3 : u3.cell? ⟨wr.heap.size, 2, none⟩ = some (.int .i64 f) := by simp [World.cell?, D0u3.out]
        rw [← hu3]
        clear hu3 bu3 D0a0 D0a1 D0a2
        have Du3 := Lib.hid nu3
        clear nu3
        have Dc0u3 : u3.cell? ⟨u2.heap.size, 0, none⟩ = some (.int .i64 En.zero.cy) := by simp [World.cell?, Du3.out]
        have Dc1u3 : u3.cell? ⟨u2.heap.size, 1, none⟩ = some (.int .i64 En.zero.gr) := by simp [World.cell?, Du3.out]
        have Dc2u3 : u3.cell? ⟨u2.heap.size, 2, none⟩ = some (.slice DA En.zero.cs.length dcap) := by simp [World.cell?, Du3.out]
        refine (same17 En.zero DA none dcap 0 u3 Ku3.out (fun h => absurd h (by decide)) (by decide) (fun c h => by cases h)).mono ?_
        rintro e u4 ⟨rfl, hu4⟩
        have Bu4 := Lib.hid (Bu3.out.trans ((hu4).mono mu3))
        have mu4 : wr.heap.size ≤ u4.heap.size := Nat.le_trans mu3 (hu4).size
        have Eu4 := Lib.hid (Eu3.out.below ((hu4).mono (by omega)))
        have Tu4 := Lib.hid (((hu4).block _ (heap_lt Tu3.out)).trans Tu3.out)
        have D0u4 := Lib.hid (((hu4).block _ (heap_lt D0u3.out)).trans D0u3.out)
        have Ku4 := Lib.hid ((Ku3.out.below (hu4)).mono (hu4).size)
        have Du4 := Lib.hid (((hu4).block _ (heap_lt Du3.out)).trans Du3.out)
        clear Bu3 mu3 Eu3 Tu3 D0u3 Ku3 Du3 D0c0u3 D0c1u3 D0c2u3 Dc0u3 Dc1u3 Dc2u3
        have D0c0u4 : u4.cell? ⟨wr.heap.size, 0, none⟩ = some (.string (S tx)) := by simp [World.cell?, D0u4.out]
        have D0c1u4 : u4.cell? ⟨wr.heap.size, 1, none⟩ = some (.int .i64 n) := by simp [World.cell?, D0u4.out]
        have D0c2u4 : u4.cell? ⟨wr.heap.size, 2, none⟩ = some (.int .i64 f) := by simp [World.cell?, D0u4.out]
        have Dc0u4 : u4.cell? ⟨u2.heap.size, 0, none⟩ = some (.int .i64 En.zero.cy) := by simp [World.cell?, Du4.out]
        have Dc1u4 : u4.cell? ⟨u2.heap.size, 1, none⟩ = some (.int .i64 En.zero.gr) := by simp [World.cell?, Du4.out]
        have Dc2u4 : u4.cell? ⟨u2.heap.size, 2, none⟩ = some (.slice DA En.zero.cs.length dcap) := by simp [World.cell?, Du4.out]
        clear hu4
        go_wp2_with fail
        exact ⟨⟨rfl, k + 1, by omega, by go_num, HB0.out.trans (Bu4.out.mono s0)⟩, by simp [intOf]; omega⟩
    · obtain rfl : k = 19 := by omega
      have hltI : ¬ ((19 : Nat) : Int) < 19 := by omega
      obtain ⟨Z1, hm1, hc1⟩ := zeros 4097 (by decide)
      obtain ⟨Z2, hm2, hc2⟩ := zeros 4096 (by decide)
      have hp1 := paE_zeros 0
      have hl1 : (List.replicate (0 + 4097) (0 : UInt8)).length ≤ 80000 := by rw [List.length_replicate]; decide
      have hp2 := paE_zeros1
      have hl2 : (List.replicate 4096 (0 : UInt8)).length ≤ 80000 := by rw [List.length_replicate]; decide
      rw [show 0 + 4097 = 4097 from rfl] at hp1 hl1
      generalize List.replicate 4097 (0 : UInt8) = z1 at hc1 hp1 hl1
      generalize List.replicate 4096 (0 : UInt8) = z2 at hc2 hp2 hl2
      have HP1 := Lib.hid hp1
      have HP2 := Lib.hid hp2
      clear hp1 hp2
      have hm1 : ∀ W : World, (Instr.makeSlice 71 (.int .i64 4097) (.int .i64 4097)).run Tryz.prog W = .ok (.slice (some ⟨W.heap.size, 0, none⟩) 4097 4097) (W.alloc (.cells Z1 5)) := hm1
      have hm2 : ∀ W : World, (Instr.makeSlice 71 (.int .i64 4096) (.int .i64 4096)).run Tryz.prog W = .ok (.slice (some ⟨W.heap.size, 0, none⟩) 4096 4096) (W.alloc (.cells Z2 5)) := hm2
      go_wp2_with fail
      generalize hW : World.alloc wr _ = x1
      have bx1 : Below wr.heap.size wr x1 := by rw [← hW]; exact (Below.refl _ _).alloc (Nat.le_refl _) _
      have Bx1 := Lib.hid (Bwr.out.trans ((bx1).mono mwr))
      have mx1 : w.heap.size ≤ x1.heap.size := Nat.le_trans mwr (bx1).size
      have Ex1 := Lib.hid (Ewr.out.below ((bx1).mono (by omega)))
      have Tx1 := Lib.hid (((bx1).block _ (heap_lt Twr.out)).trans Twr.out)
      clear Bwr mwr Ewr Twr
      clear hW bx1
      refine (parse16 K z1 (by omega) x1 Ex1.out (by omega)).mono ?_
      rintro e x2 ⟨v, lvs, Bl, rfl, hps, hb⟩
      rw [HP1.out] at hps
      rw [HP1.out]
      simp only at hps ⊢
      obtain ⟨DA, dcap, rfl, -, -⟩ := hps.inCr
      clear hps
      have Bx2 := Lib.hid (Bx1.out.trans ((hb).mono mx1))
      have mx2 : w.heap.size ≤ x2.heap.size := Nat.le_trans mx1 (hb).size
      have Ex2 := Lib.hid (Ex1.out.below ((hb).mono (by omega)))
      have Tx2 := Lib.hid (((hb).block _ (heap_lt Tx1.out)).trans Tx1.out)
      clear Bx1 mx1 Ex1 Tx1
      clear hb
      go_upto_region 9 with fail
      generalize hW : World.alloc x2 _ = x3
      have bx3 : Below x2.heap.size x2 x3 := by rw [← hW]; exact (Below.refl _ _).alloc (Nat.le_refl _) _
      have Bx3 := Lib.hid (Bx2.out.trans ((bx3).mono mx2))
      have mx3 : w.heap.size ≤ x3.heap.size := Nat.le_trans mx2 (bx3).size
      have Ex3 := Lib.hid (Ex2.out.below ((bx3).mono (by omega)))
      have Tx3 := Lib.hid (((bx3).block _ (heap_lt Tx2.out)).trans Tx2.out)
      clear Bx2 mx2 Ex2 Tx2
      clear hW bx3
      go_wp2_with fail
      generalize hW : World.alloc x3 _ = x4
      have bx4 : Below x3.heap.size x3 x4 := by rw [← hW]; exact (Below.refl _ _).alloc (Nat.le_refl _) _
      have Bx4 := Lib.hid (Bx3.out.trans ((bx4).mono mx3))
      have mx4 : w.heap.size ≤ x4.heap.size := Nat.le_trans mx3 (bx4).size
      have Ex4 := Lib.hid (Ex3.out.below ((bx4).mono (by omega)))
      have Tx4 := Lib.hid (((bx4).block _ (heap_lt Tx3.out)).trans Tx3.out)
      clear Bx3 mx3 Ex3 Tx3
      clear hW bx4
      refine (parse16 K z2 (by omega) x4 Ex4.out (by omega)).mono ?_
      rintro e x5 ⟨v, lvs, Bl, rfl, hps, hb⟩
      rw [HP2.out] at hps
      rw [HP2.out]
      simp only at hps ⊢
      obtain ⟨DA, dcap, rfl, -, -⟩ := hps.inCr
      clear hps
      have Bx5 := Lib.hid (Bx4.out.trans ((hb).mono mx4))
      have mx5 : w.heap.size ≤ x5.heap.size := Nat.le_trans mx4 (hb).size
      have Ex5 := Lib.hid (Ex4.out.below ((hb).mono (by omega)))
      have Tx5 := Lib.hid (((hb).block _ (heap_lt Tx4.out)).trans Tx4.out)
      clear Bx4 mx4 Ex4 Tx4
      clear hb
      go_wp2_with fail
      generalize hW : World.alloc x5 _ = x6
      have bx6 : Below x5.heap.size x5 x6 := by rw [← hW]; exact (Below.refl _ _).alloc (Nat.le_refl _) _
      have Bx6 := Lib.hid (Bx5.out.trans ((bx6).mono mx5))
      have mx6 : w.heap.size ≤ x6.heap.size := Nat.le_trans mx5 (bx6).size
      have Ex6 := Lib.hid (Ex5.out.below ((bx6).mono (by omega)))
      have Tx6 := Lib.hid (((bx6).block _ (heap_lt Tx5.out)).trans Tx5.out)
      clear Bx5 mx5 Ex5 Tx5
      clear hW bx6
      go_ret
      exact ⟨rfl, Bx6.out⟩
end Go.Proofs.YtnnnpliigdfipaaGreatDoor
