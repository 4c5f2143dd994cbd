/- Package fruit: Life. -/
import Derived.Test.YtmkpblfacnnnoaaRows
import Derived.WalkKit
import Derived.WalkLawsBesides
import Derived.WalkSpells
import Derived.ProofKit
import Derived.Below
import Derived.Outline
import Derived.Lib.Hide
import Derived.Deep.RegionWith
import Derived.Deep.RegionHeld3
import Derived.Deep.DrawnRows
import Derived.StillTailTactics
import Derived.BigQuiet
import Derived.Deep.QuietTactic
import Derived.Deep.LoopGhost
import Derived.IntWalk
import Derived.Test.YtmkpblfacnnnoaaFrL
namespace Go.Proofs.Ytmkpblfacnnnoaa
open Go.RowKit
attribute [local go_sem ↓] Go.wp_at_zero Go.wp_at_succ
attribute [local go_sem] wrap_lit

theorem lfL_bad {xss : List (List Int)} {u : Int} (h : ¬ lfE xss u = 0) : lfL xss u = [] := by unfold lfL; rw [if_neg h]
theorem lfL_ok {xss : List (List Int)} {u : Int} (h : lfE xss u = 0) : lfL xss u = lfA u xss xss.length := by unfold lfL; rw [if_pos h]
/-- What Life returns: the error n and the numbers l. -/
def LfP (w : World) (n : Int) (l : List Int) (e : Ending) (w' : World) : Prop := ∃ A' cap', e = .returned (.tuple #[.slice A' l.length cap', .int .i64 n]) ∧ Own .i64 w' w.heap.size A' 3 l ∧ Below w.heap.size w w'
theorem lfE_0 {xss : List (List Int)} {u : Int} (h : xss.length = 0) : lfE xss u = 3 := by unfold lfE; rw [if_pos h]
theorem lfE_17 {xss : List (List Int)} {u : Int} (h : 16 < xss.length) : lfE xss u = 4 := by unfold lfE; rw [if_neg (show ¬ xss.length = 0 by omega), if_pos h]
theorem lfE_ck {xss : List (List Int)} {u : Int} (h0 : 0 < xss.length) (h : xss.length ≤ 16) (hc : ¬ ckR xss = 0) : lfE xss u = ckR xss := by unfold lfE; rw [if_neg (show ¬ xss.length = 0 by omega), if_neg (show ¬ 16 < xss.length by omega), if_neg hc]
theorem lfE_u {xss : List (List Int)} {u : Int} (h0 : 0 < xss.length) (h : xss.length ≤ 16) (hc : ckR xss = 0) (hu : ¬ (0 ≤ u ∧ u ≤ 1024)) : lfE xss u = 1 := by unfold lfE; rw [if_neg (show ¬ xss.length = 0 by omega), if_neg (show ¬ 16 < xss.length by omega), if_pos hc, if_neg hu]
theorem own_nil {w : World} {B : Nat} {T : TypeId} {A : Option Addr} : Own .i64 w B A T [] := fun h => by simp at h
theorem lfp_nil {w w' : World} {n : Int} (h : Below w.heap.size w w') : LfP w n [] (.returned (.tuple #[.slice none 0 0, .int .i64 n])) w' := ⟨none, 0, rfl, own_nil, h⟩
theorem OutB.own {w : World} {g B : Nat} {T : TypeId} {l : List Int} (h : OutB w g T l) (hB : B ≤ g) : Own .i64 w B (some ⟨g, 0, none⟩) T l := fun _ => by
  obtain ⟨cs, h1, h2, h3⟩ := h
  exact ⟨g, cs, rfl, hB, h1, h3⟩
theorem OutB.made (w : World) (n : Nat) : OutB (w.alloc (.cells (madeCells #[.int .i64 0] n) 3)) w.heap.size 3 (List.replicate n 0) :=
  ⟨_, heap_alloc_new _ _, by rw [size_madeCells]; simp, fun j hj => by
    simp at hj
    rw [nth_zero]
    simp [madeCells, hj, Nat.mod_one]⟩
theorem OutB.below {w w1 : World} {g : Nat} {T : TypeId} {l : List Int} (h : OutB w g T l) (hb : Below w.heap.size w w1) : OutB w1 g T l := by
  obtain ⟨cs, h1, h2, h3⟩ := h
  exact ⟨cs, (hb.block g (heap_lt h1)).trans h1, h2, h3⟩
theorem ones_snoc (n k : Nat) (h : k < n) : (List.replicate k (1 : Int) ++ List.replicate (n - k) 0).set k 1 = List.replicate (k + 1) 1 ++ List.replicate (n - (k + 1)) 0 := by
  obtain ⟨m, rfl⟩ : ∃ m, n = k + 1 + m := ⟨n - (k + 1), by omega⟩
  have e1 : k + 1 + m - k = m + 1 := by omega
  have e2 : k + 1 + m - (k + 1) = m := by omega
  rw [e1, e2, List.set_append_right _ _ (by simp), List.replicate_succ' (n := k)]
  simp [List.replicate_succ]
theorem ones_len (n k : Nat) (h : k ≤ n) : (List.replicate k (1 : Int) ++ List.replicate (n - k) 0).length = n := by simp; omega
theorem ones_all (n : Nat) : List.replicate n (1 : Int) ++ List.replicate (n - n) 0 = List.replicate n 1 := by simp
theorem ones_zero (n : Nat) : List.replicate 0 (1 : Int) ++ List.replicate (n - 0) 0 = List.replicate n 0 := by simp
theorem nth_one (n j : Nat) (h : j < n) : nth (List.replicate n (1 : Int)) j = 1 := by
  unfold nth; rw [List.getD_eq_getElem?_getD, List.getElem?_replicate, if_pos h]; rfl

set_option maxHeartbeats 2000000 in
theorem life21a (A : Option Addr) (cap : Nat) (xss : List (List Int)) (u : Int) (B : Nat) (w : World) (_hBw : B ≤ w.heap.size) (_hR : RIs .i64 w B A xss) (hlen : xss.length ≤ 1000000) (_hrow : ∀ r, r < xss.length → (row xss r).length ≤ 1000000) (h : xss.length = 0 ∨ 16 < xss.length) : Calls Try.prog 21 #[.slice A xss.length cap, .int .i64 u] w (LfP w (lfE xss u) (lfL xss u)) := by
  rcases h with h | h
  · have hE : lfE xss u = 3 := lfE_0 h
    rw [hE, lfL_bad (by omega), h]
    clear hE
    go_enter Try.func21, Try.ntmps21
    go_wp2_with fail
    go_ret2
    exact lfp_nil (Below.refl _ _)
  · have hE : lfE xss u = 4 := lfE_17 h
    have hI : (16 : Int) < (xss.length : Int) := by omega
    have hz : ((xss.length : Int) == 0) = false := by rw [beq_eq_false_iff_ne]; omega
    rw [hE, lfL_bad (by omega)]
    clear hE
    go_enter Try.func21, Try.ntmps21
    go_wp2_with fail
    go_ret2
    exact lfp_nil (Below.refl _ _)

set_option maxHeartbeats 2000000 in
theorem life21b (A : Option Addr) (cap : Nat) (xss : List (List Int)) (u : Int) (B : Nat) (w : World) (_hBw : B ≤ w.heap.size) (hR : RIs .i64 w B A xss) (hlen : xss.length ≤ 1000000) (hrow : ∀ r, r < xss.length → (row xss r).length ≤ 1000000) (h0 : 0 < xss.length) (h16 : xss.length ≤ 16) (hck : ¬ ckR xss = 0) : Calls Try.prog 21 #[.slice A xss.length cap, .int .i64 u] w (LfP w (lfE xss u) (lfL xss u)) := by
  have hE : lfE xss u = ckR xss := lfE_ck h0 h16 hck
  have hz : ((xss.length : Int) == 0) = false := by rw [beq_eq_false_iff_ne]; omega
  have hI : (xss.length : Int) ≤ 16 := by omega
  obtain ⟨b, off, rfl, hb, hc⟩ := hR h0
  have HC := Lib.hid hc
  have HE := Lib.hid hE
  have Hrow := Lib.hid hrow
  have Hck := Lib.hid hck
  clear hc hE hrow hR hck
  go_enter Try.func21, Try.ntmps21
  go_wp2_with fail
  go_loop [24] (fun i => ∃ k : Nat, k ≤ xss.length ∧ i = .int .i64 k ∧ ∀ r, r < k → ckS (row xss r) = 0) (fun i => xss.length - (intOf i).toNat)
  case atStart => exact ⟨0, Nat.zero_le _, rfl, fun r h => absurd h (by omega)⟩
  case round =>
    obtain ⟨k, hk, rfl, hall⟩ := hrel
    have HA := Lib.hid hall
    clear hall
    by_cases hlt : k < xss.length
    · obtain ⟨Ar, Cr, hcell, hIs⟩ := HC.out k hlt
      have C := check15 Ar Cr (row xss k) B w hIs (Hrow.out k hlt)
      have hkI : (k : Int) < (xss.length : Int) := by omega
      have hk0 : (0 : Int) ≤ (k : Int) := by omega
      by_cases hz : ckS (row xss k) = 0
      · have HA' := Lib.hid (show ∀ r, r < k + 1 → ckS (row xss r) = 0 from fun r hr => by
          rcases Nat.lt_or_ge r k with g | g
          · exact HA.out r g
          · obtain rfl : r = k := by omega
            exact hz)
        rw [hz] at C
        have D := Lib.hid C
        clear C hz hIs
        go_wp2_with fail
        refine D.out.mono ?_
        rintro e w' ⟨rfl, rfl⟩
        go_wp2_with fail
        exact ⟨⟨k + 1, by omega, by go_num, HA'.out⟩, by simp [intOf]; omega⟩
      · have HB := Lib.hid (ckR_bad HA.out hlt hz)
        have Hz := Lib.hid hz
        have D := Lib.hid C
        obtain ⟨c, hcc⟩ : ∃ c, c = ckS (row xss k) := ⟨_, rfl⟩
        have hcb : (c != 0) = true := by rw [hcc]; simp [hz]
        rw [← hcc] at D HB Hz
        clear C hz hIs hcc
        go_wp2_with fail
        refine D.out.mono ?_
        rintro e w' ⟨rfl, rfl⟩
        go_wp2_with fail
        go_ret2
        have hL : lfL xss u = [] := lfL_bad (by rw [HE.out, HB.out]; exact Hz.out)
        rw [hL, HE.out, HB.out]
        exact lfp_nil (Below.refl _ _)
    · exact absurd (ckR_ok fun r hr => HA.out r (by omega)) Hck.out

set_option maxHeartbeats 2000000 in
theorem life21c (A : Option Addr) (cap : Nat) (xss : List (List Int)) (u : Int) (B : Nat) (w : World) (_hBw : B ≤ w.heap.size) (hR : RIs .i64 w B A xss) (hlen : xss.length ≤ 1000000) (hrow : ∀ r, r < xss.length → (row xss r).length ≤ 1000000) (h0 : 0 < xss.length) (h16 : xss.length ≤ 16) (hck : ckR xss = 0) (hu : ¬ (0 ≤ u ∧ u ≤ 1024)) : Calls Try.prog 21 #[.slice A xss.length cap, .int .i64 u] w (LfP w (lfE xss u) (lfL xss u)) := by
  have hE : lfE xss u = 1 := lfE_u h0 h16 hck hu
  have hz : ((xss.length : Int) == 0) = false := by rw [beq_eq_false_iff_ne]; omega
  have hI : (xss.length : Int) ≤ 16 := by omega
  obtain ⟨b, off, rfl, hb, hc⟩ := hR h0
  rw [hE, lfL_bad (by omega)]
  have HC := Lib.hid hc
  have Hrow := Lib.hid hrow
  have Hck := Lib.hid (ckR_all hck)
  clear hc hE hrow hR hck
  rcases (by omega : u < 0 ∨ (0 ≤ u ∧ 1024 < u)) with g | ⟨g, g'⟩
  all_goals
    clear hu
    go_enter Try.func21, Try.ntmps21
    go_wp2_with fail
    go_loop [24] (fun i => ∃ k : Nat, k ≤ xss.length ∧ i = .int .i64 k) (fun i => xss.length - (intOf i).toNat)
    case atStart => exact ⟨0, Nat.zero_le _, rfl⟩
    case round =>
      obtain ⟨k, hk, rfl⟩ := hrel
      by_cases hlt : k < xss.length
      · obtain ⟨Ar, Cr, hcell, hIs⟩ := HC.out k hlt
        have C := check15 Ar Cr (row xss k) B w hIs (Hrow.out k hlt)
        have hkI : (k : Int) < (xss.length : Int) := by omega
        have hk0 : (0 : Int) ≤ (k : Int) := by omega
        rw [Hck.out k hlt] at C
        have D := Lib.hid C
        clear C hIs
        go_wp2_with fail
        refine D.out.mono ?_
        rintro e w' ⟨rfl, rfl⟩
        go_wp2_with fail
        exact ⟨⟨k + 1, by omega, by go_num⟩, by simp [intOf]; omega⟩
      · have hkI : (xss.length : Int) ≤ (k : Int) := by omega
        go_wp2_with fail
        go_ret2
        exact lfp_nil (Below.refl _ _)

theorem Own.far {k : IntKind} {w : World} {B : Nat} {A : Option Addr} {T : TypeId} {xs : List Int} (h : Own k w B A T xs) {p : Addr} (hp : p.block < B) (v : Value) : Own k (w.setCell p v) B A T xs := fun hn => by
  obtain ⟨g, cs, e, hB, hh, hc⟩ := h hn
  exact ⟨g, cs, e, hB, (Below.heap_setCell _ _ _ _ (show g ≠ p.block by omega)).trans hh, hc⟩
theorem Own.allocd {k : IntKind} {w : World} {B : Nat} {A : Option Addr} {T : TypeId} {xs : List Int} (h : Own k w B A T xs) (o : Obj) : Own k (w.alloc o) B A T xs := h.below ((Below.refl _ _).alloc (Nat.le_refl _) _)
theorem Own.c0 {k : IntKind} {w : World} {B : Nat} {A : Option Addr} {T : TypeId} {xs : List Int} (h : Own k w B A T xs) (hn : 0 < xs.length) : ∃ g, A = some ⟨g, 0, none⟩ ∧ B ≤ g ∧ g < w.heap.size ∧ ∀ j, j < xs.length → w.cell? ⟨g, j, none⟩ = some (.int k (nth xs j)) := by
  obtain ⟨g, cs, e, hB, hh, hc⟩ := h hn
  exact ⟨g, e, hB, heap_lt hh, fun j hj => by simp [World.cell?, hh, hc j hj]⟩
theorem lfS_nil (u : Int) (s : List Int) : lfS u [] [] s = List.replicate s.length 1 := by unfold lfS; rw [gr_end (by simp)]; rfl
set_option maxRecDepth 100000 in
set_option maxHeartbeats 8000000 in
theorem life21d (A : Option Addr) (cap : Nat) (xss : List (List Int)) (u : Int) (B : Nat) (w : World) (_hBw : B ≤ w.heap.size) (hR : RIs .i64 w B A xss) (hlen : xss.length ≤ 1000000) (hrow : ∀ r, r < xss.length → (row xss r).length ≤ 1000000) (h0 : 0 < xss.length) (h16 : xss.length ≤ 16) (hck : ckR xss = 0) (hu : 0 ≤ u ∧ u ≤ 1024) : Calls Try.prog 21 #[.slice A xss.length cap, .int .i64 u] w (LfP w (lfE xss u) (lfL xss u)) := by
  have hE : lfE xss u = 0 := lfE_ok.2 ⟨⟨h0, h16⟩, hck, hu⟩
  have hz : ((xss.length : Int) == 0) = false := by rw [beq_eq_false_iff_ne]; omega
  have hI : (xss.length : Int) ≤ 16 := by omega
  obtain ⟨b, off, rfl, hb, hc⟩ := hR h0
  rw [hE, lfL_ok hE]
  have HC := Lib.hid hc
  have Hrow := Lib.hid hrow
  have Hck := Lib.hid (ckR_all hck)
  obtain ⟨u0, u1⟩ := hu
  clear hc hE hrow hR hck
  obtain ⟨i1, hj0, hy0, hy1, hy2⟩ := info_parts int_info
  have HI := Lib.hid (And.intro hj0 (And.intro hy0 (And.intro hy1 hy2)))
  clear hj0 hy0 hy1 hy2
  go_enter Try.func21, Try.ntmps21
  go_wp2_with fail
  go_loop [24] (fun i => ∃ k : Nat, k ≤ xss.length ∧ i = .int .i64 k) (fun i => xss.length - (intOf i).toNat)
  case atStart => exact ⟨0, Nat.zero_le _, rfl⟩
  case round =>
    obtain ⟨k, hk, rfl⟩ := hrel
    by_cases hlt : k < xss.length
    · obtain ⟨Ar, Cr, hcell, hIs⟩ := HC.out k hlt
      have C := check15 Ar Cr (row xss k) B w hIs (Hrow.out k hlt)
      have hkI : (k : Int) < (xss.length : Int) := by omega
      have hk0 : (0 : Int) ≤ (k : Int) := by omega
      rw [Hck.out k hlt] at C
      have D := Lib.hid C
      clear C hIs
      go_wp2_with fail
      refine D.out.mono ?_
      rintro e w' ⟨rfl, rfl⟩
      go_wp2_with fail
      exact ⟨⟨k + 1, by omega, by go_num⟩, by simp [intOf]; omega⟩
    · have hkI : (xss.length : Int) ≤ (k : Int) := by omega
      go_wp2_with fail
      obtain rfl : k = xss.length := by omega
      clear hlt hkI hk
      go_loopw [9, 10, 42] (fun v v' i wr => ∃ (k : Nat) (A' : Option Addr) (cap' : Nat), k ≤ xss.length ∧ i = .int .i64 k ∧ v = .slice A' (lfA u xss k).length cap' ∧ v' = .slice A' (lfA u xss k).length cap' ∧ Own .i64 wr w.heap.size A' 3 (lfA u xss k) ∧ Below w.heap.size w wr) (fun _ _ i _ => xss.length - (intOf i).toNat)
      case atStart => exact ⟨0, none, 0, Nat.zero_le _, rfl, rfl, rfl, own_nil, Below.refl _ _⟩
      case round =>
        obtain ⟨k, A', cap', hk, rfl, rfl, rfl, hown, hB⟩ := hrel
        by_cases hlt : k < xss.length
        · obtain ⟨Ar, Cr, hcell, hIs⟩ := HC.out k hlt
          have hkI : (k : Int) < (xss.length : Int) := by omega
          have hk0 : (0 : Int) ≤ (k : Int) := by omega
          obtain ⟨hs64, hsok⟩ := ckS_ok.1 (Hck.out k hlt)
          have hmk : ∀ W : World, (Instr.makeSlice 22 (.int .i64 ((row xss k).length : Int)) (.int .i64 ((row xss k).length : Int))).run Try.prog W = .ok (.slice (some ⟨W.heap.size, 0, none⟩) (row xss k).length (row xss k).length) (W.alloc (.cells (madeCells #[.int .i64 0] (row xss k).length) 3)) := fun W => by
            obtain ⟨hj0, hy0, hy1, hy2⟩ := HI.out
            have h := run_makeN (P := Try.prog) 22 3 i1 _ Try.underlying22 hj0 hy0 (row xss k).length (by omega) (by omega) W
            rw [hy1, Nat.mul_one] at h
            simpa [Value.cells] using h
          have x1 := (hB.cell (p := ⟨b, off + k, none⟩) (show b < _ by omega)).trans hcell
          have HW := Lib.hid hown
          have HB := Lib.hid hB
          have HS := Lib.hid hIs
          have hBs := hB.size
          clear hown hB hIs hcell
          go_wp2_with fail
          clear hmk x1
          obtain ⟨wo, rfl⟩ : ∃ wo : World, wo = wr := ⟨_, rfl⟩
          obtain ⟨g, hg⟩ : ∃ g, g = wo.heap.size := ⟨_, rfl⟩
          have O0 := OutB.made wo (row xss k).length
          rw [← ones_zero] at O0
          have B0 : Below wo.heap.size wo (wo.alloc (.cells (madeCells #[.int .i64 0] (row xss k).length) 3)) := (Below.refl _ _).alloc (Nat.le_refl _) _
          rw [← hg] at O0 B0 ⊢
          have HG := Lib.hid hg
          clear hg
          go_loopw [52] (fun i wr => ∃ q : Nat, q ≤ (row xss k).length ∧ i = .int .i64 q ∧ OutB wr g 3 (List.replicate q 1 ++ List.replicate ((row xss k).length - q) 0) ∧ Below g wo wr) (fun i _ => (row xss k).length - (intOf i).toNat)
          case atStart => exact ⟨0, Nat.zero_le _, rfl, O0, B0⟩
          case round =>
            clear O0 B0
            obtain ⟨q, hq, rfl, hO, hB⟩ := hrel
            by_cases hqlt : q < (row xss k).length
            · have hqI : (q : Int) < ((row xss k).length : Int) := by omega
              have hq0 : (0 : Int) ≤ (q : Int) := by omega
              have c1 := hO.cell (j := q) (by rw [ones_len _ _ hq]; exact hqlt)
              have c2 := hO.frozen q
              have O1 := Lib.hid (hO.set q 1 (by rw [ones_len _ _ hq]; exact hqlt))
              have HB' := Lib.hid hB
              clear hO hB
              go_wp2_with fail
              exact ⟨⟨q + 1, by omega, by go_num, by rw [← ones_snoc _ _ hqlt]; exact O1.out, HB'.out.setCell (p := ⟨g, q, none⟩) (Nat.le_refl _) _⟩, by simp [intOf]; omega⟩
            · obtain rfl : q = (row xss k).length := by omega
              rw [ones_all] at hO
              have HO := Lib.hid hO
              have HB' := Lib.hid hB
              clear hO hB hqlt hq
              cases k with
              | zero =>
                go_wp2_with fail
                exact ⟨⟨1, some ⟨g, 0, none⟩, (row xss 0).length, by omega, by go_num, by rw [show lfA u xss 1 = lfS u [] [] (row xss 0) from rfl, lfS_nil]; simp, by rw [show lfA u xss 1 = lfS u [] [] (row xss 0) from rfl, lfS_nil]; simp, by rw [show lfA u xss 1 = lfS u [] [] (row xss 0) from rfl, lfS_nil]; exact HO.out.own (by have := HG.out; omega), HB.out.trans (HB'.out.mono (by have := HG.out; omega))⟩, by simp [intOf]; omega⟩
              | succ k =>
                have e0 : (((k + 1 : Nat) : Int) - 1) = (k : Int) := by omega
                have ep : (0 : Int) < ((k + 1 : Nat) : Int) := by omega
                have hkl : k < xss.length := by omega
                have hklI : (k : Int) < (xss.length : Int) := by omega
                have hk0' : (0 : Int) ≤ (k : Int) := by omega
                obtain ⟨Ap, Cp, hcellp, hIsp⟩ := HC.out k hkl
                have hgw : w.heap.size ≤ g := by have := HG.out; omega
                have HBw : Below w.heap.size w wr := HB.out.trans (HB'.out.mono hgw)
                have x2 := (HBw.cell (p := ⟨b, off + k, none⟩) (show b < _ by omega)).trans hcellp
                obtain ⟨hp64, hpok⟩ := ckS_ok.1 (Hck.out k hkl)
                have M := Lib.hid (match31 Ap Ar Cp Cr (row xss k) (row xss (k + 1)) u w.heap.size wr hpok hsok hp64 hs64 HBw.size ((hIsp.mono _hBw).below HBw) ((HS.out.mono _hBw).below HBw))
                have HBW := Lib.hid HBw
                clear hcellp hIsp HBw
                go_wp2_with fail
                refine M.out.mono ?_
                rintro e w3 ⟨v3, rfl, hv3, hb3⟩
                obtain ⟨A3, cap3, rfl, hown3⟩ := hv3.own
                obtain ⟨P, hP⟩ : ∃ P, P = gr u (row xss k) (row xss (k + 1)) 0 0 := ⟨_, rfl⟩
                obtain ⟨F, hF⟩ : ∃ F, F = lfA u xss (k + 1) := ⟨_, rfl⟩
                have hFl : F.length = (row xss k).length := by rw [hF]; exact lfA_len u xss (k + 1)
                have hFb : ∀ j, 0 ≤ nth F j ∧ nth F j ≤ 16 := fun j => by rw [hF]; have := lfA_bd u xss (k + 1) j; omega
                have hAsc : Asc P := by rw [hP]; exact gr_Asc u _ _ _ 0 0 (Nat.le_refl _)
                have hAt : ∀ p ∈ P, p.1 < (row xss k).length ∧ p.2 < (row xss (k + 1)).length := fun p hp => by
                  rw [hP] at hp
                  have := gr_at hp
                  exact ⟨this.2.1, this.2.2.2.1⟩
                have hfin : lfA u xss (k + 1 + 1) = lfP F P (List.replicate (row xss (k + 1)).length 1) := by rw [hP, hF]; rfl
                rw [← hP] at hown3
                rw [← hF] at HW
                have hO3 := HO.out.below hb3
                have hB3 := HB'.out.trans (hb3.mono (Nat.le_of_lt HO.out.lt))
                obtain ⟨Bs, hBs⟩ : ∃ Bs, Bs = wr.heap.size := ⟨_, rfl⟩
                have hgB : g < Bs := by rw [hBs]; exact HO.out.lt
                rw [← hBs] at hown3
                have hP64 : P.length ≤ 64 := by have := (gr_le u (row xss k) (row xss (k + 1)) _ 0 0 (Nat.le_refl _)).1; rw [hP]; omega
                have HFin := Lib.hid hfin
                have HFL := Lib.hid hFl
                have HFB := Lib.hid hFb
                have HAs := Lib.hid hAsc
                have HAt := Lib.hid hAt
                have HwF := Lib.hid (show Is .i64 wo wo.heap.size A' F from HW.out.is)
                have HLen := Lib.hid (show (lfA u xss (k + 1)).length = F.length by rw [hF])
                rw [← hF, ← hP]
                clear hb3 hP hF hFl hFb hAsc hAt hfin hBs M HO x2 hv3
                go_wp2_with fail
                obtain ⟨wo3, rfl⟩ : ∃ wo : World, wo = w3 := ⟨_, rfl⟩
                go_loopw [70] (fun i wr => ∃ q : Nat, q ≤ P.length ∧ i = .int .i64 q ∧ OutB wr g 3 (lfP F (P.take q) (List.replicate (row xss (k + 1)).length 1)) ∧ Own .i64 wr Bs A3 46 (flat P) ∧ Below g wo wr) (fun i _ => P.length - (intOf i).toNat)
                case atStart => exact ⟨0, Nat.zero_le _, rfl, hO3, hown3, hB3⟩
                case round =>
                  clear hO3 hown3 hB3
                  obtain ⟨q, hq, rfl, hO, hown3, hB⟩ := hrel
                  by_cases hqlt : q < P.length
                  · have hqI : (q : Int) < (P.length : Int) := by omega
                    have hq0 : (0 : Int) ≤ (q : Int) := by omega
                    have hmem : P.getD q (0, 0) ∈ P := by rw [List.getD_eq_getElem?_getD, List.getElem?_eq_getElem hqlt]; exact List.getElem_mem _
                    have hat := HAt.out _ hmem
                    have hasc := Asc_take P q HAs.out hqlt
                    have htk := take_pair P q hqlt
                    obtain ⟨f1, f2⟩ := flat_nth P q hqlt
                    obtain ⟨x, hx⟩ : ∃ x, x = (P.getD q (0, 0)).1 := ⟨_, rfl⟩
                    obtain ⟨y, hy⟩ : ∃ y, y = (P.getD q (0, 0)).2 := ⟨_, rfl⟩
                    have hpe : P.getD q (0, 0) = (x, y) := Prod.ext hx.symm hy.symm
                    rw [hpe] at hat hasc htk f1 f2
                    obtain ⟨hxl, hyl⟩ := hat
                    have hfl := flat_len P
                    obtain ⟨g3, rfl, hg3, hg3s, hc3⟩ := hown3.c0 (by omega)
                    have c1 := hc3 (q * 2) (by omega)
                    have c2 := hc3 (q * 2 + 1) (by omega)
                    rw [f1] at c1
                    rw [f2] at c2
                    obtain ⟨bb, oo, rfl, hbb, hcc⟩ := HwF.out (by have := HFL.out; omega)
                    have hgo := HG.out
                    have c3 := (hB.cell (p := ⟨bb, oo + x, none⟩) (show bb < g by omega)).trans (hcc x (by have := HFL.out; omega))
                    have hcl : (lfP F (P.take q) (List.replicate (row xss (k + 1)).length 1)).length = (row xss (k + 1)).length := by rw [lfP_len]; simp
                    have c4 := hO.cell (j := y) (by rw [hcl]; exact hyl)
                    have c5 := hO.frozen y
                    rw [lfP_keep F y _ _ (fun p hp => Nat.ne_of_lt (hasc p hp)), nth_one _ _ hyl] at c4
                    have HCL := Lib.hid hcl
                    have hfb := HFB.out x
                    have hfb1 := hfb.1
                    have hfb2 := hfb.2
                    have ws : IntKind.i64.wrap (1 + nth F x) = 1 + nth F x := IntWalk.i64_in _ (by omega)
                    have hTk := Lib.hid (show lfP F (P.take (q + 1)) (List.replicate (row xss (k + 1)).length 1) = (lfP F (P.take q) (List.replicate (row xss (k + 1)).length 1)).set y (1 + nth F x) by rw [htk, lfP_snoc, Int.add_comm])
                    have hgs : g < wr.heap.size := hO.lt
                    have hxI : (x : Int) < (F.length : Int) := by have := HFL.out; omega
                    have hxI0 : (0 : Int) ≤ (x : Int) := by omega
                    have hyI : (y : Int) < ((row xss (k + 1)).length : Int) := by omega
                    have hyI0 : (0 : Int) ≤ (y : Int) := by omega
                    have HO3 := Lib.hid hown3
                    have HB3 := Lib.hid hB
                    have HOO := Lib.hid hO
                    have HT := Lib.hid (And.intro hx (And.intro hy hpe))
                    clear hown3 hB hO hx hy hpe hmem hasc htk f1 f2 hfl hc3 hcc hcl hfb hgo
                    go_wp2_with fail
                    obtain ⟨X, hX⟩ : ∃ X, X = wr.alloc (.cells #[.int .i64 (x : Int), .int .i64 (y : Int)] 46) := ⟨_, rfl⟩
                    have k1 : X.cell? ⟨wr.heap.size, 0, none⟩ = some (.int .i64 (x : Int)) := by rw [hX]; exact World.cell?_alloc_at _ _ _ _ rfl
                    have k2 : X.cell? ⟨wr.heap.size, 1, none⟩ = some (.int .i64 (y : Int)) := by rw [hX]; exact World.cell?_alloc_at _ _ _ _ rfl
                    have k3 : X.cell? ⟨bb, oo + x, none⟩ = some (.int .i64 (nth F x)) := by rw [hX]; exact (World.cell?_alloc_old _ _ _ (by show bb ≠ _; have := HG.out; omega)).trans c3
                    have k4 : X.cell? ⟨g, y, none⟩ = some (.int .i64 1) := by rw [hX]; exact (World.cell?_alloc_old _ _ _ (by show g ≠ _; omega)).trans c4
                    have hXa : Below wr.heap.size wr X := by rw [hX]; exact (Below.refl _ _).alloc (Nat.le_refl _) _
                    have k5 : X.frozen? ⟨g, y, none⟩ = false := (hXa.frozen (p := ⟨g, y, none⟩) hgs).trans c5
                    have hXB := Lib.hid hXa
                    rw [← hX]
                    clear hX c1 c2 c3 c4 c5 hXa
                    refine still_drew 11 (by kernel_rfl) (by kernel_rfl) ?_
                    simp only [List.take_succ_cons, List.take_zero, List.drop_succ_cons, List.drop_zero]
                    repeat still_step
                    refine wpStill_nil ?_
                    go_wp2_with fail
                    have O1 := (HOO.out.below hXB.out).set y (1 + nth F x) (by rw [HCL.out]; exact hyl)
                    exact ⟨⟨q + 1, by omega, by go_num, by rw [hTk.out]; exact O1.drew, (HO3.out.below hXB.out).far (p := ⟨g, y, none⟩) hgB _, ((HB3.out.trans (hXB.out.mono (Nat.le_of_lt hgs))).setCell (p := ⟨g, y, none⟩) (Nat.le_refl _) _).drew⟩, by simp [intOf]; omega⟩
                  · obtain rfl : q = P.length := by omega
                    rw [List.take_length] at hO
                    have HOO := Lib.hid hO
                    have HB3 := Lib.hid hB
                    have hfl2 := lfP_len F P (List.replicate (row xss (k + 1)).length 1)
                    rw [List.length_replicate] at hfl2
                    have Hfl := Lib.hid hfl2
                    clear hown3 hO hB hfl2
                    go_wp2_with fail
                    exact ⟨⟨k + 1 + 1, some ⟨g, 0, none⟩, (row xss (k + 1)).length, by omega, by go_num, by rw [HFin.out, Hfl.out], by rw [HFin.out, Hfl.out], by rw [HFin.out]; exact HOO.out.own hgw, HB.out.trans (HB3.out.mono hgw)⟩, by simp [intOf]; omega⟩
        · obtain rfl : k = xss.length := by omega
          have HW := Lib.hid hown
          have HB := Lib.hid hB
          clear hown hB
          go_wp2_with fail
          go_ret2
          exact ⟨_, _, rfl, HW.out, HB.out⟩

theorem life21 (A : Option Addr) (cap : Nat) (xss : List (List Int)) (u : Int) (B : Nat) (w : World) (_hBw : B ≤ w.heap.size) (hR : RIs .i64 w B A xss) (hlen : xss.length ≤ 1000000) (hrow : ∀ r, r < xss.length → (row xss r).length ≤ 1000000) : Calls Try.prog 21 #[.slice A xss.length cap, .int .i64 u] w (LfP w (lfE xss u) (lfL xss u)) := by
  by_cases h0 : xss.length = 0 ∨ 16 < xss.length
  · exact life21a A cap xss u B w _hBw hR hlen hrow h0
  · by_cases h1 : ckR xss = 0
    · by_cases h2 : 0 ≤ u ∧ u ≤ 1024
      · exact life21d A cap xss u B w _hBw hR hlen hrow (by omega) (by omega) h1 h2
      · exact life21c A cap xss u B w _hBw hR hlen hrow (by omega) (by omega) h1 h2
    · exact life21b A cap xss u B w _hBw hR hlen hrow (by omega) (by omega) h1
end Go.Proofs.Ytmkpblfacnnnoaa
