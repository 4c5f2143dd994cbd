/- The reference of package fruit: Life. -/
import Derived.Test.YtmkpblfacnnnoaaRows
import Derived.WalkKit
import Derived.WalkLawsBesides
import Derived.WalkSpells
import Derived.ProofKit
import Derived.Below
import Derived.Outline
import Derived.Lib.Hide
import Derived.Deep.RegionWith
import Derived.Deep.RegionHeld3
import Derived.Deep.DrawnRows
import Derived.StillTailTactics
import Derived.BigQuiet
import Derived.Deep.QuietTactic
import Derived.Deep.LoopGhost
import Derived.IntWalk
import Derived.Test.YtmkpblfacnnnoaaFrG
namespace Go.Proofs.Ytmkpblfacnnnoaa
open Go.RowKit
attribute [local go_sem ↓] Go.wp_at_zero Go.wp_at_succ
attribute [local go_sem] wrap_lit

theorem DrN.cell {w wr : World} (h : DrN w wr) {a : Addr} {v : Value} (hc : w.cell? a = some v) : wr.cell? a = some v := by obtain ⟨m, rfl⟩ := h; exact hc
theorem DrN.below {w wr : World} (h : DrN w wr) : Below w.heap.size w wr := by obtain ⟨m, rfl⟩ := h; exact below_drewN (Below.refl _ _) _
set_option maxHeartbeats 2000000 in
theorem life22a (A : Option Addr) (cap : Nat) (xss : List (List Int)) (u : Int) (B : Nat) (w : World) (_hBw : B ≤ w.heap.size) (_hR : RIs .i64 w B A xss) (hlen : xss.length ≤ 1000000) (_hrow : ∀ r, r < xss.length → (row xss r).length ≤ 1000000) (h : xss.length = 0 ∨ 16 < xss.length) : Calls Try.prog 22 #[.slice A xss.length cap, .int .i64 u] w (LfP w (lfE xss u) (lfL xss u)) := by
  rcases h with h | h
  · have hE : lfE xss u = 3 := lfE_0 h
    rw [hE, lfL_bad (by omega), h]
    clear hE
    go_enter Try.func22, Try.ntmps22
    go_wp2_with fail
    go_ret2
    exact lfp_nil (Below.refl _ _)
  · have hE : lfE xss u = 4 := lfE_17 h
    have hI : (16 : Int) < (xss.length : Int) := by omega
    have hz : ((xss.length : Int) == 0) = false := by rw [beq_eq_false_iff_ne]; omega
    rw [hE, lfL_bad (by omega)]
    clear hE
    go_enter Try.func22, Try.ntmps22
    go_wp2_with fail
    go_ret2
    exact lfp_nil (Below.refl _ _)

set_option maxHeartbeats 2000000 in
theorem life22b (A : Option Addr) (cap : Nat) (xss : List (List Int)) (u : Int) (B : Nat) (w : World) (_hBw : B ≤ w.heap.size) (hR : RIs .i64 w B A xss) (hlen : xss.length ≤ 1000000) (hrow : ∀ r, r < xss.length → (row xss r).length ≤ 1000000) (h0 : 0 < xss.length) (h16 : xss.length ≤ 16) (hck : ¬ ckR xss = 0) : Calls Try.prog 22 #[.slice A xss.length cap, .int .i64 u] w (LfP w (lfE xss u) (lfL xss u)) := by
  have hE : lfE xss u = ckR xss := lfE_ck h0 h16 hck
  have hz : ((xss.length : Int) == 0) = false := by rw [beq_eq_false_iff_ne]; omega
  have hI : (xss.length : Int) ≤ 16 := by omega
  obtain ⟨b, off, rfl, hb, hc⟩ := hR h0
  have HC := Lib.hid hc
  have HE := Lib.hid hE
  have Hrow := Lib.hid hrow
  have Hck := Lib.hid hck
  clear hc hE hrow hR hck
  go_enter Try.func22, Try.ntmps22
  go_wp2_with fail
  go_loopw [6] (fun i wr => ∃ k : Nat, k ≤ xss.length ∧ i = .int .i64 k ∧ (∀ r, r < k → ckS (row xss r) = 0) ∧ DrN w wr) (fun i _ => xss.length - (intOf i).toNat)
  case atStart => exact ⟨0, Nat.zero_le _, rfl, fun r h => absurd h (by omega), DrN.refl w⟩
  case round =>
    obtain ⟨k, hk, rfl, hall, hDr⟩ := hrel
    have HA := Lib.hid hall
    clear hall
    by_cases hlt : k < xss.length
    · obtain ⟨Ar, Cr, hcell, hIs⟩ := HC.out k hlt
      have C := check16 Ar Cr (row xss k) B wr (hDr.is hIs) (Hrow.out k hlt)
      have hcell := hDr.cell hcell
      have hkI : (k : Int) < (xss.length : Int) := by omega
      have hk0 : (0 : Int) ≤ (k : Int) := by omega
      by_cases hz : ckS (row xss k) = 0
      · have HA' := Lib.hid (show ∀ r, r < k + 1 → ckS (row xss r) = 0 from fun r hr => by
          rcases Nat.lt_or_ge r k with g | g
          · exact HA.out r g
          · obtain rfl : r = k := by omega
            exact hz)
        rw [hz] at C
        have D := Lib.hid C
        clear C hz hIs
        go_wp2_with fail
        refine D.out.mono ?_
        rintro e w' ⟨rfl, n1, rfl⟩
        go_wp2_with fail
        exact ⟨⟨k + 1, by omega, by go_num, HA'.out, hDr.on n1⟩, by simp [intOf]; omega⟩
      · have HB := Lib.hid (ckR_bad HA.out hlt hz)
        have Hz := Lib.hid hz
        have D := Lib.hid C
        obtain ⟨c, hcc⟩ : ∃ c, c = ckS (row xss k) := ⟨_, rfl⟩
        have hcb : (c != 0) = true := by rw [hcc]; simp [hz]
        rw [← hcc] at D HB Hz
        clear C hz hIs hcc
        go_wp2_with fail
        refine D.out.mono ?_
        rintro e w' ⟨rfl, n1, rfl⟩
        go_wp2_with fail
        go_ret2
        have hL : lfL xss u = [] := lfL_bad (by rw [HE.out, HB.out]; exact Hz.out)
        rw [hL, HE.out, HB.out]
        exact lfp_nil (hDr.on n1).below
    · exact absurd (ckR_ok fun r hr => HA.out r (by omega)) Hck.out

set_option maxHeartbeats 2000000 in
theorem life22c (A : Option Addr) (cap : Nat) (xss : List (List Int)) (u : Int) (B : Nat) (w : World) (_hBw : B ≤ w.heap.size) (hR : RIs .i64 w B A xss) (hlen : xss.length ≤ 1000000) (hrow : ∀ r, r < xss.length → (row xss r).length ≤ 1000000) (h0 : 0 < xss.length) (h16 : xss.length ≤ 16) (hck : ckR xss = 0) (hu : ¬ (0 ≤ u ∧ u ≤ 1024)) : Calls Try.prog 22 #[.slice A xss.length cap, .int .i64 u] w (LfP w (lfE xss u) (lfL xss u)) := by
  have hE : lfE xss u = 1 := lfE_u h0 h16 hck hu
  have hz : ((xss.length : Int) == 0) = false := by rw [beq_eq_false_iff_ne]; omega
  have hI : (xss.length : Int) ≤ 16 := by omega
  obtain ⟨b, off, rfl, hb, hc⟩ := hR h0
  rw [hE, lfL_bad (by omega)]
  have HC := Lib.hid hc
  have Hrow := Lib.hid hrow
  have Hck := Lib.hid (ckR_all hck)
  clear hc hE hrow hR hck
  rcases (by omega : u < 0 ∨ (0 ≤ u ∧ 1024 < u)) with g | ⟨g, g'⟩
  all_goals
    clear hu
    go_enter Try.func22, Try.ntmps22
    go_wp2_with fail
    go_loopw [6] (fun i wr => ∃ k : Nat, k ≤ xss.length ∧ i = .int .i64 k ∧ DrN w wr) (fun i _ => xss.length - (intOf i).toNat)
    case atStart => exact ⟨0, Nat.zero_le _, rfl, DrN.refl w⟩
    case round =>
      obtain ⟨k, hk, rfl, hDr⟩ := hrel
      by_cases hlt : k < xss.length
      · obtain ⟨Ar, Cr, hcell, hIs⟩ := HC.out k hlt
        have C := check16 Ar Cr (row xss k) B wr (hDr.is hIs) (Hrow.out k hlt)
        have hcell := hDr.cell hcell
        have hkI : (k : Int) < (xss.length : Int) := by omega
        have hk0 : (0 : Int) ≤ (k : Int) := by omega
        rw [Hck.out k hlt] at C
        have D := Lib.hid C
        clear C hIs
        go_wp2_with fail
        refine D.out.mono ?_
        rintro e w' ⟨rfl, n1, rfl⟩
        go_wp2_with fail
        exact ⟨⟨k + 1, by omega, by go_num, hDr.on n1⟩, by simp [intOf]; omega⟩
      · have hkI : (xss.length : Int) ≤ (k : Int) := by omega
        go_wp2_with fail
        go_ret2
        exact lfp_nil hDr.below

set_option maxRecDepth 100000 in
set_option maxHeartbeats 8000000 in
theorem life22d (A : Option Addr) (cap : Nat) (xss : List (List Int)) (u : Int) (B : Nat) (w : World) (_hBw : B ≤ w.heap.size) (hR : RIs .i64 w B A xss) (hlen : xss.length ≤ 1000000) (hrow : ∀ r, r < xss.length → (row xss r).length ≤ 1000000) (h0 : 0 < xss.length) (h16 : xss.length ≤ 16) (hck : ckR xss = 0) (hu : 0 ≤ u ∧ u ≤ 1024) : Calls Try.prog 22 #[.slice A xss.length cap, .int .i64 u] w (LfP w (lfE xss u) (lfL xss u)) := by
  have hE : lfE xss u = 0 := lfE_ok.2 ⟨⟨h0, h16⟩, hck, hu⟩
  have hz : ((xss.length : Int) == 0) = false := by rw [beq_eq_false_iff_ne]; omega
  have hI : (xss.length : Int) ≤ 16 := by omega
  obtain ⟨b, off, rfl, hb, hc⟩ := hR h0
  rw [hE, lfL_ok hE]
  have HC := Lib.hid hc
  have Hrow := Lib.hid hrow
  have Hck := Lib.hid (ckR_all hck)
  obtain ⟨u0, u1⟩ := hu
  clear hc hE hrow hR hck
  obtain ⟨i1, hj0, hy0, hy1, hy2⟩ := info_parts int_info
  have HI := Lib.hid (And.intro hj0 (And.intro hy0 (And.intro hy1 hy2)))
  clear hj0 hy0 hy1 hy2
  go_enter Try.func22, Try.ntmps22
  go_wp2_with fail
  go_loopw [6] (fun i wr => ∃ k : Nat, k ≤ xss.length ∧ i = .int .i64 k ∧ DrN w wr) (fun i _ => xss.length - (intOf i).toNat)
  case atStart => exact ⟨0, Nat.zero_le _, rfl, DrN.refl w⟩
  case round =>
    obtain ⟨k, hk, rfl, hDr⟩ := hrel
    by_cases hlt : k < xss.length
    · obtain ⟨Ar, Cr, hcell, hIs⟩ := HC.out k hlt
      have C := check16 Ar Cr (row xss k) B wr (hDr.is hIs) (Hrow.out k hlt)
      have hcell := hDr.cell hcell
      have hkI : (k : Int) < (xss.length : Int) := by omega
      have hk0 : (0 : Int) ≤ (k : Int) := by omega
      rw [Hck.out k hlt] at C
      have D := Lib.hid C
      clear C hIs
      go_wp2_with fail
      refine D.out.mono ?_
      rintro e w' ⟨rfl, n1, rfl⟩
      go_wp2_with fail
      exact ⟨⟨k + 1, by omega, by go_num, hDr.on n1⟩, by simp [intOf]; omega⟩
    · have hkI : (xss.length : Int) ≤ (k : Int) := by omega
      go_wp2_with fail
      obtain rfl : k = xss.length := by omega
      clear hlt hkI hk
      go_loopw [8, 9] (fun v i wr => ∃ (k : Nat) (A' : Option Addr) (cap' : Nat), k ≤ xss.length ∧ i = .int .i64 k ∧ v = .slice A' (lfA u xss k).length cap' ∧ Own .i64 wr w.heap.size A' 3 (lfA u xss k) ∧ Below w.heap.size w wr) (fun _ i _ => xss.length - (intOf i).toNat)
      case atStart => exact ⟨0, none, 0, Nat.zero_le _, rfl, rfl, own_nil, hDr.below⟩
      case round =>
        obtain ⟨k, A', cap', hk, rfl, rfl, hown, hB⟩ := hrel
        by_cases hlt : k < xss.length
        · obtain ⟨Ar, Cr, hcell, hIs⟩ := HC.out k hlt
          have hkI : (k : Int) < (xss.length : Int) := by omega
          have hk0 : (0 : Int) ≤ (k : Int) := by omega
          obtain ⟨hs64, hsok⟩ := ckS_ok.1 (Hck.out k hlt)
          have hmk : ∀ W : World, (Instr.makeSlice 22 (.int .i64 ((row xss k).length : Int)) (.int .i64 ((row xss k).length : Int))).run Try.prog W = .ok (.slice (some ⟨W.heap.size, 0, none⟩) (row xss k).length (row xss k).length) (W.alloc (.cells (madeCells #[.int .i64 0] (row xss k).length) 3)) := fun W => by
            obtain ⟨hj0, hy0, hy1, hy2⟩ := HI.out
            have h := run_makeN (P := Try.prog) 22 3 i1 _ Try.underlying22 hj0 hy0 (row xss k).length (by omega) (by omega) W
            rw [hy1, Nat.mul_one] at h
            simpa [Value.cells] using h
          have x1 := (hB.cell (p := ⟨b, off + k, none⟩) (show b < _ by omega)).trans hcell
          have HW := Lib.hid hown
          have HB := Lib.hid hB
          have HS := Lib.hid hIs
          have hBs := hB.size
          have HCell := Lib.hid hcell
          clear hown hB hIs hcell
          go_wp2_with fail
          clear hmk x1
          obtain ⟨wo, rfl⟩ : ∃ wo : World, wo = wr := ⟨_, rfl⟩
          obtain ⟨g, hg⟩ : ∃ g, g = wo.heap.size := ⟨_, rfl⟩
          have O0 := OutB.made wo (row xss k).length
          rw [← ones_zero] at O0
          have B0 : Below wo.heap.size wo (wo.alloc (.cells (madeCells #[.int .i64 0] (row xss k).length) 3)) := (Below.refl _ _).alloc (Nat.le_refl _) _
          rw [← hg] at O0 B0 ⊢
          have HG := Lib.hid hg
          clear hg
          go_loopw [11] (fun i wr => ∃ q : Nat, q ≤ (row xss k).length ∧ i = .int .i64 q ∧ OutB wr g 3 (List.replicate q 1 ++ List.replicate ((row xss k).length - q) 0) ∧ Below g wo wr) (fun i _ => (row xss k).length - (intOf i).toNat)
          case atStart => exact ⟨0, Nat.zero_le _, rfl, O0, B0⟩
          case round =>
            clear O0 B0
            obtain ⟨q, hq, rfl, hO, hB⟩ := hrel
            by_cases hqlt : q < (row xss k).length
            · have hqI : (q : Int) < ((row xss k).length : Int) := by omega
              have hq0 : (0 : Int) ≤ (q : Int) := by omega
              have c1 := hO.cell (j := q) (by rw [ones_len _ _ hq]; exact hqlt)
              have c2 := hO.frozen q
              have O1 := Lib.hid (hO.set q 1 (by rw [ones_len _ _ hq]; exact hqlt))
              have HB' := Lib.hid hB
              clear hO hB
              go_wp2_with fail
              exact ⟨⟨q + 1, by omega, by go_num, by rw [← ones_snoc _ _ hqlt]; exact O1.out, HB'.out.setCell (p := ⟨g, q, none⟩) (Nat.le_refl _) _⟩, by simp [intOf]; omega⟩
            · obtain rfl : q = (row xss k).length := by omega
              rw [ones_all] at hO
              have HO := Lib.hid hO
              have HB' := Lib.hid hB
              clear hO hB hqlt hq
              cases k with
              | zero =>
                go_wp2_with fail
                exact ⟨⟨1, some ⟨g, 0, none⟩, (row xss 0).length, by omega, by go_num, by rw [show lfA u xss 1 = lfS u [] [] (row xss 0) from rfl, lfS_nil]; simp, by rw [show lfA u xss 1 = lfS u [] [] (row xss 0) from rfl, lfS_nil]; exact HO.out.own (by have := HG.out; omega), HB.out.trans (HB'.out.mono (by have := HG.out; omega))⟩, by simp [intOf]; omega⟩
              | succ k =>
                have e0 : (((k + 1 : Nat) : Int) - 1) = (k : Int) := by omega
                have ep : (0 : Int) < ((k + 1 : Nat) : Int) := by omega
                have hkl : k < xss.length := by omega
                have hklI : (k : Int) < (xss.length : Int) := by omega
                have hk0' : (0 : Int) ≤ (k : Int) := by omega
                obtain ⟨Ap, Cp, hcellp, hIsp⟩ := HC.out k hkl
                have hgw : w.heap.size ≤ g := by have := HG.out; omega
                have HBw : Below w.heap.size w wr := HB.out.trans (HB'.out.mono hgw)
                have x2 := (HBw.cell (p := ⟨b, off + k, none⟩) (show b < _ by omega)).trans hcellp
                obtain ⟨hp64, hpok⟩ := ckS_ok.1 (Hck.out k hkl)
                have m0 : mtE (row xss k) (row xss (k + 1)) u = 0 := mtE_ok.2 ⟨Hck.out k hkl, Hck.out (k + 1) hlt, u0, u1⟩
                have M0 := match14 Ap Ar Cp Cr (row xss k) (row xss (k + 1)) u w.heap.size wr.drew HBw.size ((hIsp.mono _hBw).below HBw.drew) ((HS.out.mono _hBw).below HBw.drew) (by omega) (by omega)
                rw [m0, mtL_ok m0] at M0
                have M := Lib.hid M0
                have wk : IntKind.i64.wrap (((k + 1 : Nat) : Int) - 1) = (k : Int) := by rw [e0]; exact IntWalk.i64_in _ (by omega)
                have x1 := (HBw.cell (p := ⟨b, off + (k + 1), none⟩) (show b < _ by omega)).trans HCell.out
                have hbw : b < wr.heap.size := by have := HBw.size; omega
                have HBW := Lib.hid HBw
                have k1I : ((k + 1 : Nat) : Int) < (xss.length : Int) := by omega
                have k10 : (0 : Int) ≤ ((k + 1 : Nat) : Int) := by omega
                have wk2 : IntKind.i64.wrap ((k : Int) + 1 - 1) = (k : Int) := by rw [show (k : Int) + 1 - 1 = (k : Int) by omega]; exact IntWalk.i64_in _ (by omega)
                have wk3 : IntKind.i64.wrap (k : Int) = (k : Int) := IntWalk.i64_in _ (by omega)
                have k1I2 : (k : Int) + 1 < (xss.length : Int) := by omega
                have k102 : (0 : Int) ≤ (k : Int) + 1 := by omega
                have k1t : ((k : Int) + 1).toNat = k + 1 := by omega
                clear hcellp hIsp HBw m0 M0
                go_wp2_with fail
                go_region_held3 (fun w' => w'.cell? ⟨b, off + k, none⟩ = some (.slice Ap (row xss k).length Cp) ∧ w'.cell? ⟨b, off + (k + 1), none⟩ = some (.slice Ar (row xss (k + 1)).length Cr)) (first | exact ⟨x2, x1⟩ | exact ⟨y2, y1⟩) (first
                  | ((with_reducible refine M.out.mono ?_); rintro e w3 ⟨v3, rfl, hv3, hb3⟩; have y2 := (hb3.cell (p := ⟨b, off + k, none⟩) hbw).trans x2; have y1 := (hb3.cell (p := ⟨b, off + (k + 1), none⟩) hbw).trans x1))
                clear y1 y2 x1
                obtain ⟨A3, cap3, rfl, hown3⟩ := hv3.own
                obtain ⟨P, hP⟩ : ∃ P, P = gr u (row xss k) (row xss (k + 1)) 0 0 := ⟨_, rfl⟩
                obtain ⟨F, hF⟩ : ∃ F, F = lfA u xss (k + 1) := ⟨_, rfl⟩
                have hFl : F.length = (row xss k).length := by rw [hF]; exact lfA_len u xss (k + 1)
                have hFb : ∀ j, 0 ≤ nth F j ∧ nth F j ≤ 16 := fun j => by rw [hF]; have := lfA_bd u xss (k + 1) j; omega
                have hAsc : Asc P := by rw [hP]; exact gr_Asc u _ _ _ 0 0 (Nat.le_refl _)
                have hAt : ∀ p ∈ P, p.1 < (row xss k).length ∧ p.2 < (row xss (k + 1)).length := fun p hp => by
                  rw [hP] at hp
                  have := gr_at hp
                  exact ⟨this.2.1, this.2.2.2.1⟩
                have hfin : lfA u xss (k + 1 + 1) = lfP F P (List.replicate (row xss (k + 1)).length 1) := by rw [hP, hF]; rfl
                rw [← hP] at hown3
                rw [← hF] at HW
                have hO3 := HO.out.drew.below hb3
                have hB3 := HB'.out.drew.trans (hb3.mono (Nat.le_of_lt HO.out.lt))
                obtain ⟨Bs, hBs⟩ : ∃ Bs, Bs = wr.drew.heap.size := ⟨_, rfl⟩
                have hgB : g < Bs := by rw [hBs]; exact HO.out.lt
                rw [← hBs] at hown3
                have hP64 : P.length ≤ 64 := by have := (gr_le u (row xss k) (row xss (k + 1)) _ 0 0 (Nat.le_refl _)).1; rw [hP]; omega
                have HFin := Lib.hid hfin
                have HFL := Lib.hid hFl
                have HFB := Lib.hid hFb
                have HAs := Lib.hid hAsc
                have HAt := Lib.hid hAt
                have HwF := Lib.hid (show Is .i64 wo wo.heap.size A' F from HW.out.is)
                have HLen := Lib.hid (show (lfA u xss (k + 1)).length = F.length by rw [hF])
                rw [← hF, ← hP]
                clear hb3 hP hF hFl hFb hAsc hAt hfin hBs M HO x2 hv3
                go_wp2_with fail
                obtain ⟨wo3, rfl⟩ : ∃ wo : World, wo = w3 := ⟨_, rfl⟩
                go_loopw [14] (fun i wr => ∃ q : Nat, q ≤ P.length ∧ i = .int .i64 q ∧ OutB wr g 3 (lfP F (P.take q) (List.replicate (row xss (k + 1)).length 1)) ∧ Own .i64 wr Bs A3 46 (flat P) ∧ Below g wo wr) (fun i _ => P.length - (intOf i).toNat)
                case atStart => exact ⟨0, Nat.zero_le _, rfl, hO3, hown3, hB3⟩
                case round =>
                  clear hO3 hown3 hB3
                  obtain ⟨q, hq, rfl, hO, hown3, hB⟩ := hrel
                  by_cases hqlt : q < P.length
                  · have hqI : (q : Int) < (P.length : Int) := by omega
                    have hq0 : (0 : Int) ≤ (q : Int) := by omega
                    have hmem : P.getD q (0, 0) ∈ P := by rw [List.getD_eq_getElem?_getD, List.getElem?_eq_getElem hqlt]; exact List.getElem_mem _
                    have hat := HAt.out _ hmem
                    have hasc := Asc_take P q HAs.out hqlt
                    have htk := take_pair P q hqlt
                    obtain ⟨f1, f2⟩ := flat_nth P q hqlt
                    obtain ⟨x, hx⟩ : ∃ x, x = (P.getD q (0, 0)).1 := ⟨_, rfl⟩
                    obtain ⟨y, hy⟩ : ∃ y, y = (P.getD q (0, 0)).2 := ⟨_, rfl⟩
                    have hpe : P.getD q (0, 0) = (x, y) := Prod.ext hx.symm hy.symm
                    rw [hpe] at hat hasc htk f1 f2
                    obtain ⟨hxl, hyl⟩ := hat
                    have hfl := flat_len P
                    obtain ⟨g3, rfl, hg3, hg3s, hc3⟩ := hown3.c0 (by omega)
                    have c1 := hc3 (q * 2) (by omega)
                    have c2 := hc3 (q * 2 + 1) (by omega)
                    rw [f1] at c1
                    rw [f2] at c2
                    obtain ⟨bb, oo, rfl, hbb, hcc⟩ := HwF.out (by have := HFL.out; omega)
                    have hgo := HG.out
                    have c3 := (hB.cell (p := ⟨bb, oo + x, none⟩) (show bb < g by omega)).trans (hcc x (by have := HFL.out; omega))
                    have hcl : (lfP F (P.take q) (List.replicate (row xss (k + 1)).length 1)).length = (row xss (k + 1)).length := by rw [lfP_len]; simp
                    have c4 := hO.cell (j := y) (by rw [hcl]; exact hyl)
                    have c5 := hO.frozen y
                    rw [lfP_keep F y _ _ (fun p hp => Nat.ne_of_lt (hasc p hp)), nth_one _ _ hyl] at c4
                    have HCL := Lib.hid hcl
                    have hfb := HFB.out x
                    have hfb1 := hfb.1
                    have hfb2 := hfb.2
                    have ws : IntKind.i64.wrap (nth F x + 1) = nth F x + 1 := IntWalk.i64_in _ (by omega)
                    have hTk := Lib.hid (show lfP F (P.take (q + 1)) (List.replicate (row xss (k + 1)).length 1) = (lfP F (P.take q) (List.replicate (row xss (k + 1)).length 1)).set y (nth F x + 1) by rw [htk, lfP_snoc])
                    have hgs : g < wr.heap.size := hO.lt
                    have hxI : (x : Int) < (F.length : Int) := by have := HFL.out; omega
                    have hxI0 : (0 : Int) ≤ (x : Int) := by omega
                    have hyI : (y : Int) < ((row xss (k + 1)).length : Int) := by omega
                    have hyI0 : (0 : Int) ≤ (y : Int) := by omega
                    have HO3 := Lib.hid hown3
                    have HB3 := Lib.hid hB
                    have HOO := Lib.hid hO
                    have HT := Lib.hid (And.intro hx (And.intro hy hpe))
                    clear hown3 hB hO hx hy hpe hmem hasc htk f1 f2 hfl hc3 hcc hcl hfb hgo
                    go_wp2_with fail
                    refine still_drew 15 (by kernel_rfl) (by kernel_rfl) ?_
                    simp only [List.take_succ_cons, List.take_zero, List.drop_succ_cons, List.drop_zero]
                    repeat still_step
                    refine wpStill_nil ?_
                    go_wp2_with fail
                    have O1 := HOO.out.set y (nth F x + 1) (by rw [HCL.out]; exact hyl)
                    exact ⟨⟨q + 1, by omega, by go_num, by rw [hTk.out]; exact O1.drew, HO3.out.far (p := ⟨g, y, none⟩) hgB _, (HB3.out.setCell (p := ⟨g, y, none⟩) (Nat.le_refl _) _).drew⟩, by simp [intOf]; omega⟩
                  · obtain rfl : q = P.length := by omega
                    rw [List.take_length] at hO
                    have HOO := Lib.hid hO
                    have HB3 := Lib.hid hB
                    have hfl2 := lfP_len F P (List.replicate (row xss (k + 1)).length 1)
                    rw [List.length_replicate] at hfl2
                    have Hfl := Lib.hid hfl2
                    clear hown3 hO hB hfl2
                    go_wp2_with fail
                    exact ⟨⟨k + 1 + 1, some ⟨g, 0, none⟩, (row xss (k + 1)).length, by omega, by go_num, by rw [HFin.out, Hfl.out], by rw [HFin.out]; exact HOO.out.own hgw, HB.out.trans (HB3.out.mono hgw)⟩, by simp [intOf]; omega⟩
        · obtain rfl : k = xss.length := by omega
          have HW := Lib.hid hown
          have HB := Lib.hid hB
          clear hown hB
          go_wp2_with fail
          go_ret2
          exact ⟨_, _, rfl, HW.out, HB.out⟩

theorem life22 (A : Option Addr) (cap : Nat) (xss : List (List Int)) (u : Int) (B : Nat) (w : World) (_hBw : B ≤ w.heap.size) (hR : RIs .i64 w B A xss) (hlen : xss.length ≤ 1000000) (hrow : ∀ r, r < xss.length → (row xss r).length ≤ 1000000) : Calls Try.prog 22 #[.slice A xss.length cap, .int .i64 u] w (LfP w (lfE xss u) (lfL xss u)) := by
  by_cases h0 : xss.length = 0 ∨ 16 < xss.length
  · exact life22a A cap xss u B w _hBw hR hlen hrow h0
  · by_cases h1 : ckR xss = 0
    · by_cases h2 : 0 ≤ u ∧ u ≤ 1024
      · exact life22d A cap xss u B w _hBw hR hlen hrow (by omega) (by omega) h1 h2
      · exact life22c A cap xss u B w _hBw hR hlen hrow (by omega) (by omega) h1 h2
    · exact life22b A cap xss u B w _hBw hR hlen hrow (by omega) (by omega) h1
end Go.Proofs.Ytmkpblfacnnnoaa
