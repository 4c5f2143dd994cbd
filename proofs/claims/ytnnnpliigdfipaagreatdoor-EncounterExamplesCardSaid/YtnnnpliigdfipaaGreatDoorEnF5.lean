/- EncounterExamples: the walk. -/
import Derived.Test.YtnnnpliigdfipaaGreatDoorRows
import Derived.WalkKit
import Derived.WalkLawsBesides
import Derived.WalkSpells
import Derived.ProofKit
import Derived.Below
import Derived.Outline
import Derived.Lib.Hide
import Derived.Deep.RegionWith
import Derived.Deep.RegionHeld3
import Derived.Deep.DrawnRows
import Derived.StillTailTactics
import Derived.BigQuiet
import Derived.Deep.QuietTactic
import Derived.Deep.LoopGhost
import Derived.IntWalk
import Derived.Lib.MinMax
import Derived.OrdersHeld
import Derived.Laws.MakeOwn
import Derived.Test.YtnnnpliigdfipaaGreatDoorEnJA
import Derived.Test.YtnnnpliigdfipaaGreatDoorEnJC
import Derived.Test.YtnnnpliigdfipaaGreatDoorEnJD
namespace Go.Proofs.YtnnnpliigdfipaaGreatDoor
open Go.RowKit
attribute [local go_sem ↓] Go.wp_at_zero Go.wp_at_succ
attribute [local go_sem] wrap_lit
theorem legs_at : ∀ k, k < 17 → nth (flat legs17) (k * 2) = 2 * (k : Int) ∧ nth (flat legs17) (k * 2 + 1) = 100 := by decide +kernel
theorem made17 : ∃ Z : Array Value, 34 ≤ Z.size ∧ ∀ W : World, (Instr.makeSlice 52 (.int .i64 17) (.int .i64 17)).run Tryz.prog W = .ok (.slice (some ⟨W.heap.size, 0, none⟩) 17 17) (W.alloc (.cells Z 54)) := by
  obtain ⟨i0, hi0, hz0, hz1, hz2⟩ := info_parts Leg_info
  refine ⟨madeCells #[.int .i64 0, .int .i64 0] (17 * 2), by rw [size_madeCells]; decide, fun W => ?_⟩
  have h := run_make (P := Tryz.prog) W 52 54 i0 _ Tryz.underlying52 hi0 hz0 .i64 .i64 17 17 (by decide) (by decide) (by rw [hz2]; decide) (by decide)
  rw [hz1] at h
  exact h
theorem cur_someX {cur : Array Value} {i : Nat} (h : i < cur.size) : ∃ u, cur[i]? = some u := ⟨_, Array.getElem?_eq_getElem h⟩
/-- the legs filled up to k -/
def Fil (w : World) (gl k : Nat) : Prop := ∃ cur, w.heap[gl]? = some (.cells cur 54 (0, 0)) ∧ 34 ≤ cur.size ∧ ∀ j, j < k * 2 → cur[j]? = some (.int .i64 (nth (flat legs17) j))
theorem Fil.set {w : World} {gl k : Nat} (h : Fil w gl k) (hk : k < 17) : Fil ((w.setCell ⟨gl, k * 2, none⟩ (.int .i64 (2 * (k : Int)))).setCell ⟨gl, k * 2 + 1, none⟩ (.int .i64 100)) gl (k + 1) := by
  obtain ⟨cur, h1, h2, h3⟩ := h
  obtain ⟨l1, l2⟩ := legs_at k hk
  refine ⟨_, setCell_heap _ _ _ _ _ _ _ (setCell_heap _ _ _ _ _ _ _ h1), by simpa using h2, fun j hj => ?_⟩
  rcases (by omega : j < k * 2 ∨ j = k * 2 ∨ j = k * 2 + 1) with g | rfl | rfl
  · rw [Array.getElem?_setIfInBounds_ne (by omega), Array.getElem?_setIfInBounds_ne (by omega)]
    exact h3 j g
  · rw [Array.getElem?_setIfInBounds_ne (by omega), Array.getElem?_setIfInBounds_self_of_lt (by omega), l1]
  · rw [Array.getElem?_setIfInBounds_self_of_lt (by simp; omega), l2]
set_option maxRecDepth 100000 in
set_option maxHeartbeats 40000000 in
theorem examples5 (w : World) (E : Env 8 w) (h8 : 8 ≤ w.heap.size) : Calls Tryz.prog 5 #[] w fun e w' => e = .returned (.bool true) ∧ Below w.heap.size w w' := by
  have Ew := Lib.hid E
  clear E
  go_enter Tryz.func5, Tryz.ntmps5
  go_wp2_with fail
  refine (awake11 8 w Ew.out (by omega)).mono ?_
  rintro e w1 ⟨rfl, hw1⟩
  have Bw1 : Hid (Below w.heap.size w w1) := Lib.hid ((hw1))
  have mw1 : w.heap.size ≤ w1.heap.size := (hw1).size
  have Ew1 := Lib.hid (Ew.out.below ((hw1).mono (by omega)))
  clear Ew
  clear hw1
  obtain ⟨Z, hZs, hm⟩ := made17
  go_wp2_with fail
  obtain ⟨G, hG⟩ : ∃ G, G = w1.heap.size := ⟨_, rfl⟩
  generalize hW : World.alloc _ _ = w2
  have bw2 : Below w1.heap.size w1 w2 := by rw [← hW]; exact ((Below.refl _ _).alloc (Nat.le_refl _) _).alloc (by simp) _
  have f2 : Fil w2 G 0 := ⟨Z, by rw [← hW, hG]; exact (Below.heap_alloc _ _ _ (by simp)).trans (heap_alloc_new _ _), hZs, fun j hj => absurd hj (by omega)⟩
  have L2 : Hid (w2.heap[G + 1]? = some (.cells #[.slice (some ⟨G, 0, none⟩) 17 17] 52 (0, 0))) := Lib.hid (by rw [← hW, hG]; exact heap_alloc_at _ _ _ (by simp))
  rw [← hG] at bw2 ⊢
  have HGG := Lib.hid hG
  have HF2 := Lib.hid f2
  have s2 : G + 2 ≤ w2.heap.size := by have := heap_lt L2.out; omega
  clear hW f2 hm hG
  go_loopw [2] (fun i wr => ∃ k : Nat, k ≤ 17 ∧ i = .int .i64 k ∧ Hid (Fil wr G k) ∧ wr.heap[G + 1]? = w2.heap[G + 1]? ∧ Below G w2 wr ∧ G + 2 ≤ wr.heap.size) (fun i _ => 17 - (intOf i).toNat)
  case atStart => exact ⟨0, Nat.zero_le _, rfl, HF2, rfl, Below.refl _ _, s2⟩
  case round =>
    obtain ⟨k, hk, rfl, HF, hL, hb, hsz⟩ := hrel
    have HB2 := Lib.hid hb
    have HL := Lib.hid (hL.trans L2.out)
    clear hL hb
    have l0 : wr.cell? ⟨G + 1, 0, none⟩ = some (.slice (some ⟨G, 0, none⟩) 17 17) := curX HL.out rfl
    by_cases hlt : k < 17
    · have hltI : (k : Int) < 17 := by omega
      obtain ⟨cur, h1, h2, -⟩ := HF.out
      obtain ⟨u0, hu0⟩ := cur_someX (cur := cur) (i := k * 2) (by omega)
      obtain ⟨u1, hu1⟩ := cur_someX (cur := cur) (i := k * 2 + 1) (by omega)
      have c0 : wr.cell? ⟨G, k * 2, none⟩ = some u0 := curX h1 hu0
      have c1 : wr.cell? ⟨G, k * 2 + 1, none⟩ = some u1 := curX h1 hu1
      have cf : ∀ i, wr.frozen? ⟨G, i, none⟩ = false := fun i => by simp [World.frozen?, h1]
      have wk : IntKind.i64.wrap (2 * (k : Int)) = 2 * (k : Int) := IntWalk.i64_in _ (by omega)
      clear h1 h2 hu0 hu1
      go_wp2_with fail
      exact ⟨⟨k + 1, by omega, by go_num, Lib.hid (HF.out.set hlt), ((set_far _ _ _ _ _ (by omega)).trans (set_far _ _ _ _ _ (by omega))).trans (HL.out.trans L2.out.symm), (HB2.out.setCell (p := ⟨G, k * 2, none⟩) (Nat.le_refl _) _).setCell (p := ⟨G, k * 2 + 1, none⟩) (Nat.le_refl _) _, by simpa [World.setCell] using hsz⟩, by simp [intOf]; omega⟩
    · obtain rfl : k = 17 := by omega
      have hltI : ¬ ((17 : Nat) : Int) < 17 := by omega
      obtain ⟨cur, h1, -, h3⟩ := HF.out
      have HLG := Lib.hid h1
      have HCUR := Lib.hid h3
      clear h1 h3 HF l0
      have bwr : Below w1.heap.size w1 wr := by rw [← HGG.out]; exact bw2.trans HB2.out
      have Bwr := Lib.hid (Bw1.out.trans ((bwr).mono mw1))
      have mwr : w.heap.size ≤ wr.heap.size := Nat.le_trans mw1 (bwr).size
      have Ewr := Lib.hid (Ew1.out.below ((bwr).mono (by omega)))
      clear Bw1 mw1 Ew1
      clear bwr HB2
      go_wp2_with fail
      generalize hW : World.alloc wr _ = w3
      have b3 : Below wr.heap.size wr w3 := by rw [← hW]; exact (Below.refl _ _).alloc (Nat.le_refl _) _
      obtain ⟨C, hC, hCC⟩ : ∃ C : Array Value, w3.heap[wr.heap.size]? = some (.cells C 58 (0, 0)) ∧ ∀ k, k < 21 → C[k * 2]? = some (cfX (G + 1) k) ∧ C[k * 2 + 1]? = some (.int .i64 (ceX k)) := ⟨_, by rw [← hW]; exact heap_alloc_new _ _, fun k hk => by rcases (by omega : k = 0 ∨ k = 1 ∨ k = 2 ∨ k = 3 ∨ k = 4 ∨ k = 5 ∨ k = 6 ∨ k = 7 ∨ k = 8 ∨ k = 9 ∨ k = 10 ∨ k = 11 ∨ k = 12 ∨ k = 13 ∨ k = 14 ∨ k = 15 ∨ k = 16 ∨ k = 17 ∨ k = 18 ∨ k = 19 ∨ k = 20) with rfl | rfl | rfl | rfl | rfl | rfl | rfl | rfl | rfl | rfl | rfl | rfl | rfl | rfl | rfl | rfl | rfl | rfl | rfl | rfl | rfl <;> exact ⟨rfl, rfl⟩⟩
      have HCC := Lib.hid hCC
      have Tw3 := Lib.hid hC
      have Lw3 := Lib.hid ((b3.block _ (heap_lt HL.out)).trans HL.out)
      have Gw3 := Lib.hid ((b3.block _ (heap_lt HLG.out)).trans HLG.out)
      obtain ⟨TB, hTB⟩ : ∃ TB, TB = wr.heap.size := ⟨_, rfl⟩
      rw [← hTB] at Tw3 ⊢
      clear hW hCC hC
      have Bw3 := Lib.hid (Bwr.out.trans ((b3).mono mwr))
      have mw3 : w.heap.size ≤ w3.heap.size := Nat.le_trans mwr (b3).size
      have Ew3 := Lib.hid (Ewr.out.below ((b3).mono (by omega)))
      clear Bwr mwr Ewr
      clear b3 hTB HL HLG
      go_loopw [0, 67] (fun rs i wx => rs = .bool false ∧ ∃ k : Nat, k ≤ 21 ∧ i = .int .i64 k ∧ Below w3.heap.size w3 wx) (fun _ i _ => 21 - (intOf i).toNat)
      case atStart => exact ⟨rfl, 0, Nat.zero_le _, rfl, Below.refl _ _⟩
      case round =>
        obtain ⟨wx, hwx⟩ : ∃ wx, wx = wr := ⟨_, rfl⟩
        subst hwx
        obtain ⟨rfl, k, hk, rfl, hb⟩ := hrel
        have HB3 := Lib.hid hb
        have s3 := hb.size
        have Bwx := Lib.hid (Bw3.out.trans ((hb).mono mw3))
        have mwx : w.heap.size ≤ wx.heap.size := Nat.le_trans mw3 (hb).size
        have Ewx := Lib.hid (Ew3.out.below ((hb).mono (by omega)))
        have Twx := Lib.hid (((hb).block _ (heap_lt Tw3.out)).trans Tw3.out)
        have Lwx := Lib.hid (((hb).block _ (heap_lt Lw3.out)).trans Lw3.out)
        have Gwx := Lib.hid (((hb).block _ (heap_lt Gw3.out)).trans Gw3.out)
        clear Bw3 mw3 Ew3 Tw3 Lw3 Gw3
        clear hb
        by_cases hlt : k < 21
        · have hltI : (k : Int) < 21 := by omega
          obtain ⟨id, caps, hcf, hcall, hcon⟩ := conX k hlt (G + 1)
          have HCON := Lib.hid hcon
          have HCALL := Lib.hid hcall
          obtain ⟨k0, k1⟩ := HCC.out k hlt
          rw [hcf] at k0
          have hte := chX_ok k hlt
          have HMO := Lib.hid (chX_mo k hlt)
          obtain ⟨X, hX⟩ : ∃ X, X = chX k := ⟨_, rfl⟩
          obtain ⟨te, hte0⟩ : ∃ x, x = ceX k := ⟨_, rfl⟩
          rw [← hX, ← hte0] at hte
          rw [← hte0] at k1
          rw [← hX] at HCON HMO
          have HTE := Lib.hid hte
          clear hcf hcon hcall hX hte0 hte
          have hLs0 := heap_lt Lwx.out
          have hTs0 := heap_lt Twx.out
          have c0 : wx.cell? ⟨TB, k * 2, none⟩ = some (.func (.func id) #[] caps) := curX Twx.out k0
          have c1 : wx.cell? ⟨TB, k * 2 + 1, none⟩ = some (.int .i64 te) := curX Twx.out k1
          clear k0 k1
          have hsf := fun (a : Addr) (w : World) => run_store Tryz.prog w a (.func (.func id) #[] caps) .plain rfl
          go_wp2_with fail
          clear c0 c1 hsf
          obtain ⟨u1, hu1⟩ : ∃ u1, u1 = wx.alloc (.cells #[.func (.func id) #[] caps, .int .i64 te] 58) := ⟨_, rfl⟩
          have bu1 : Below wx.heap.size wx u1 := by rw [hu1]; exact (Below.refl _ _).alloc (Nat.le_refl _) _
          have nu1 : u1.heap[wx.heap.size]? = some (.cells #[.func (.func id) #[] caps, .int .i64 te] 58 (0, 0)) := by rw [hu1]; exact heap_alloc_new _ _
          have Bu1 : Hid (Below wx.heap.size wx u1) := Lib.hid ((bu1))
          have mu1 : wx.heap.size ≤ u1.heap.size := (bu1).size
          have Eu1 := Lib.hid (Ewx.out.below ((bu1).mono (by omega)))
          have Tu1 := Lib.hid (((bu1).block _ (heap_lt Twx.out)).trans Twx.out)
          have Lu1 := Lib.hid (((bu1).block _ (heap_lt Lwx.out)).trans Lwx.out)
          have Gu1 := Lib.hid (((bu1).block _ (heap_lt Gwx.out)).trans Gwx.out)
          clear Ewx Twx Lwx Gwx
          rw [← hu1]
          clear hu1 bu1
          have Du1 := Lib.hid nu1
          clear nu1
          have Dc0u1 : u1.cell? ⟨wx.heap.size, 0, none⟩ = some (.func (.func id) #[] caps) := by simp [World.cell?, Du1.out]
          have Dc1u1 : u1.cell? ⟨wx.heap.size, 1, none⟩ = some (.int .i64 te) := by simp [World.cell?, Du1.out]
          have hDs := heap_lt Du1.out
          have hLs : G + 1 < wx.heap.size := hLs0
          have hTs : TB < wx.heap.size := hTs0
          refine (plain51 u1).mono ?_
          rintro e u2 ⟨g, rfl, hg0, hgc, hb⟩
          have Bu2 := Lib.hid (Bu1.out.trans ((hb).mono mu1))
          have mu2 : wx.heap.size ≤ u2.heap.size := Nat.le_trans mu1 (hb).size
          have Eu2 := Lib.hid (Eu1.out.below ((hb).mono (by omega)))
          have Tu2 := Lib.hid (((hb).block _ (heap_lt Tu1.out)).trans Tu1.out)
          have Lu2 := Lib.hid (((hb).block _ (heap_lt Lu1.out)).trans Lu1.out)
          have Gu2 := Lib.hid (((hb).block _ (heap_lt Gu1.out)).trans Gu1.out)
          have Du2 := Lib.hid (((hb).block _ (heap_lt Du1.out)).trans Du1.out)
          clear Bu1 mu1 Eu1 Tu1 Lu1 Gu1 Du1 Dc0u1 Dc1u1
          have Dc0u2 : u2.cell? ⟨wx.heap.size, 0, none⟩ = some (.func (.func id) #[] caps) := by simp [World.cell?, Du2.out]
          have Dc1u2 : u2.cell? ⟨wx.heap.size, 1, none⟩ = some (.int .i64 te) := by simp [World.cell?, Du2.out]
          have hgl := heap_lt hgc
          have Ru2 := Lib.hid hgc
          clear hb hgc
          go_wp2_with fail
          obtain ⟨u3, hu3⟩ : ∃ u3, u3 = u2.alloc (.cells #[.int .i64 120, .int .i64 10000, .slice (some ⟨g, 0, none⟩) 1 1] 24) := ⟨_, rfl⟩
          have bu3 : Below u2.heap.size u2 u3 := by rw [hu3]; exact (Below.refl _ _).alloc (Nat.le_refl _) _
          have nu3 : u3.heap[u2.heap.size]? = some (.cells #[.int .i64 120, .int .i64 10000, .slice (some ⟨g, 0, none⟩) 1 1] 24 (0, 0)) := by rw [hu3]; exact heap_alloc_new _ _
          have Bu3 := Lib.hid (Bu2.out.trans ((bu3).mono mu2))
          have mu3 : wx.heap.size ≤ u3.heap.size := Nat.le_trans mu2 (bu3).size
          have Eu3 := Lib.hid (Eu2.out.below ((bu3).mono (by omega)))
          have Tu3 := Lib.hid (((bu3).block _ (heap_lt Tu2.out)).trans Tu2.out)
          have Lu3 := Lib.hid (((bu3).block _ (heap_lt Lu2.out)).trans Lu2.out)
          have Gu3 := Lib.hid (((bu3).block _ (heap_lt Gu2.out)).trans Gu2.out)
          have Du3 := Lib.hid (((bu3).block _ (heap_lt Du2.out)).trans Du2.out)
          have Ru3 := Lib.hid (((bu3).block _ (heap_lt Ru2.out)).trans Ru2.out)
          clear Bu2 mu2 Eu2 Tu2 Lu2 Gu2 Du2 Ru2 Dc0u2 Dc1u2
          have Dc0u3 : u3.cell? ⟨wx.heap.size, 0, none⟩ = some (.func (.func id) #[] caps) := by simp [World.cell?, Du3.out]
          have Dc1u3 : u3.cell? ⟨wx.heap.size, 1, none⟩ = some (.int .i64 te) := by simp [World.cell?, Du3.out]
          rw [← hu3]
          clear hu3 bu3
          have Yu3 := Lib.hid nu3
          clear nu3
          have Yc0u3 : u3.cell? ⟨u2.heap.size, 0, none⟩ = some (.int .i64 120) := by simp [World.cell?, Yu3.out]
          have Yc1u3 : u3.cell? ⟨u2.heap.size, 1, none⟩ = some (.int .i64 10000) := by simp [World.cell?, Yu3.out]
          have Yc2u3 : u3.cell? ⟨u2.heap.size, 2, none⟩ = some (.slice (some ⟨g, 0, none⟩) 1 1) := by simp [World.cell?, Yu3.out]
          obtain ⟨H, hH⟩ : ∃ H, H = u2.heap.size := ⟨_, rfl⟩
          have hDg : wx.heap.size < g := by omega
          have hXg : wx.heap.size ≤ g := by omega
          obtain ⟨u4, hu4⟩ : ∃ u4, u4 = u3.drew := ⟨_, rfl⟩
          have b4 : Below u3.heap.size u3 u4 := by rw [hu4]; exact (Below.refl _ _).drew
          have H4 := Lib.hid hu4
          clear hu4
          go_upto_region 12 with fail
          have Bu4 := Lib.hid (Bu3.out.trans ((b4).mono mu3))
          have mu4 : wx.heap.size ≤ u4.heap.size := Nat.le_trans mu3 (b4).size
          have Eu4 := Lib.hid (Eu3.out.below ((b4).mono (by omega)))
          have Tu4 := Lib.hid (((b4).block _ (heap_lt Tu3.out)).trans Tu3.out)
          have Lu4 := Lib.hid (((b4).block _ (heap_lt Lu3.out)).trans Lu3.out)
          have Gu4 := Lib.hid (((b4).block _ (heap_lt Gu3.out)).trans Gu3.out)
          have Du4 := Lib.hid (((b4).block _ (heap_lt Du3.out)).trans Du3.out)
          have Ru4 := Lib.hid (((b4).block _ (heap_lt Ru3.out)).trans Ru3.out)
          have Yu4 := Lib.hid (((b4).block _ (heap_lt Yu3.out)).trans Yu3.out)
          clear Bu3 mu3 Eu3 Tu3 Lu3 Gu3 Du3 Ru3 Yu3 Dc0u3 Dc1u3 Yc0u3 Yc1u3 Yc2u3
          have Dc0u4 : u4.cell? ⟨wx.heap.size, 0, none⟩ = some (.func (.func id) #[] caps) := by simp [World.cell?, Du4.out]
          have Dc1u4 : u4.cell? ⟨wx.heap.size, 1, none⟩ = some (.int .i64 te) := by simp [World.cell?, Du4.out]
          have Yc0u4 : u4.cell? ⟨u2.heap.size, 0, none⟩ = some (.int .i64 120) := by simp [World.cell?, Yu4.out]
          have Yc1u4 : u4.cell? ⟨u2.heap.size, 1, none⟩ = some (.int .i64 10000) := by simp [World.cell?, Yu4.out]
          have Yc2u4 : u4.cell? ⟨u2.heap.size, 2, none⟩ = some (.slice (some ⟨g, 0, none⟩) 1 1) := by simp [World.cell?, Yu4.out]
          clear b4
          refine wp_region_held_drew (S := fun w' => w'.heap[wx.heap.size]? = some (.cells #[.func (.func id) #[] caps, .int .i64 te] 58 (0, 0))) (by kernel_rfl) (show _ from (by rw [← H4.out]; exact Du4.out)) (fun hS => ?_)
          rw [← H4.out] at hS ⊢
          refine wpAnyH_take (i := 0) (v := ?vA1) rfl (by kernel_rfl) (by kernel_rfl) (by kernel_rfl) (fun _ _ _ h => h) (Or.inl ⟨by rfl, ?hA1⟩) hS ?rA1
          case hA1 =>
            intro w1 hSw
            clear hSw
            go_simp
            try with_reducible rfl
          (try simp only [Act.put])
          refine wpAnyH_take (i := 1) (v := ?vA2) rfl (by kernel_rfl) (by kernel_rfl) (by kernel_rfl) (fun _ _ _ h => h) (Or.inl ⟨by rfl, ?hA2⟩) hS ?rA2
          case hA2 =>
            intro w1 hSw
            have z := curX (i := 0) hSw rfl
            clear hSw
            go_simp
            try with_reducible rfl
          (try simp only [Act.put])
          refine wpAnyH_take (i := 2) (v := ?vA3) rfl (by kernel_rfl) (by kernel_rfl) (by kernel_rfl) (fun _ _ _ h => h) (Or.inl ⟨by rfl, ?hA3⟩) hS ?rA3
          case hA3 =>
            intro w1 hSw
            clear hSw
            go_simp
            try with_reducible rfl
          (try simp only [Act.put])
          have y2 : u4.cell? ⟨u2.heap.size, 2, none⟩ = some (.slice (some ⟨g, 0, none⟩) 1 1) := curX Yu4.out rfl
          refine wpAnyH_ready (rs := [3]) (by kernel_rfl) (by simp) (AllReadyH.cons rfl (fun K hK => ?_) AllReadyH.nil)
          go_simp
          refine hK.out _ _ (hS) (fun hS => ?_)
          clear hK K
          refine wpAnyH_take (i := 4) (v := ?vA4) rfl (by kernel_rfl) (by kernel_rfl) (by kernel_rfl) (fun _ _ _ h => h) (Or.inl ⟨by rfl, ?hA4⟩) hS ?rA4
          case hA4 =>
            intro w1 hSw
            clear hSw
            go_simp
            try with_reducible rfl
          (try simp only [Act.put])
          have hst : StX u4 u2.heap.size g (G + 1) G := ⟨Yu4.out, Ru4.out, Lu4.out, ⟨_, Gu4.out, HCUR.out⟩, by omega, by omega, hgl⟩
          have HC := HCON.out u4 u2.heap.size g G hst
          have hcl := HCALL.out
          refine wpAnyH_ready (rs := [5]) (by kernel_rfl) (by simp) (AllReadyH.cons rfl (fun K hK => ?_) AllReadyH.nil)
          go_simp
          refine HC.mono ?_
          rintro e u5 ⟨rfl, hbe, A, cap, hcap, hH5, hin5⟩
          have sD := Nat.lt_of_lt_of_le hDs hg0
          have Du5 := Lib.hid ((hbe.block _ sD).trans Du4.out)
          have Tu5 := Lib.hid ((hbe.block _ (by omega)).trans Tu4.out)
          have Eu5 := Lib.hid (Eu4.out.below (hbe.mono (by omega)))
          have Iu5 := Lib.hid hin5
          have Bu5 := Lib.hid (Bu4.out.trans (hbe.mono hXg))
          have mu5 : wx.heap.size ≤ u5.heap.size := Nat.le_trans mu4 hbe.size
          have Yu5 := Lib.hid hH5
          refine hK.out _ _ Du5.out (fun hS => ?_)
          clear hK K
          refine wpAnyH_done (by kernel_rfl) ?_ _
          clear hbe hin5 hH5 y2 hcl hst HC Du4 Tu4 Eu4 Bu4 mu4 Yu4 Ru4 Lu4 Gu4 Dc0u4 Dc1u4 Yc0u4 Yc1u4 Yc2u4
          have Dc0u5 : u5.cell? ⟨wx.heap.size, 0, none⟩ = some (.func (.func id) #[] caps) := by simp [World.cell?, Du5.out]
          have Dc1u5 : u5.cell? ⟨wx.heap.size, 1, none⟩ = some (.int .i64 te) := by simp [World.cell?, Du5.out]
          have Yc0u5 : u5.cell? ⟨u2.heap.size, 0, none⟩ = some (.int .i64 X.cy) := by simp [World.cell?, Yu5.out]
          have Yc1u5 : u5.cell? ⟨u2.heap.size, 1, none⟩ = some (.int .i64 X.gr) := by simp [World.cell?, Yu5.out]
          have Yc2u5 : u5.cell? ⟨u2.heap.size, 2, none⟩ = some (.slice A X.cs.length cap) := by simp [World.cell?, Yu5.out]
          have hu8 : 8 ≤ u5.heap.size := by omega
          have T1 := format13 8 X A cap u5 Eu5.out hu8 Iu5.out hcap HMO.out
          rw [errF HTE.out] at T1
          obtain ⟨tx, htx⟩ : ∃ x, x = (foE X).1 := ⟨_, rfl⟩
          rw [← htx] at T1
          clear htx
          go_wp2_with fail
          refine (T1).mono ?_
          rintro e x1 ⟨rfl, hx1⟩
          have Bx1 := Lib.hid (Bu5.out.trans ((hx1).mono mu5))
          have mx1 : wx.heap.size ≤ x1.heap.size := Nat.le_trans mu5 (hx1).size
          have Ex1 := Lib.hid (Eu5.out.below ((hx1).mono (by omega)))
          have Tx1 := Lib.hid (((hx1).block _ (heap_lt Tu5.out)).trans Tu5.out)
          have Dx1 := Lib.hid (((hx1).block _ (heap_lt Du5.out)).trans Du5.out)
          have Yx1 := Lib.hid (((hx1).block _ (heap_lt Yu5.out)).trans Yu5.out)
          have Ix1 := Lib.hid ((Iu5.out.below (hx1)).mono (hx1).size)
          clear Bu5 mu5 Eu5 Tu5 Du5 Yu5 Iu5 Dc0u5 Dc1u5 Yc0u5 Yc1u5 Yc2u5
          have Dc0x1 : x1.cell? ⟨wx.heap.size, 0, none⟩ = some (.func (.func id) #[] caps) := by simp [World.cell?, Dx1.out]
          have Dc1x1 : x1.cell? ⟨wx.heap.size, 1, none⟩ = some (.int .i64 te) := by simp [World.cell?, Dx1.out]
          have Yc0x1 : x1.cell? ⟨u2.heap.size, 0, none⟩ = some (.int .i64 X.cy) := by simp [World.cell?, Yx1.out]
          have Yc1x1 : x1.cell? ⟨u2.heap.size, 1, none⟩ = some (.int .i64 X.gr) := by simp [World.cell?, Yx1.out]
          have Yc2x1 : x1.cell? ⟨u2.heap.size, 2, none⟩ = some (.slice A X.cs.length cap) := by simp [World.cell?, Yx1.out]
          clear hx1
          clear T1
          go_wp2_with fail
          have T1 := path22c X A cap 0 x1 Ix1.out hcap
          rw [errP HTE.out] at T1
          refine (T1).mono ?_
          rintro e x2 ⟨PA, pcap, rfl, -, -, hx2⟩
          have Bx2 := Lib.hid (Bx1.out.trans ((hx2).mono mx1))
          have mx2 : wx.heap.size ≤ x2.heap.size := Nat.le_trans mx1 (hx2).size
          have Ex2 := Lib.hid (Ex1.out.below ((hx2).mono (by omega)))
          have Tx2 := Lib.hid (((hx2).block _ (heap_lt Tx1.out)).trans Tx1.out)
          have Dx2 := Lib.hid (((hx2).block _ (heap_lt Dx1.out)).trans Dx1.out)
          have Yx2 := Lib.hid (((hx2).block _ (heap_lt Yx1.out)).trans Yx1.out)
          have Ix2 := Lib.hid ((Ix1.out.below (hx2)).mono (hx2).size)
          clear Bx1 mx1 Ex1 Tx1 Dx1 Yx1 Ix1 Dc0x1 Dc1x1 Yc0x1 Yc1x1 Yc2x1
          have Dc0x2 : x2.cell? ⟨wx.heap.size, 0, none⟩ = some (.func (.func id) #[] caps) := by simp [World.cell?, Dx2.out]
          have Dc1x2 : x2.cell? ⟨wx.heap.size, 1, none⟩ = some (.int .i64 te) := by simp [World.cell?, Dx2.out]
          have Yc0x2 : x2.cell? ⟨u2.heap.size, 0, none⟩ = some (.int .i64 X.cy) := by simp [World.cell?, Yx2.out]
          have Yc1x2 : x2.cell? ⟨u2.heap.size, 1, none⟩ = some (.int .i64 X.gr) := by simp [World.cell?, Yx2.out]
          have Yc2x2 : x2.cell? ⟨u2.heap.size, 2, none⟩ = some (.slice A X.cs.length cap) := by simp [World.cell?, Yx2.out]
          clear hx2
          clear T1
          go_wp2_with fail
          have T1 := aim24 X A cap 0 0 x2 Ix2.out hcap
          rw [errA HTE.out] at T1
          obtain ⟨ai, hai⟩ : ∃ x, x = (aimR X 0 0).1 := ⟨_, rfl⟩
          rw [← hai] at T1
          clear hai
          refine (T1).mono ?_
          rintro e x3 ⟨rfl, hx3⟩
          have Bx3 := Lib.hid (Bx2.out.trans ((hx3).mono mx2))
          have mx3 : wx.heap.size ≤ x3.heap.size := Nat.le_trans mx2 (hx3).size
          have Ex3 := Lib.hid (Ex2.out.below ((hx3).mono (by omega)))
          have Tx3 := Lib.hid (((hx3).block _ (heap_lt Tx2.out)).trans Tx2.out)
          have Dx3 := Lib.hid (((hx3).block _ (heap_lt Dx2.out)).trans Dx2.out)
          have Yx3 := Lib.hid (((hx3).block _ (heap_lt Yx2.out)).trans Yx2.out)
          have Ix3 := Lib.hid ((Ix2.out.below (hx3)).mono (hx3).size)
          clear Bx2 mx2 Ex2 Tx2 Dx2 Yx2 Ix2 Dc0x2 Dc1x2 Yc0x2 Yc1x2 Yc2x2
          have Dc0x3 : x3.cell? ⟨wx.heap.size, 0, none⟩ = some (.func (.func id) #[] caps) := by simp [World.cell?, Dx3.out]
          have Dc1x3 : x3.cell? ⟨wx.heap.size, 1, none⟩ = some (.int .i64 te) := by simp [World.cell?, Dx3.out]
          have Yc0x3 : x3.cell? ⟨u2.heap.size, 0, none⟩ = some (.int .i64 X.cy) := by simp [World.cell?, Yx3.out]
          have Yc1x3 : x3.cell? ⟨u2.heap.size, 1, none⟩ = some (.int .i64 X.gr) := by simp [World.cell?, Yx3.out]
          have Yc2x3 : x3.cell? ⟨u2.heap.size, 2, none⟩ = some (.slice A X.cs.length cap) := by simp [World.cell?, Yx3.out]
          clear hx3
          clear T1
          go_wp2_with fail
          have T1 := where26 X A cap 0 0 x3 Ix3.out hcap
          rw [errW HTE.out] at T1
          obtain ⟨wp, hwp⟩ : ∃ x, x = (wheR X 0 0).1 := ⟨_, rfl⟩
          rw [← hwp] at T1
          clear hwp
          refine (T1).mono ?_
          rintro e x4 ⟨rfl, hx4⟩
          have Bx4 := Lib.hid (Bx3.out.trans ((hx4).mono mx3))
          have mx4 : wx.heap.size ≤ x4.heap.size := Nat.le_trans mx3 (hx4).size
          have Ex4 := Lib.hid (Ex3.out.below ((hx4).mono (by omega)))
          have Tx4 := Lib.hid (((hx4).block _ (heap_lt Tx3.out)).trans Tx3.out)
          have Dx4 := Lib.hid (((hx4).block _ (heap_lt Dx3.out)).trans Dx3.out)
          have Yx4 := Lib.hid (((hx4).block _ (heap_lt Yx3.out)).trans Yx3.out)
          have Ix4 := Lib.hid ((Ix3.out.below (hx4)).mono (hx4).size)
          clear Bx3 mx3 Ex3 Tx3 Dx3 Yx3 Ix3 Dc0x3 Dc1x3 Yc0x3 Yc1x3 Yc2x3
          have Dc0x4 : x4.cell? ⟨wx.heap.size, 0, none⟩ = some (.func (.func id) #[] caps) := by simp [World.cell?, Dx4.out]
          have Dc1x4 : x4.cell? ⟨wx.heap.size, 1, none⟩ = some (.int .i64 te) := by simp [World.cell?, Dx4.out]
          have Yc0x4 : x4.cell? ⟨u2.heap.size, 0, none⟩ = some (.int .i64 X.cy) := by simp [World.cell?, Yx4.out]
          have Yc1x4 : x4.cell? ⟨u2.heap.size, 1, none⟩ = some (.int .i64 X.gr) := by simp [World.cell?, Yx4.out]
          have Yc2x4 : x4.cell? ⟨u2.heap.size, 2, none⟩ = some (.slice A X.cs.length cap) := by simp [World.cell?, Yx4.out]
          clear hx4
          clear T1
          have Da0 : ∀ ob, (x4.alloc ob).cell? ⟨wx.heap.size, 0, none⟩ = some (.func (.func id) #[] caps) := fun ob => (World.cell?_alloc_lt _ _ _ (heap_lt Dx4.out)).trans Dc0x4
          have Da1 : ∀ ob, (x4.alloc ob).cell? ⟨wx.heap.size, 1, none⟩ = some (.int .i64 te) := fun ob => (World.cell?_alloc_lt _ _ _ (heap_lt Dx4.out)).trans Dc1x4
          have Ya0 : ∀ ob, (x4.alloc ob).cell? ⟨u2.heap.size, 0, none⟩ = some (.int .i64 X.cy) := fun ob => (World.cell?_alloc_lt _ _ _ (heap_lt Yx4.out)).trans Yc0x4
          have Ya1 : ∀ ob, (x4.alloc ob).cell? ⟨u2.heap.size, 1, none⟩ = some (.int .i64 X.gr) := fun ob => (World.cell?_alloc_lt _ _ _ (heap_lt Yx4.out)).trans Yc1x4
          have Ya2 : ∀ ob, (x4.alloc ob).cell? ⟨u2.heap.size, 2, none⟩ = some (.slice A X.cs.length cap) := fun ob => (World.cell?_alloc_lt _ _ _ (heap_lt Yx4.out)).trans Yc2x4
          go_upto_region 17 with fail
          obtain ⟨x5, hx5⟩ : ∃ x5, x5 = x4.alloc (.cells #[.int .i64 wp.x, .int .i64 wp.y, .int .i64 wp.z] 46) := ⟨_, rfl⟩
          have bx5 : Below x4.heap.size x4 x5 := by rw [hx5]; exact (Below.refl _ _).alloc (Nat.le_refl _) _
          have nx5 : x5.heap[x4.heap.size]? = some (.cells #[.int .i64 wp.x, .int .i64 wp.y, .int .i64 wp.z] 46 (0, 0)) := by rw [hx5]; exact heap_alloc_new _ _
          have Bx5 := Lib.hid (Bx4.out.trans ((bx5).mono mx4))
          have mx5 : wx.heap.size ≤ x5.heap.size := Nat.le_trans mx4 (bx5).size
          have Ex5 := Lib.hid (Ex4.out.below ((bx5).mono (by omega)))
          have Tx5 := Lib.hid (((bx5).block _ (heap_lt Tx4.out)).trans Tx4.out)
          have Dx5 := Lib.hid (((bx5).block _ (heap_lt Dx4.out)).trans Dx4.out)
          have Yx5 := Lib.hid (((bx5).block _ (heap_lt Yx4.out)).trans Yx4.out)
          have Ix5 := Lib.hid ((Ix4.out.below (bx5)).mono (bx5).size)
          clear Bx4 mx4 Ex4 Tx4 Dx4 Yx4 Ix4 Dc0x4 Dc1x4 Yc0x4 Yc1x4 Yc2x4
          have Dc0x5 : x5.cell? ⟨wx.heap.size, 0, none⟩ = some (.func (.func id) #[] caps) := by simp [World.cell?, Dx5.out]
          have Dc1x5 : x5.cell? ⟨wx.heap.size, 1, none⟩ = some (.int .i64 te) := by simp [World.cell?, Dx5.out]
          have Yc0x5 : x5.cell? ⟨u2.heap.size, 0, none⟩ = some (.int .i64 X.cy) := by simp [World.cell?, Yx5.out]
          have Yc1x5 : x5.cell? ⟨u2.heap.size, 1, none⟩ = some (.int .i64 X.gr) := by simp [World.cell?, Yx5.out]
          have Yc2x5 : x5.cell? ⟨u2.heap.size, 2, none⟩ = some (.slice A X.cs.length cap) := by simp [World.cell?, Yx5.out]
          rw [← hx5]
          clear hx5 bx5 Da0 Da1 Ya0 Ya1 Ya2
          clear nx5
          have T1 := fun W h => check19 X A cap W h hcap
          rw [HTE.out] at T1
          have HT1 := Lib.hid T1
          clear T1
          obtain ⟨x6, hx6⟩ : ∃ x6, x6 = x5.drew := ⟨_, rfl⟩
          have b6 : Below x5.heap.size x5 x6 := by rw [hx6]; exact (Below.refl _ _).drew
          have H6 := Lib.hid hx6
          clear hx6
          have Bx6 := Lib.hid (Bx5.out.trans ((b6).mono mx5))
          have mx6 : wx.heap.size ≤ x6.heap.size := Nat.le_trans mx5 (b6).size
          have Ex6 := Lib.hid (Ex5.out.below ((b6).mono (by omega)))
          have Tx6 := Lib.hid (((b6).block _ (heap_lt Tx5.out)).trans Tx5.out)
          have Dx6 := Lib.hid (((b6).block _ (heap_lt Dx5.out)).trans Dx5.out)
          have Yx6 := Lib.hid (((b6).block _ (heap_lt Yx5.out)).trans Yx5.out)
          have Ix6 := Lib.hid ((Ix5.out.below (b6)).mono (b6).size)
          clear Bx5 mx5 Ex5 Tx5 Dx5 Yx5 Ix5 Dc0x5 Dc1x5 Yc0x5 Yc1x5 Yc2x5
          have Dc0x6 : x6.cell? ⟨wx.heap.size, 0, none⟩ = some (.func (.func id) #[] caps) := by simp [World.cell?, Dx6.out]
          have Dc1x6 : x6.cell? ⟨wx.heap.size, 1, none⟩ = some (.int .i64 te) := by simp [World.cell?, Dx6.out]
          have Yc0x6 : x6.cell? ⟨u2.heap.size, 0, none⟩ = some (.int .i64 X.cy) := by simp [World.cell?, Yx6.out]
          have Yc1x6 : x6.cell? ⟨u2.heap.size, 1, none⟩ = some (.int .i64 X.gr) := by simp [World.cell?, Yx6.out]
          have Yc2x6 : x6.cell? ⟨u2.heap.size, 2, none⟩ = some (.slice A X.cs.length cap) := by simp [World.cell?, Yx6.out]
          clear b6
          refine wp_region_held_drew (S := fun w' => w'.heap[wx.heap.size]? = some (.cells #[.func (.func id) #[] caps, .int .i64 te] 58 (0, 0))) (by kernel_rfl) (show _ from (by rw [← H6.out]; exact Dx6.out)) (fun hS => ?_)
          rw [← H6.out] at hS ⊢
          refine wpAnyH_take (i := 2) (v := ?vC1) rfl (by kernel_rfl) (by kernel_rfl) (by kernel_rfl) (fun _ _ _ h => h) (Or.inl ⟨by rfl, ?hC1⟩) hS ?rC1
          case hC1 =>
            intro w1 hSw
            clear hSw
            go_simp
            try with_reducible rfl
          (try simp only [Act.put, List.getElem_toArray, List.getElem_cons_zero, List.getElem_cons_succ, List.setIfInBounds_toArray, List.set_cons_zero, List.set_cons_succ])
          refine wpAnyH_take (i := 3) (v := ?vC2) rfl (by kernel_rfl) (by kernel_rfl) (by kernel_rfl) (fun _ _ _ h => h) (Or.inl ⟨by rfl, ?hC2⟩) hS ?rC2
          case hC2 =>
            intro w1 hSw
            have z := curX (i := 1) hSw rfl
            clear hSw
            go_simp
            try with_reducible rfl
          (try simp only [Act.put, List.getElem_toArray, List.getElem_cons_zero, List.getElem_cons_succ, List.setIfInBounds_toArray, List.set_cons_zero, List.set_cons_succ])
          refine wpAnyH_ready (rs := [0]) (by kernel_rfl) (by simp) (AllReadyH.cons rfl (fun K hK => ?_) AllReadyH.nil)
          go_simp
          refine hK.out _ _ (hS) (fun hS => ?_)
          clear hK K
          refine wpAnyH_ready (rs := [1]) (by kernel_rfl) (by simp) (AllReadyH.cons rfl (fun K hK => ?_) AllReadyH.nil)
          go_simp
          refine (HT1.out x6 Ix6.out).mono ?_
          rintro e x7 ⟨rfl, hx7⟩
          have Bx7 := Lib.hid (Bx6.out.trans ((hx7).mono mx6))
          have mx7 : wx.heap.size ≤ x7.heap.size := Nat.le_trans mx6 (hx7).size
          have Ex7 := Lib.hid (Ex6.out.below ((hx7).mono (by omega)))
          have Tx7 := Lib.hid (((hx7).block _ (heap_lt Tx6.out)).trans Tx6.out)
          have Dx7 := Lib.hid (((hx7).block _ (heap_lt Dx6.out)).trans Dx6.out)
          have Yx7 := Lib.hid (((hx7).block _ (heap_lt Yx6.out)).trans Yx6.out)
          have Ix7 := Lib.hid ((Ix6.out.below (hx7)).mono (hx7).size)
          clear Bx6 mx6 Ex6 Tx6 Dx6 Yx6 Ix6 Dc0x6 Dc1x6 Yc0x6 Yc1x6 Yc2x6
          have Dc0x7 : x7.cell? ⟨wx.heap.size, 0, none⟩ = some (.func (.func id) #[] caps) := by simp [World.cell?, Dx7.out]
          have Dc1x7 : x7.cell? ⟨wx.heap.size, 1, none⟩ = some (.int .i64 te) := by simp [World.cell?, Dx7.out]
          have Yc0x7 : x7.cell? ⟨u2.heap.size, 0, none⟩ = some (.int .i64 X.cy) := by simp [World.cell?, Yx7.out]
          have Yc1x7 : x7.cell? ⟨u2.heap.size, 1, none⟩ = some (.int .i64 X.gr) := by simp [World.cell?, Yx7.out]
          have Yc2x7 : x7.cell? ⟨u2.heap.size, 2, none⟩ = some (.slice A X.cs.length cap) := by simp [World.cell?, Yx7.out]
          clear hx7
          refine hK.out _ _ Dx7.out (fun hS => ?_)
          clear hK K
          refine wpAnyH_take (i := 4) (v := ?vC3) rfl (by kernel_rfl) (by kernel_rfl) (by kernel_rfl) (fun _ _ _ h => h) (Or.inl ⟨by kernel_rfl, ?hC3⟩) hS ?rC3
          case hC3 =>
            intro w1 hSw
            clear hSw
            go_simp
            try with_reducible rfl
          (try simp only [Act.put, List.getElem_toArray, List.getElem_cons_zero, List.getElem_cons_succ, List.setIfInBounds_toArray, List.set_cons_zero, List.set_cons_succ])
          refine wpAnyH_take (i := 5) (v := ?vC4) rfl (by kernel_rfl) (by kernel_rfl) (by kernel_rfl) (fun _ _ _ h => h) (Or.inl ⟨by kernel_rfl, ?hC4⟩) hS ?rC4
          case hC4 =>
            intro w1 hSw
            clear hSw
            go_simp
            try with_reducible rfl
          (try simp only [Act.put, List.getElem_toArray, List.getElem_cons_zero, List.getElem_cons_succ, List.setIfInBounds_toArray, List.set_cons_zero, List.set_cons_succ])
          refine wpAnyH_take (i := 6) (v := ?vC5) rfl (by kernel_rfl) (by kernel_rfl) (by kernel_rfl) (fun _ _ _ h => h) (Or.inl ⟨by kernel_rfl, ?hC5⟩) hS ?rC5
          case hC5 =>
            intro w1 hSw
            clear hSw
            go_simp
            try with_reducible rfl
          (try simp only [Act.put, List.getElem_toArray, List.getElem_cons_zero, List.getElem_cons_succ, List.setIfInBounds_toArray, List.set_cons_zero, List.set_cons_succ])
          refine wpAnyH_take (i := 7) (v := ?vC6) rfl (by kernel_rfl) (by kernel_rfl) (by kernel_rfl) (fun _ _ _ h => h) (Or.inl ⟨by kernel_rfl, ?hC6⟩) hS ?rC6
          case hC6 =>
            intro w1 hSw
            clear hSw
            go_simp
            try with_reducible rfl
          (try simp only [Act.put, List.getElem_toArray, List.getElem_cons_zero, List.getElem_cons_succ, List.setIfInBounds_toArray, List.set_cons_zero, List.set_cons_succ])
          refine wpAnyH_take (i := 8) (v := ?vC7) rfl (by kernel_rfl) (by kernel_rfl) (by kernel_rfl) (fun _ _ _ h => h) (Or.inl ⟨by kernel_rfl, ?hC7⟩) hS ?rC7
          case hC7 =>
            intro w1 hSw
            have z := curX (i := 1) hSw rfl
            clear hSw
            go_simp
            try with_reducible rfl
          (try simp only [Act.put, List.getElem_toArray, List.getElem_cons_zero, List.getElem_cons_succ, List.setIfInBounds_toArray, List.set_cons_zero, List.set_cons_succ])
          refine wpAnyH_take (i := 9) (v := ?vC8) rfl (by kernel_rfl) (by kernel_rfl) (by kernel_rfl) (fun _ _ _ h => h) (Or.inl ⟨by kernel_rfl, ?hC8⟩) hS ?rC8
          case hC8 =>
            intro w1 hSw
            clear hSw
            go_simp
            try with_reducible rfl
          (try simp only [Act.put, List.getElem_toArray, List.getElem_cons_zero, List.getElem_cons_succ, List.setIfInBounds_toArray, List.set_cons_zero, List.set_cons_succ])
          refine wpAnyH_take (i := 10) (v := ?vC9) rfl (by kernel_rfl) (by kernel_rfl) (by kernel_rfl) (fun _ _ _ h => h) (Or.inl ⟨by kernel_rfl, ?hC9⟩) hS ?rC9
          case hC9 =>
            intro w1 hSw
            clear hSw
            go_simp
            try with_reducible rfl
          (try simp only [Act.put, List.getElem_toArray, List.getElem_cons_zero, List.getElem_cons_succ, List.setIfInBounds_toArray, List.set_cons_zero, List.set_cons_succ])
          refine wpAnyH_take (i := 11) (v := ?vC10) rfl (by kernel_rfl) (by kernel_rfl) (by kernel_rfl) (fun _ _ _ h => h) (Or.inl ⟨by kernel_rfl, ?hC10⟩) hS ?rC10
          case hC10 =>
            intro w1 hSw
            clear hSw
            go_simp
            try with_reducible rfl
          (try simp only [Act.put, List.getElem_toArray, List.getElem_cons_zero, List.getElem_cons_succ, List.setIfInBounds_toArray, List.set_cons_zero, List.set_cons_succ])
          refine wpAnyH_take (i := 12) (v := ?vC11) rfl (by kernel_rfl) (by kernel_rfl) (by kernel_rfl) (fun _ _ _ h => h) (Or.inl ⟨by kernel_rfl, ?hC11⟩) hS ?rC11
          case hC11 =>
            intro w1 hSw
            clear hSw
            go_simp
            try with_reducible rfl
          (try simp only [Act.put, List.getElem_toArray, List.getElem_cons_zero, List.getElem_cons_succ, List.setIfInBounds_toArray, List.set_cons_zero, List.set_cons_succ])
          refine wpAnyH_take (i := 13) (v := ?vC12) rfl (by kernel_rfl) (by kernel_rfl) (by kernel_rfl) (fun _ _ _ h => h) (Or.inl ⟨by kernel_rfl, ?hC12⟩) hS ?rC12
          case hC12 =>
            intro w1 hSw
            clear hSw
            go_simp
            try with_reducible rfl
          (try simp only [Act.put, List.getElem_toArray, List.getElem_cons_zero, List.getElem_cons_succ, List.setIfInBounds_toArray, List.set_cons_zero, List.set_cons_succ])
          refine wpAnyH_take (i := 14) (v := ?vC13) rfl (by kernel_rfl) (by kernel_rfl) (by kernel_rfl) (fun _ _ _ h => h) (Or.inl ⟨by kernel_rfl, ?hC13⟩) hS ?rC13
          case hC13 =>
            intro w1 hSw
            have z := curX (i := 1) hSw rfl
            clear hSw
            go_simp
            try with_reducible rfl
          (try simp only [Act.put, List.getElem_toArray, List.getElem_cons_zero, List.getElem_cons_succ, List.setIfInBounds_toArray, List.set_cons_zero, List.set_cons_succ])
          refine wpAnyH_take (i := 15) (v := ?vC14) rfl (by kernel_rfl) (by kernel_rfl) (by kernel_rfl) (fun _ _ _ h => h) (Or.inl ⟨by kernel_rfl, ?hC14⟩) hS ?rC14
          case hC14 =>
            intro w1 hSw
            clear hSw
            go_simp
            try with_reducible rfl
          (try simp only [Act.put, List.getElem_toArray, List.getElem_cons_zero, List.getElem_cons_succ, List.setIfInBounds_toArray, List.set_cons_zero, List.set_cons_succ])
          refine wpAnyH_take (i := 16) (v := ?vC15) rfl (by kernel_rfl) (by kernel_rfl) (by kernel_rfl) (fun _ _ _ h => h) (Or.inl ⟨by kernel_rfl, ?hC15⟩) hS ?rC15
          case hC15 =>
            intro w1 hSw
            clear hSw
            go_simp
            try with_reducible rfl
          (try simp only [Act.put, List.getElem_toArray, List.getElem_cons_zero, List.getElem_cons_succ, List.setIfInBounds_toArray, List.set_cons_zero, List.set_cons_succ])
          refine wpAnyH_take (i := 17) (v := ?vC16) rfl (by kernel_rfl) (by kernel_rfl) (by kernel_rfl) (fun _ _ _ h => h) (Or.inl ⟨by kernel_rfl, ?hC16⟩) hS ?rC16
          case hC16 =>
            intro w1 hSw
            clear hSw
            go_simp
            try with_reducible rfl
          (try simp only [Act.put, List.getElem_toArray, List.getElem_cons_zero, List.getElem_cons_succ, List.setIfInBounds_toArray, List.set_cons_zero, List.set_cons_succ])
          refine wpAnyH_take (i := 18) (v := ?vC17) rfl (by kernel_rfl) (by kernel_rfl) (by kernel_rfl) (fun _ _ _ h => h) (Or.inl ⟨by kernel_rfl, ?hC17⟩) hS ?rC17
          case hC17 =>
            intro w1 hSw
            clear hSw
            go_simp
            try with_reducible rfl
          (try simp only [Act.put, List.getElem_toArray, List.getElem_cons_zero, List.getElem_cons_succ, List.setIfInBounds_toArray, List.set_cons_zero, List.set_cons_succ])
          refine wpAnyH_take (i := 19) (v := ?vC18) rfl (by kernel_rfl) (by kernel_rfl) (by kernel_rfl) (fun _ _ _ h => h) (Or.inl ⟨by kernel_rfl, ?hC18⟩) hS ?rC18
          case hC18 =>
            intro w1 hSw
            clear hSw
            go_simp
            try with_reducible rfl
          (try simp only [Act.put, List.getElem_toArray, List.getElem_cons_zero, List.getElem_cons_succ, List.setIfInBounds_toArray, List.set_cons_zero, List.set_cons_succ])
          refine wpAnyH_take (i := 20) (v := ?vC19) rfl (by kernel_rfl) (by kernel_rfl) (by kernel_rfl) (fun _ _ _ h => h) (Or.inl ⟨by kernel_rfl, ?hC19⟩) hS ?rC19
          case hC19 =>
            intro w1 hSw
            have z := curX (i := 1) hSw rfl
            clear hSw
            go_simp
            try with_reducible rfl
          (try simp only [Act.put, List.getElem_toArray, List.getElem_cons_zero, List.getElem_cons_succ, List.setIfInBounds_toArray, List.set_cons_zero, List.set_cons_succ])
          refine wpAnyH_take (i := 21) (v := ?vC20) rfl (by kernel_rfl) (by kernel_rfl) (by kernel_rfl) (fun _ _ _ h => h) (Or.inl ⟨by kernel_rfl, ?hC20⟩) hS ?rC20
          case hC20 =>
            intro w1 hSw
            clear hSw
            go_simp
            try with_reducible rfl
          (try simp only [Act.put, List.getElem_toArray, List.getElem_cons_zero, List.getElem_cons_succ, List.setIfInBounds_toArray, List.set_cons_zero, List.set_cons_succ])
          refine wpAnyH_take (i := 22) (v := ?vC21) rfl (by kernel_rfl) (by kernel_rfl) (by kernel_rfl) (fun _ _ _ h => h) (Or.inl ⟨by kernel_rfl, ?hC21⟩) hS ?rC21
          case hC21 =>
            intro w1 hSw
            clear hSw
            go_simp
            try with_reducible rfl
          (try simp only [Act.put, List.getElem_toArray, List.getElem_cons_zero, List.getElem_cons_succ, List.setIfInBounds_toArray, List.set_cons_zero, List.set_cons_succ])
          refine wpAnyH_take (i := 23) (v := ?vC22) rfl (by kernel_rfl) (by kernel_rfl) (by kernel_rfl) (fun _ _ _ h => h) (Or.inl ⟨by kernel_rfl, ?hC22⟩) hS ?rC22
          case hC22 =>
            intro w1 hSw
            clear hSw
            go_simp
            try with_reducible rfl
          (try simp only [Act.put, List.getElem_toArray, List.getElem_cons_zero, List.getElem_cons_succ, List.setIfInBounds_toArray, List.set_cons_zero, List.set_cons_succ])
          refine wpAnyH_take (i := 24) (v := ?vC23) rfl (by kernel_rfl) (by kernel_rfl) (by kernel_rfl) (fun _ _ _ h => h) (Or.inl ⟨by kernel_rfl, ?hC23⟩) hS ?rC23
          case hC23 =>
            intro w1 hSw
            clear hSw
            go_simp
            try with_reducible rfl
          (try simp only [Act.put, List.getElem_toArray, List.getElem_cons_zero, List.getElem_cons_succ, List.setIfInBounds_toArray, List.set_cons_zero, List.set_cons_succ])
          refine wpAnyH_take (i := 25) (v := ?vC24) rfl (by kernel_rfl) (by kernel_rfl) (by kernel_rfl) (fun _ _ _ h => h) (Or.inl ⟨by kernel_rfl, ?hC24⟩) hS ?rC24
          case hC24 =>
            intro w1 hSw
            clear hSw
            go_simp
            try with_reducible rfl
          (try simp only [Act.put, List.getElem_toArray, List.getElem_cons_zero, List.getElem_cons_succ, List.setIfInBounds_toArray, List.set_cons_zero, List.set_cons_succ])
          refine wpAnyH_take (i := 26) (v := ?vC25) rfl (by kernel_rfl) (by kernel_rfl) (by kernel_rfl) (fun _ _ _ h => h) (Or.inl ⟨by kernel_rfl, ?hC25⟩) hS ?rC25
          case hC25 =>
            intro w1 hSw
            have z := curX (i := 1) hSw rfl
            clear hSw
            go_simp
            try with_reducible rfl
          (try simp only [Act.put, List.getElem_toArray, List.getElem_cons_zero, List.getElem_cons_succ, List.setIfInBounds_toArray, List.set_cons_zero, List.set_cons_succ])
          refine wpAnyH_take (i := 27) (v := ?vC26) rfl (by kernel_rfl) (by kernel_rfl) (by kernel_rfl) (fun _ _ _ h => h) (Or.inl ⟨by kernel_rfl, ?hC26⟩) hS ?rC26
          case hC26 =>
            intro w1 hSw
            clear hSw
            go_simp
            try with_reducible rfl
          (try simp only [Act.put, List.getElem_toArray, List.getElem_cons_zero, List.getElem_cons_succ, List.setIfInBounds_toArray, List.set_cons_zero, List.set_cons_succ])
          refine wpAnyH_take (i := 28) (v := ?vC27) rfl (by kernel_rfl) (by kernel_rfl) (by kernel_rfl) (fun _ _ _ h => h) (Or.inl ⟨by kernel_rfl, ?hC27⟩) hS ?rC27
          case hC27 =>
            intro w1 hSw
            clear hSw
            go_simp
            try with_reducible rfl
          (try simp only [Act.put, List.getElem_toArray, List.getElem_cons_zero, List.getElem_cons_succ, List.setIfInBounds_toArray, List.set_cons_zero, List.set_cons_succ])
          refine wpAnyH_done (by kernel_rfl) ?_ _
          go_wp2_with fail
          exact ⟨⟨rfl, k + 1, by omega, by go_num, HB3.out.trans (Bx7.out.mono s3)⟩, by simp [intOf]; omega⟩
        · have hltI : ¬ (k : Int) < 21 := by omega
          have h8x : 8 ≤ wx.heap.size := by omega
          go_wp2_with fail
          refine (wrong52 8 wx Ewx.out h8x).mono ?_
          rintro e y1 ⟨rfl, hy1⟩
          have By1 := Lib.hid (Bwx.out.trans ((hy1).mono mwx))
          have my1 : w.heap.size ≤ y1.heap.size := Nat.le_trans mwx (hy1).size
          have Ey1 := Lib.hid (Ewx.out.below ((hy1).mono (by omega)))
          have Ty1 := Lib.hid (((hy1).block _ (heap_lt Twx.out)).trans Twx.out)
          have Ly1 := Lib.hid (((hy1).block _ (heap_lt Lwx.out)).trans Lwx.out)
          have Gy1 := Lib.hid (((hy1).block _ (heap_lt Gwx.out)).trans Gwx.out)
          clear Bwx mwx Ewx Twx Lwx Gwx
          clear hy1
          go_wp2_with fail
          refine (texts53 8 y1 Ey1.out (by omega)).mono ?_
          rintro e y2 ⟨rfl, hy2⟩
          have By2 := Lib.hid (By1.out.trans ((hy2).mono my1))
          have my2 : w.heap.size ≤ y2.heap.size := Nat.le_trans my1 (hy2).size
          have Ey2 := Lib.hid (Ey1.out.below ((hy2).mono (by omega)))
          have Ty2 := Lib.hid (((hy2).block _ (heap_lt Ty1.out)).trans Ty1.out)
          have Ly2 := Lib.hid (((hy2).block _ (heap_lt Ly1.out)).trans Ly1.out)
          have Gy2 := Lib.hid (((hy2).block _ (heap_lt Gy1.out)).trans Gy1.out)
          clear By1 my1 Ey1 Ty1 Ly1 Gy1
          clear hy2
          go_wp2_with fail
          go_ret
          exact ⟨rfl, By2.out⟩
end Go.Proofs.YtnnnpliigdfipaaGreatDoor
