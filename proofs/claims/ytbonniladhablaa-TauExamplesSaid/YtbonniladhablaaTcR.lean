/- Check of package tau and of its reference. -/
import Derived.Test.YtbonniladhablaaRows
import Derived.WalkKit
import Derived.WalkLawsBesides
import Derived.WalkSpells
import Derived.ProofKit
import Derived.Below
import Derived.Outline
import Derived.Lib.Hide
import Derived.Deep.RegionWith
import Derived.Deep.RegionHeld3
import Derived.Deep.DrawnRows
import Derived.StillTailTactics
import Derived.BigQuiet
import Derived.Deep.QuietTactic
import Derived.Deep.LoopGhost
import Derived.IntWalk
import Derived.Test.YtbonniladhablaaTcQ
import Derived.Test.YtbonniladhablaaTaG
namespace Go.Proofs.Ytbonniladhablaa
open Go.RowKit
attribute [local go_sem ↓] Go.wp_at_zero Go.wp_at_succ
attribute [local go_sem] wrap_lit

/-- The cells of a level. -/
theorem lvl_at {w : World} {B n : Nat} {A : Option Addr} {xs : List Int} (h : Is .i64 w B A xs) (hn : xs.length = n * 4) {k : Nat} (hk : k < n) : ∃ b off, A = some ⟨b, off, none⟩ ∧ b < B ∧ w.cell? ⟨b, off + k * 4, none⟩ = some (.int .i64 (nth xs (k * 4))) ∧ w.cell? ⟨b, off + k * 4 + 1, none⟩ = some (.int .i64 (nth xs (k * 4 + 1))) ∧ w.cell? ⟨b, off + k * 4 + 2, none⟩ = some (.int .i64 (nth xs (k * 4 + 2))) ∧ w.cell? ⟨b, off + k * 4 + 3, none⟩ = some (.int .i64 (nth xs (k * 4 + 3))) := by
  obtain ⟨b, off, e, hb, hc⟩ := h (by omega)
  have c0 := hc (k * 4) (by omega)
  have c1 := hc (k * 4 + 1) (by omega)
  have c2 := hc (k * 4 + 2) (by omega)
  have c3 := hc (k * 4 + 3) (by omega)
  rw [← Nat.add_assoc] at c1 c2 c3
  exact ⟨b, off, e, hb, c0, c1, c2, c3⟩
/-- within of one bound in a new block. -/
theorem within1 (a x y r : Int) (W : World) (hr : r = if x ≤ a ∧ a ≤ y then 0 else 1) :
    Calls Try.prog 32 #[.slice (some ⟨W.heap.size, 0, none⟩) 1 1] (W.alloc (.cells #[.int .i64 a, .int .i64 x, .int .i64 y] 75)) fun e w' => e = .returned (.int .i64 r) ∧ Below W.heap.size W w' := by
  have bw : Below W.heap.size W (W.alloc (.cells #[.int .i64 a, .int .i64 x, .int .i64 y] 75)) := (Below.refl _ _).alloc (Nat.le_refl _) _
  refine (within32 (some ⟨W.heap.size, 0, none⟩) 1 1 [a, x, y] (W.heap.size + 1) r _ (fresh3 W _ _ a x y rfl) (by simp) rfl (by decide) (by rw [hr]; by_cases g : x ≤ a ∧ a ≤ y <;> simp [wOk1, g])).mono ?_
  rintro e w' ⟨rfl, hb⟩
  exact ⟨rfl, bw.trans (hb.mono (by simp))⟩
theorem within2 (far tall r : Int) (W : World) (hr : r = if okF far tall then 0 else 1) :
    Calls Try.prog 32 #[.slice (some ⟨W.heap.size, 0, none⟩) 2 2] (W.alloc (.cells #[.int .i64 far, .int .i64 0, .int .i64 8192, .int .i64 tall, .int .i64 0, .int .i64 50000] 75)) fun e w' => e = .returned (.int .i64 r) ∧ Below W.heap.size W w' := by
  have bw : Below W.heap.size W (W.alloc (.cells #[.int .i64 far, .int .i64 0, .int .i64 8192, .int .i64 tall, .int .i64 0, .int .i64 50000] 75)) := (Below.refl _ _).alloc (Nat.le_refl _) _
  refine (within32 (some ⟨W.heap.size, 0, none⟩) 2 2 [far, 0, 8192, tall, 0, 50000] (W.heap.size + 1) r _ (fresh6 W _ _ far 0 8192 tall 0 50000 rfl) (by simp) rfl (by decide) (by rw [hr]; by_cases g : 0 ≤ far ∧ far ≤ 8192 ∧ 0 ≤ tall ∧ tall ≤ 50000 <;> simp [wOk2, okF, g])).mono ?_
  rintro e w' ⟨rfl, hb⟩
  exact ⟨rfl, bw.trans (hb.mono (by simp))⟩

/-- The table in a block of its own, and what it leads to. -/
structure TbS (w : World) (p : Nat) (F A B' : Option Addr) (cf na ca nb cb : Nat) (fl xa xb : List Int) (far tall : Int) (W : World) : Prop where
  c0 : W.cell? ⟨p, 0, none⟩ = some (.slice F fl.length cf)
  c1 : W.cell? ⟨p, 1, none⟩ = some (.slice A na ca)
  c2 : W.cell? ⟨p, 2, none⟩ = some (.slice B' nb cb)
  c3 : W.cell? ⟨p, 3, none⟩ = some (.int .i64 far)
  c4 : W.cell? ⟨p, 4, none⟩ = some (.int .i64 tall)
  f : Is .i64 W W.heap.size F fl
  a : Is .i64 W W.heap.size A xa
  b : Is .i64 W W.heap.size B' xb
  bw : Below w.heap.size w W
  lt : p < W.heap.size
theorem TbS.on {w : World} {p : Nat} {F A B' : Option Addr} {cf na ca nb cb : Nat} {fl xa xb : List Int} {far tall : Int} {W W1 : World} (h : TbS w p F A B' cf na ca nb cb fl xa xb far tall W) (hb : Below W.heap.size W W1) : TbS w p F A B' cf na ca nb cb fl xa xb far tall W1 where
  c0 := (hb.cell (p := ⟨p, 0, none⟩) h.lt).trans h.c0
  c1 := (hb.cell (p := ⟨p, 1, none⟩) h.lt).trans h.c1
  c2 := (hb.cell (p := ⟨p, 2, none⟩) h.lt).trans h.c2
  c3 := (hb.cell (p := ⟨p, 3, none⟩) h.lt).trans h.c3
  c4 := (hb.cell (p := ⟨p, 4, none⟩) h.lt).trans h.c4
  f := (h.f.below hb).mono hb.size
  a := (h.a.below hb).mono hb.size
  b := (h.b.below hb).mono hb.size
  bw := h.bw.trans (hb.mono h.bw.size)
  lt := Nat.lt_of_lt_of_le h.lt hb.size
theorem TbS.made (F A B' : Option Addr) (cf na ca nb cb : Nat) (fl xa xb : List Int) (far tall : Int) (B : Nat) (w : World) (hB : B ≤ w.heap.size) (hF : Is .i64 w B F fl) (hA : Is .i64 w B A xa) (hB' : Is .i64 w B B' xb) (T : TypeId) : TbS w w.heap.size F A B' cf na ca nb cb fl xa xb far tall (w.alloc (.cells #[.slice F fl.length cf, .slice A na ca, .slice B' nb cb, .int .i64 far, .int .i64 tall] T)) where
  c0 := World.cell?_alloc_at _ _ _ _ rfl
  c1 := World.cell?_alloc_at _ _ _ _ rfl
  c2 := World.cell?_alloc_at _ _ _ _ rfl
  c3 := World.cell?_alloc_at _ _ _ _ rfl
  c4 := World.cell?_alloc_at _ _ _ _ rfl
  f := ((hF.mono hB).below ((Below.refl _ _).alloc (Nat.le_refl _) _)).mono (by simp)
  a := ((hA.mono hB).below ((Below.refl _ _).alloc (Nat.le_refl _) _)).mono (by simp)
  b := ((hB'.mono hB).below ((Below.refl _ _).alloc (Nat.le_refl _) _)).mono (by simp)
  bw := (Below.refl _ _).alloc (Nat.le_refl _) _
  lt := by simp

set_option maxRecDepth 100000 in
set_option maxHeartbeats 8000000 in
theorem check26 (F A B' : Option Addr) (cf na ca nb cb : Nat) (fl xa xb : List Int) (far tall : Int) (B : Nat) (w : World) (hB : B ≤ w.heap.size) (hF : Is .i64 w B F fl) (hA : Is .i64 w B A xa) (hB' : Is .i64 w B B' xb) (hna : xa.length = na * 4) (hnb : xb.length = nb * 4) (hlf : fl.length ≤ 1000) (hla : na ≤ 1000) (hlb : nb ≤ 1000) :
    Calls Try.prog 26 #[.agg #[.slice F fl.length cf, .slice A na ca, .slice B' nb cb, .int .i64 far, .int .i64 tall]] w fun e w' => e = .returned (.int .i64 (ckTb fl na xa nb xb far tall)) ∧ Below w.heap.size w w' := by
  have hS := TbS.made F A B' cf na ca nb cb fl xa xb far tall B w hB hF hA hB' 50
  by_cases h15 : 15 < fl.length
  · have HV := Lib.hid (ckTb_4 (na := na) (xa := xa) (nb := nb) (xb := xb) (far := far) (tall := tall) h15)
    have hI : (15 : Int) < (fl.length : Int) := by omega
    have HS := Lib.hid hS
    clear hF hA hB' hS h15
    go_enter Try.func26, Try.ntmps26
    go_wp2_with fail
    go_ret
    exact ⟨ret_int HV.out.symm, HS.out.bw⟩
  · have hI : (fl.length : Int) ≤ 15 := by omega
    have H15 := Lib.hid h15
    have HS := Lib.hid hS
    clear hF hA hB' hS h15
    go_enter Try.func26, Try.ntmps26
    go_wp2_with fail
    obtain ⟨p, hp⟩ : ∃ p, p = w.heap.size := ⟨_, rfl⟩
    rw [← hp] at HS ⊢
    obtain ⟨X, hX⟩ : ∃ X, X = w.alloc (.cells #[.slice F fl.length cf, .slice A na ca, .slice B' nb cb, .int .i64 far, .int .i64 tall] 50) := ⟨_, rfl⟩
    rw [← hX] at HS ⊢
    have hpw : w.heap.size ≤ p := by omega
    clear hp hX
    go_loopw [2, 3, 20] (fun r l i wr => ∃ k : Nat, k ≤ fl.length ∧ i = .int .i64 k ∧ r = .int .i64 0 ∧ l = .int .i64 (lo fl k) ∧ flOk fl k = true ∧ TbS w p F A B' cf na ca nb cb fl xa xb far tall wr) (fun _ _ i _ => fl.length - (intOf i).toNat)
    case atStart => exact ⟨0, Nat.zero_le _, rfl, rfl, rfl, rfl, HS.out⟩
    case round =>
      clear HS
      obtain ⟨k, hk, rfl, rfl, rfl, hfl, hT⟩ := hrel
      have HT := Lib.hid hT
      have HFl := Lib.hid hfl
      have lb := lo_ge hfl
      by_cases hlt : k < fl.length
      · obtain ⟨b, off, rfl, hbb, hc⟩ := hT.f (by omega)
        have d0 := hc k hlt
        have hkI : (k : Int) < (fl.length : Int) := by omega
        have hk0 : (0 : Int) ≤ (k : Int) := by omega
        have HLo := Lib.hid (show lo fl (k + 1) = nth fl k + 1 from rfl)
        obtain ⟨z, hz⟩ : ∃ z, z = nth fl k := ⟨_, rfl⟩
        obtain ⟨l, hl⟩ : ∃ l, l = lo fl k := ⟨_, rfl⟩
        rw [← hz] at d0 HLo
        rw [← hl] at lb ⊢
        have HZ := Lib.hid (And.intro hz hl)
        clear hc hz hl hT hfl
        by_cases g : l ≤ z ∧ z ≤ 50000
        · have HF2 := Lib.hid (flOk_step HFl.out (by rw [← HZ.out.1, ← HZ.out.2]; exact g))
          have C := Lib.hid (within1 z l 50000 0 wr (by rw [if_pos g]))
          obtain ⟨g1, g2⟩ := g
          go_wp2_with fail
          refine C.out.mono ?_
          rintro e w5 ⟨rfl, hb5⟩
          have HT5 := Lib.hid (HT.out.on hb5)
          clear hb5
          go_wp2_with fail
          exact ⟨⟨k + 1, by omega, by go_num, rfl, by rw [HLo.out], HF2.out, HT5.out⟩, by simp [intOf]; omega⟩
        · have HV := Lib.hid (ckTb_f (na := na) (xa := xa) (nb := nb) (xb := xb) (far := far) (tall := tall) H15.out (flOk_bad hlt (by rw [← HZ.out.1, ← HZ.out.2]; exact g)))
          have C := Lib.hid (within1 z l 50000 1 wr (by rw [if_neg g]))
          clear g
          go_wp2_with fail
          refine C.out.mono ?_
          rintro e w5 ⟨rfl, hb5⟩
          have HT5 := Lib.hid (HT.out.on hb5)
          clear hb5
          go_wp2_with fail
          go_ret
          exact ⟨ret_int HV.out.symm, HT5.out.bw⟩
      · obtain rfl : k = fl.length := by omega
        obtain ⟨l, hl⟩ : ∃ l, l = lo fl fl.length := ⟨_, rfl⟩
        rw [← hl]
        have e0 := hT.c0
        have e1 := hT.c1
        have e2 := hT.c2
        clear hl lb hT hfl
        by_cases hn : na = fl.length + 1 ∧ nb = fl.length + 1
        · obtain ⟨n1, n2⟩ := hn
          have HN := Lib.hid (And.intro n1 n2)
          have n1b : ((na : Int) != (fl.length : Int) + 1) = false := by simp; omega
          have n2b : ((nb : Int) != (fl.length : Int) + 1) = false := by simp; omega
          clear n1 n2
          go_wp2_with fail
          obtain ⟨Y, hY⟩ : ∃ Y, Y = wr.alloc (.cells #[.slice A na ca, .slice B' nb cb] 48) := ⟨_, rfl⟩
          obtain ⟨q, hq⟩ : ∃ q, q = wr.heap.size := ⟨_, rfl⟩
          have bY : Below wr.heap.size wr Y := by rw [hY]; exact (Below.refl _ _).alloc (Nat.le_refl _) _
          have y0 : Y.cell? ⟨q, 0, none⟩ = some (.slice A na ca) := by rw [hY, hq]; exact World.cell?_alloc_at _ _ _ _ rfl
          have y1 : Y.cell? ⟨q, 1, none⟩ = some (.slice B' nb cb) := by rw [hY, hq]; exact World.cell?_alloc_at _ _ _ _ rfl
          have hqY : q < Y.heap.size := by rw [hY, hq]; simp
          rw [← hY, ← hq]
          have HT := Lib.hid (HT.out.on bY)
          have HY0 := Lib.hid y0
          have HY1 := Lib.hid y1
          clear hY hq bY y0 y1 e0 e1 e2 n1b n2b
          go_loopw [2, 57] (fun r i wr => ∃ j : Nat, j ≤ 2 ∧ i = .int .i64 (j : Nat) ∧ r = .int .i64 0 ∧ (1 ≤ j → lvOk xa na = true) ∧ (2 ≤ j → lvOk xb nb = true) ∧ TbS w p F A B' cf na ca nb cb fl xa xb far tall wr ∧ Below Y.heap.size Y wr) (fun _ i _ => 2 - (intOf i).toNat)
          case atStart => exact ⟨0, by omega, rfl, rfl, fun h => absurd h (by omega), fun h => absurd h (by omega), HT.out, Below.refl _ _⟩
          case round =>
            clear HT
            obtain ⟨j, hj, rfl, rfl, ha1, hb1, hT, hbY⟩ := hrel
            have HT := Lib.hid hT
            have HBY := Lib.hid hbY
            have HA1 := Lib.hid ha1
            have HB1 := Lib.hid hb1
            rcases (by omega : j = 0 ∨ j = 1 ∨ j = 2) with rfl | rfl | rfl
            · rw [show ((0 : Nat) : Int) = 0 from rfl]
              have e0 := (hbY.cell (p := ⟨q, 0, none⟩) hqY).trans HY0.out
              clear hT hbY ha1 hb1
              obtain ⟨V, hV⟩ : ∃ V : World, V = wr := ⟨_, rfl⟩
              subst hV
              have hnI : (0 : Int) ≤ (na : Int) := by omega
              go_wp2_with fail
              go_loopw [2, 63] (fun r i wr => ∃ k : Nat, k ≤ na ∧ i = .int .i64 k ∧ r = .int .i64 0 ∧ lvOk xa k = true ∧ TbS w p F A B' cf na ca nb cb fl xa xb far tall wr ∧ Below V.heap.size V wr) (fun _ i _ => na - (intOf i).toNat)
              case atStart => exact ⟨0, Nat.zero_le _, rfl, rfl, rfl, HT.out, Below.refl _ _⟩
              case round =>
                clear HT
                obtain ⟨k, hk, rfl, rfl, hlv, hT, hbV⟩ := hrel
                have HT := Lib.hid hT
                have HL := Lib.hid hlv
                have HV := Lib.hid hbV
                by_cases hkt : k < na
                · obtain ⟨b, off, rfl, hbb, d0, d1, d2, d3⟩ := lvl_at hT.a hna hkt
                  have hkI : (k : Int) < (na : Int) := by omega
                  have hk0 : (0 : Int) ≤ (k : Int) := by omega
                  have HOk := Lib.hid (show okLv xa k ↔ okL (nth xa (k * 4)) (nth xa (k * 4 + 1)) (nth xa (k * 4 + 2)) (nth xa (k * 4 + 3)) from Iff.rfl)
                  obtain ⟨y0, hy0⟩ : ∃ y, y = nth xa (k * 4) := ⟨_, rfl⟩
                  obtain ⟨y1, hy1⟩ : ∃ y, y = nth xa (k * 4 + 1) := ⟨_, rfl⟩
                  obtain ⟨y2, hy2⟩ : ∃ y, y = nth xa (k * 4 + 2) := ⟨_, rfl⟩
                  obtain ⟨y3, hy3⟩ : ∃ y, y = nth xa (k * 4 + 3) := ⟨_, rfl⟩
                  rw [← hy0] at d0 HOk
                  rw [← hy1] at d1 HOk
                  rw [← hy2] at d2 HOk
                  rw [← hy3] at d3 HOk
                  clear hy0 hy1 hy2 hy3 hT hlv hbV
                  go_wp2_with fail
                  obtain ⟨X, hX⟩ : ∃ X, X = wr.alloc (.cells #[.int .i64 y0, .int .i64 y1, .int .i64 y2, .int .i64 y3] 27) := ⟨_, rfl⟩
                  have bX : Below wr.heap.size wr X := by rw [hX]; exact (Below.refl _ _).alloc (Nat.le_refl _) _
                  rw [← hX]
                  have HTX := Lib.hid (HT.out.on bX)
                  have HVX := Lib.hid (HV.out.trans (bX.mono HV.out.size))
                  clear hX bX d0 d1 d2 d3
                  by_cases g : okL y0 y1 y2 y3
                  · have hv : lvE y0 y1 y2 y3 = 0 := by unfold lvE; rw [if_pos g]
                    have HL2 := Lib.hid (lvOk_step HL.out (HOk.out.2 g))
                    have C := level34 y0 y1 y2 y3 X
                    rw [hv] at C
                    have C := Lib.hid C
                    clear hv g
                    refine C.out.mono ?_
                    rintro e w5 ⟨rfl, hb5⟩
                    have HT5 := Lib.hid (HTX.out.on hb5)
                    have HV5 := Lib.hid (HVX.out.trans (hb5.mono HVX.out.size))
                    clear hb5
                    go_wp2_with fail
                    exact ⟨⟨k + 1, by omega, by go_num, rfl, HL2.out, HT5.out, HV5.out⟩, by simp [intOf]; omega⟩
                  · have hv : lvE y0 y1 y2 y3 = 1 := by unfold lvE; rw [if_neg g]
                    have HBad := Lib.hid (lvOk_bad (n := na) hkt (fun z => g (HOk.out.1 z)))
                    have C := level34 y0 y1 y2 y3 X
                    rw [hv] at C
                    have C := Lib.hid C
                    clear hv g
                    refine C.out.mono ?_
                    rintro e w5 ⟨rfl, hb5⟩
                    have HT5 := Lib.hid (HTX.out.on hb5)
                    clear hb5
                    go_wp2_with fail
                    go_ret
                    exact ⟨ret_int (Eq.symm (ckTb_1 H15.out HFl.out HN.out (fun z => by have := z.1; rw [HBad.out] at this; cases this))), HT5.out.bw⟩
                · obtain rfl : k = na := by omega
                  clear hT hlv hbV
                  go_wp2_with fail
                  exact ⟨⟨1, by omega, rfl, rfl, fun _ => HL.out, fun h => absurd h (by omega), HT.out, HBY.out.trans (HV.out.mono HBY.out.size)⟩, by simp [intOf]⟩
            · rw [show ((1 : Nat) : Int) = 1 from rfl]
              have e0 := (hbY.cell (p := ⟨q, 1, none⟩) hqY).trans HY1.out
              clear hT hbY ha1 hb1
              obtain ⟨V, hV⟩ : ∃ V : World, V = wr := ⟨_, rfl⟩
              subst hV
              have hnI : (0 : Int) ≤ (nb : Int) := by omega
              go_wp2_with fail
              go_loopw [2, 63] (fun r i wr => ∃ k : Nat, k ≤ nb ∧ i = .int .i64 k ∧ r = .int .i64 0 ∧ lvOk xb k = true ∧ TbS w p F A B' cf na ca nb cb fl xa xb far tall wr ∧ Below V.heap.size V wr) (fun _ i _ => nb - (intOf i).toNat)
              case atStart => exact ⟨0, Nat.zero_le _, rfl, rfl, rfl, HT.out, Below.refl _ _⟩
              case round =>
                clear HT
                obtain ⟨k, hk, rfl, rfl, hlv, hT, hbV⟩ := hrel
                have HT := Lib.hid hT
                have HL := Lib.hid hlv
                have HV := Lib.hid hbV
                by_cases hkt : k < nb
                · obtain ⟨b, off, rfl, hbb, d0, d1, d2, d3⟩ := lvl_at hT.b hnb hkt
                  have hkI : (k : Int) < (nb : Int) := by omega
                  have hk0 : (0 : Int) ≤ (k : Int) := by omega
                  have HOk := Lib.hid (show okLv xb k ↔ okL (nth xb (k * 4)) (nth xb (k * 4 + 1)) (nth xb (k * 4 + 2)) (nth xb (k * 4 + 3)) from Iff.rfl)
                  obtain ⟨y0, hy0⟩ : ∃ y, y = nth xb (k * 4) := ⟨_, rfl⟩
                  obtain ⟨y1, hy1⟩ : ∃ y, y = nth xb (k * 4 + 1) := ⟨_, rfl⟩
                  obtain ⟨y2, hy2⟩ : ∃ y, y = nth xb (k * 4 + 2) := ⟨_, rfl⟩
                  obtain ⟨y3, hy3⟩ : ∃ y, y = nth xb (k * 4 + 3) := ⟨_, rfl⟩
                  rw [← hy0] at d0 HOk
                  rw [← hy1] at d1 HOk
                  rw [← hy2] at d2 HOk
                  rw [← hy3] at d3 HOk
                  clear hy0 hy1 hy2 hy3 hT hlv hbV
                  go_wp2_with fail
                  obtain ⟨X, hX⟩ : ∃ X, X = wr.alloc (.cells #[.int .i64 y0, .int .i64 y1, .int .i64 y2, .int .i64 y3] 27) := ⟨_, rfl⟩
                  have bX : Below wr.heap.size wr X := by rw [hX]; exact (Below.refl _ _).alloc (Nat.le_refl _) _
                  rw [← hX]
                  have HTX := Lib.hid (HT.out.on bX)
                  have HVX := Lib.hid (HV.out.trans (bX.mono HV.out.size))
                  clear hX bX d0 d1 d2 d3
                  by_cases g : okL y0 y1 y2 y3
                  · have hv : lvE y0 y1 y2 y3 = 0 := by unfold lvE; rw [if_pos g]
                    have HL2 := Lib.hid (lvOk_step HL.out (HOk.out.2 g))
                    have C := level34 y0 y1 y2 y3 X
                    rw [hv] at C
                    have C := Lib.hid C
                    clear hv g
                    refine C.out.mono ?_
                    rintro e w5 ⟨rfl, hb5⟩
                    have HT5 := Lib.hid (HTX.out.on hb5)
                    have HV5 := Lib.hid (HVX.out.trans (hb5.mono HVX.out.size))
                    clear hb5
                    go_wp2_with fail
                    exact ⟨⟨k + 1, by omega, by go_num, rfl, HL2.out, HT5.out, HV5.out⟩, by simp [intOf]; omega⟩
                  · have hv : lvE y0 y1 y2 y3 = 1 := by unfold lvE; rw [if_neg g]
                    have HBad := Lib.hid (lvOk_bad (n := nb) hkt (fun z => g (HOk.out.1 z)))
                    have C := level34 y0 y1 y2 y3 X
                    rw [hv] at C
                    have C := Lib.hid C
                    clear hv g
                    refine C.out.mono ?_
                    rintro e w5 ⟨rfl, hb5⟩
                    have HT5 := Lib.hid (HTX.out.on hb5)
                    clear hb5
                    go_wp2_with fail
                    go_ret
                    exact ⟨ret_int (Eq.symm (ckTb_1 H15.out HFl.out HN.out (fun z => by have := z.2.1; rw [HBad.out] at this; cases this))), HT5.out.bw⟩
                · obtain rfl : k = nb := by omega
                  clear hT hlv hbV
                  go_wp2_with fail
                  exact ⟨⟨2, by omega, rfl, rfl, fun _ => HA1.out (by omega), fun _ => HL.out, HT.out, HBY.out.trans (HV.out.mono HBY.out.size)⟩, by simp [intOf]⟩
            · rw [show ((2 : Nat) : Int) = 2 from rfl]
              have c3 := hT.c3
              have c4 := hT.c4
              clear hT hbY ha1 hb1
              have C := Lib.hid (fun r (hr : r = if okF far tall then 0 else 1) => within2 far tall r wr hr)
              by_cases g : okF far tall
              · have HV := Lib.hid (show ckTb fl na xa nb xb far tall = 0 from ckTb_ok.2 ⟨by have := H15.out; omega, HFl.out, HN.out, HA1.out (by omega), HB1.out (by omega), g⟩)
                have C1 := Lib.hid (C.out 0 (by rw [if_pos g]))
                clear g
                go_wp2_with fail
                refine C1.out.mono ?_
                rintro e w5 ⟨rfl, hb5⟩
                have HT5 := Lib.hid (HT.out.on hb5)
                clear hb5
                go_wp2_with fail
                go_ret
                exact ⟨ret_int HV.out.symm, HT5.out.bw⟩
              · have HV := Lib.hid (show ckTb fl na xa nb xb far tall = 1 from ckTb_1 H15.out HFl.out HN.out (fun z => g z.2.2))
                have C1 := Lib.hid (C.out 1 (by rw [if_neg g]))
                clear g
                go_wp2_with fail
                refine C1.out.mono ?_
                rintro e w5 ⟨rfl, hb5⟩
                have HT5 := Lib.hid (HT.out.on hb5)
                clear hb5
                go_wp2_with fail
                go_ret
                exact ⟨ret_int HV.out.symm, HT5.out.bw⟩
        · have HV := Lib.hid (ckTb_2 (xa := xa) (xb := xb) (far := far) (tall := tall) H15.out HFl.out hn)
          by_cases n1 : na = fl.length + 1
          · have n1b : ((na : Int) != (fl.length : Int) + 1) = false := by simp; omega
            have n2b : ((nb : Int) != (fl.length : Int) + 1) = true := by simp; omega
            clear n1 hn
            go_wp2_with fail
            go_ret
            exact ⟨ret_int HV.out.symm, HT.out.bw⟩
          · have n1b : ((na : Int) != (fl.length : Int) + 1) = true := by simp; omega
            clear n1 hn
            go_wp2_with fail
            go_ret
            exact ⟨ret_int HV.out.symm, HT.out.bw⟩

set_option maxRecDepth 100000 in
set_option maxHeartbeats 8000000 in
theorem check27 (F A B' : Option Addr) (cf na ca nb cb : Nat) (fl xa xb : List Int) (far tall : Int) (B : Nat) (w : World) (hB : B ≤ w.heap.size) (hF : Is .i64 w B F fl) (hA : Is .i64 w B A xa) (hB' : Is .i64 w B B' xb) (hna : xa.length = na * 4) (hnb : xb.length = nb * 4) (hlf : fl.length ≤ 1000) (hla : na ≤ 1000) (hlb : nb ≤ 1000) :
    Calls Try.prog 27 #[.agg #[.slice F fl.length cf, .slice A na ca, .slice B' nb cb, .int .i64 far, .int .i64 tall]] w fun e w' => e = .returned (.int .i64 (ckTb fl na xa nb xb far tall)) ∧ Below w.heap.size w w' := by
  have hS := TbS.made F A B' cf na ca nb cb fl xa xb far tall B w hB hF hA hB' 53
  by_cases h15 : 15 < fl.length
  · have HV := Lib.hid (ckTb_4 (na := na) (xa := xa) (nb := nb) (xb := xb) (far := far) (tall := tall) h15)
    have hI : (15 : Int) < (fl.length : Int) := by omega
    have HS := Lib.hid hS
    clear hF hA hB' hS h15
    go_enter Try.func27, Try.ntmps27
    go_wp2_with fail
    go_ret
    exact ⟨ret_int HV.out.symm, HS.out.bw⟩
  · have hI : (fl.length : Int) ≤ 15 := by omega
    have H15 := Lib.hid h15
    have HS := Lib.hid hS
    clear hF hA hB' hS h15
    go_enter Try.func27, Try.ntmps27
    go_wp2_with fail
    obtain ⟨p, hp⟩ : ∃ p, p = w.heap.size := ⟨_, rfl⟩
    rw [← hp] at HS ⊢
    obtain ⟨X, hX⟩ : ∃ X, X = w.alloc (.cells #[.slice F fl.length cf, .slice A na ca, .slice B' nb cb, .int .i64 far, .int .i64 tall] 53) := ⟨_, rfl⟩
    rw [← hX] at HS ⊢
    have hpw : w.heap.size ≤ p := by omega
    clear hp hX
    go_loopw [2, 3] (fun r i wr => ∃ k : Nat, k ≤ fl.length ∧ i = .int .i64 k ∧ r = .int .i64 0 ∧ flOk fl k = true ∧ TbS w p F A B' cf na ca nb cb fl xa xb far tall wr) (fun _ i _ => fl.length - (intOf i).toNat)
    case atStart => exact ⟨0, Nat.zero_le _, rfl, rfl, rfl, HS.out⟩
    case round =>
      clear HS
      obtain ⟨k, hk, rfl, rfl, hfl, hT⟩ := hrel
      have HT := Lib.hid hT
      have HFl := Lib.hid hfl
      have lb := lo_ge hfl
      by_cases hlt : k < fl.length
      · obtain ⟨b, off, rfl, hbb, hc⟩ := hT.f (by omega)
        have d0 := hc k hlt
        have e0 := hT.c0
        have hkI : (k : Int) < (fl.length : Int) := by omega
        have hk0 : (0 : Int) ≤ (k : Int) := by omega
        have HGood := Lib.hid (show lo fl k ≤ nth fl k ∧ nth fl k ≤ 50000 → flOk fl (k + 1) = true from flOk_step hfl)
        have HBad := Lib.hid (show ¬ (lo fl k ≤ nth fl k ∧ nth fl k ≤ 50000) → ckTb fl na xa nb xb far tall = 1 from fun h => ckTb_f H15.out (flOk_bad hlt h))
        have HLo := Lib.hid (show lo fl k = if k = 0 then -1000 else nth fl (k - 1) + 1 from rfl)
        obtain ⟨z, hz⟩ : ∃ z, z = nth fl k := ⟨_, rfl⟩
        obtain ⟨l, hl⟩ : ∃ l, l = lo fl k := ⟨_, rfl⟩
        rw [← hz] at d0 HGood HBad
        rw [← hl] at lb HGood HBad HLo
        clear hz hl hT hfl
        by_cases g1 : z < -1000
        · have hV := HBad.out (by omega)
          have HV := Lib.hid hV
          have dd : decide (z < -1000) = true := decide_eq_true g1
          clear hV hc
          go_wp2_with fail
          go_quiet (fail)
          go_wp2_with fail
          go_ret
          exact ⟨ret_int HV.out.symm, below_drewN HT.out.bw _⟩
        · have dd1 : decide (z < -1000) = false := decide_eq_false g1
          by_cases g2 : 50000 < z
          · have hV := HBad.out (by omega)
            have HV := Lib.hid hV
            have dd : decide (50000 < z) = true := decide_eq_true g2
            clear hV hc
            go_wp2_with fail
            go_quiet (fail)
            go_wp2_with fail
            go_ret
            exact ⟨ret_int HV.out.symm, below_drewN HT.out.bw _⟩
          · have dd2 : decide (50000 < z) = false := decide_eq_false g2
            by_cases h0 : k = 0
            · have hF2 := HGood.out ⟨by have := HLo.out; rw [if_pos h0] at this; omega, by omega⟩
              subst h0
              have HF2 := Lib.hid hF2
              have dz : decide ((0 : Int) < 0) = false := by decide
              have dn : decide ((0 : Nat) < 0) = false := by decide
              have ee : ((0 : Nat) : Int) = 0 := rfl
              rw [ee]
              rw [Nat.add_zero] at d0
              clear hF2 hc ee
              go_wp2_with fail
              go_quiet (fail)
              go_wp2_with fail
              exact ⟨⟨1, by omega, rfl, rfl, HF2.out, HT.out.on (below_drewN (Below.refl _ _) _)⟩, by simp [intOf]; omega⟩
            · obtain ⟨m, rfl⟩ : ∃ m, k = m + 1 := ⟨k - 1, by omega⟩
              have d1 := hc m (by omega)
              have hlo := HLo.out
              rw [if_neg h0, Nat.add_sub_cancel] at hlo
              obtain ⟨y, hy⟩ : ∃ y, y = nth fl m := ⟨_, rfl⟩
              rw [← hy] at d1 hlo
              have HL := Lib.hid hlo
              have e9 : ((m + 1 : Nat) : Int) - 1 = (m : Int) := by omega
              have e8 : ((m : Int) + 1) - 1 = (m : Int) := by omega
              have k5 : (0 : Int) < (m : Int) + 1 := by omega
              have k6 : (m : Int) < (fl.length : Int) := by omega
              have k7 : (0 : Int) ≤ (m : Int) := by omega
              have k8 : decide ((0 : Int) < (m : Int) + 1) = true := decide_eq_true k5
              have k9 : IntKind.i64.wrap ((m : Int) + 1 - 1) = (m : Int) := by rw [e8]; exact IntWalk.i64_in _ (by omega)
              have k10 : IntKind.i64.wrap (m : Int) = (m : Int) := IntWalk.i64_in _ (by omega)
              clear hc hy hlo h0
              by_cases g3 : z ≤ y
              · have hV := HBad.out (by have := HL.out; omega)
                have HV := Lib.hid hV
                have dd : decide (z ≤ y) = true := decide_eq_true g3
                clear hV
                go_wp2_with fail
                go_quiet (fail)
                go_wp2_with fail
                go_ret
                exact ⟨ret_int HV.out.symm, below_drewN HT.out.bw _⟩
              · have dd : decide (z ≤ y) = false := decide_eq_false g3
                have HF2 := Lib.hid (HGood.out ⟨by have := HL.out; omega, by omega⟩)
                go_wp2_with fail
                go_quiet (fail)
                go_wp2_with fail
                exact ⟨⟨m + 1 + 1, by omega, by go_num, rfl, HF2.out, HT.out.on (below_drewN (Below.refl _ _) _)⟩, by simp [intOf]; omega⟩
      · obtain rfl : k = fl.length := by omega
        have e0 := hT.c0
        have e1 := hT.c1
        have e2 := hT.c2
        clear lb hT hfl
        by_cases hn : na = fl.length + 1 ∧ nb = fl.length + 1
        · obtain ⟨n1, n2⟩ := hn
          have HN := Lib.hid (And.intro n1 n2)
          have n1b : ((na : Int) != (fl.length : Int) + 1) = false := by simp; omega
          have n2b : ((nb : Int) != (fl.length : Int) + 1) = false := by simp; omega
          have hnab : nb = na := by omega
          have HNab := Lib.hid hnab
          have hnaI : (na : Int) = (nb : Int) := by omega
          have hleI : (na : Int) ≤ (nb : Int) := by omega
          clear n1 n2 hnab hnaI
          go_wp2_with fail
          clear n1b n2b
          go_loopw [2, 4] (fun r i wr => ∃ k : Nat, k ≤ na ∧ i = .int .i64 k ∧ r = .int .i64 0 ∧ lvOk xa k = true ∧ lvOk xb k = true ∧ TbS w p F A B' cf na ca nb cb fl xa xb far tall wr) (fun _ i _ => na - (intOf i).toNat)
          case atStart => exact ⟨0, Nat.zero_le _, rfl, rfl, rfl, rfl, HT.out⟩
          case round =>
            clear HT e0 e1 e2
            obtain ⟨k, hk, rfl, rfl, ha, hb, hT⟩ := hrel
            have HT := Lib.hid hT
            have HLa := Lib.hid ha
            have HLb := Lib.hid hb
            have e1 := hT.c1
            have e2 := hT.c2
            by_cases hkt : k < na
            · have hkb : k < nb := by have := HNab.out; omega
              have hkI : (k : Int) < (na : Int) := by omega
              have hkI2 : (k : Int) < (nb : Int) := by omega
              have hk0 : (0 : Int) ≤ (k : Int) := by omega
              obtain ⟨bd, od, rfl, hbd, d0, d1, d2, d3⟩ := lvl_at hT.a hna (k := k) (by omega)
              have HOkd := Lib.hid (show okLv xa k ↔ okL (nth xa (k * 4)) (nth xa (k * 4 + 1)) (nth xa (k * 4 + 2)) (nth xa (k * 4 + 3)) from Iff.rfl)
              obtain ⟨dy0, hdy0⟩ : ∃ y, y = nth xa (k * 4) := ⟨_, rfl⟩
              rw [← hdy0] at d0 HOkd
              clear hdy0
              obtain ⟨dy1, hdy1⟩ : ∃ y, y = nth xa (k * 4 + 1) := ⟨_, rfl⟩
              rw [← hdy1] at d1 HOkd
              clear hdy1
              obtain ⟨dy2, hdy2⟩ : ∃ y, y = nth xa (k * 4 + 2) := ⟨_, rfl⟩
              rw [← hdy2] at d2 HOkd
              clear hdy2
              obtain ⟨dy3, hdy3⟩ : ∃ y, y = nth xa (k * 4 + 3) := ⟨_, rfl⟩
              rw [← hdy3] at d3 HOkd
              clear hdy3

              obtain ⟨bf, of, rfl, hbf, f0, f1, f2, f3⟩ := lvl_at hT.b hnb (k := k) (by omega)
              have HOkf := Lib.hid (show okLv xb k ↔ okL (nth xb (k * 4)) (nth xb (k * 4 + 1)) (nth xb (k * 4 + 2)) (nth xb (k * 4 + 3)) from Iff.rfl)
              obtain ⟨fy0, hfy0⟩ : ∃ y, y = nth xb (k * 4) := ⟨_, rfl⟩
              rw [← hfy0] at f0 HOkf
              clear hfy0
              obtain ⟨fy1, hfy1⟩ : ∃ y, y = nth xb (k * 4 + 1) := ⟨_, rfl⟩
              rw [← hfy1] at f1 HOkf
              clear hfy1
              obtain ⟨fy2, hfy2⟩ : ∃ y, y = nth xb (k * 4 + 2) := ⟨_, rfl⟩
              rw [← hfy2] at f2 HOkf
              clear hfy2
              obtain ⟨fy3, hfy3⟩ : ∃ y, y = nth xb (k * 4 + 3) := ⟨_, rfl⟩
              rw [← hfy3] at f3 HOkf
              clear hfy3

              clear hT ha hb
              by_cases gd : okL dy0 dy1 dy2 dy3
              · have HA2 := Lib.hid (lvOk_step HLa.out (HOkd.out.2 gd))
                by_cases gf : okL fy0 fy1 fy2 fy3
                · have HB2 := Lib.hid (lvOk_step HLb.out (HOkf.out.2 gf))
                  have Cd := level36 dy0 dy1 dy2 dy3 wr
                  rw [show lvE dy0 dy1 dy2 dy3 = 0 by unfold lvE; rw [if_pos gd]] at Cd
                  have Cd := Lib.hid Cd

                  have Cf := fun W => level36 fy0 fy1 fy2 fy3 W
                  have hvf : lvE fy0 fy1 fy2 fy3 = 0 := by unfold lvE; rw [if_pos gf]
                  simp only [hvf] at Cf
                  have Cf := Lib.hid Cf
                  have HC := Lib.hid (And.intro e2 (And.intro f0 (And.intro f1 (And.intro f2 f3))))
                  clear gd gf hvf
                  go_wp2_with fail
                  refine Cd.out.mono ?_
                  rintro e w5 ⟨rfl, hb5⟩
                  have HT5 := Lib.hid (HT.out.on hb5)
                  have e2' := HT5.out.c2
                  have f0' := (hb5.cell (p := ⟨bf, of + k * 4, none⟩) hbf).trans HC.out.2.1
                  have f1' := (hb5.cell (p := ⟨bf, of + k * 4 + 1, none⟩) hbf).trans HC.out.2.2.1
                  have f2' := (hb5.cell (p := ⟨bf, of + k * 4 + 2, none⟩) hbf).trans HC.out.2.2.2.1
                  have f3' := (hb5.cell (p := ⟨bf, of + k * 4 + 3, none⟩) hbf).trans HC.out.2.2.2.2
                  clear hb5
                  go_wp2_with fail
                  refine (Cf.out _).mono ?_
                  rintro e w6 ⟨rfl, hb6⟩
                  have HT6 := Lib.hid (HT5.out.on hb6)
                  clear hb6
                  go_wp2_with fail
                  exact ⟨⟨k + 1, by omega, by go_num, rfl, HA2.out, HB2.out, HT6.out⟩, by simp [intOf]; omega⟩
                · have HV := Lib.hid (show ckTb fl na xa nb xb far tall = 1 from ckTb_1 H15.out HFl.out HN.out (fun z => by have := z.2.1; rw [lvOk_bad hkb (fun q => gf (HOkf.out.1 q))] at this; cases this))
                  have Cd := level36 dy0 dy1 dy2 dy3 wr
                  rw [show lvE dy0 dy1 dy2 dy3 = 0 by unfold lvE; rw [if_pos gd]] at Cd
                  have Cd := Lib.hid Cd

                  have Cf := fun W => level36 fy0 fy1 fy2 fy3 W
                  have hvf : lvE fy0 fy1 fy2 fy3 = 1 := by unfold lvE; rw [if_neg gf]
                  simp only [hvf] at Cf
                  have Cf := Lib.hid Cf
                  have HC := Lib.hid (And.intro e2 (And.intro f0 (And.intro f1 (And.intro f2 f3))))
                  clear gd gf hvf
                  go_wp2_with fail
                  refine Cd.out.mono ?_
                  rintro e w5 ⟨rfl, hb5⟩
                  have HT5 := Lib.hid (HT.out.on hb5)
                  have e2' := HT5.out.c2
                  have f0' := (hb5.cell (p := ⟨bf, of + k * 4, none⟩) hbf).trans HC.out.2.1
                  have f1' := (hb5.cell (p := ⟨bf, of + k * 4 + 1, none⟩) hbf).trans HC.out.2.2.1
                  have f2' := (hb5.cell (p := ⟨bf, of + k * 4 + 2, none⟩) hbf).trans HC.out.2.2.2.1
                  have f3' := (hb5.cell (p := ⟨bf, of + k * 4 + 3, none⟩) hbf).trans HC.out.2.2.2.2
                  clear hb5
                  go_wp2_with fail
                  refine (Cf.out _).mono ?_
                  rintro e w6 ⟨rfl, hb6⟩
                  have HT6 := Lib.hid (HT5.out.on hb6)
                  clear hb6
                  go_wp2_with fail
                  go_ret
                  exact ⟨ret_int HV.out.symm, HT6.out.bw⟩
              · have HV := Lib.hid (show ckTb fl na xa nb xb far tall = 1 from ckTb_1 H15.out HFl.out HN.out (fun z => by have := z.1; rw [lvOk_bad hkt (fun q => gd (HOkd.out.1 q))] at this; cases this))
                have Cd := level36 dy0 dy1 dy2 dy3 wr
                rw [show lvE dy0 dy1 dy2 dy3 = 1 by unfold lvE; rw [if_neg gd]] at Cd
                have Cd := Lib.hid Cd

                clear gd
                go_wp2_with fail
                refine Cd.out.mono ?_
                rintro e w5 ⟨rfl, hb5⟩
                have HT5 := Lib.hid (HT.out.on hb5)
                clear hb5
                go_wp2_with fail
                go_ret
                exact ⟨ret_int HV.out.symm, HT5.out.bw⟩
            · obtain rfl : k = na := by omega
              have c3 := hT.c3
              have c4 := hT.c4
              have HLb2 := Lib.hid (show lvOk xb nb = true by rw [HNab.out]; exact hb)
              clear hT ha hb
              by_cases g : okF far tall
              · have HV := Lib.hid (show ckTb fl k xa nb xb far tall = 0 from ckTb_ok.2 ⟨by have := H15.out; omega, HFl.out, HN.out, HLa.out, HLb2.out, g⟩)
                obtain ⟨g1, g2, g3, g4⟩ := g
                go_wp2_with fail
                go_ret
                exact ⟨ret_int HV.out.symm, HT.out.bw⟩
              · have HV := Lib.hid (show ckTb fl k xa nb xb far tall = 1 from ckTb_1 H15.out HFl.out HN.out (fun z => g z.2.2))
                have g' : far < 0 ∨ (0 ≤ far ∧ 8192 < far) ∨ (0 ≤ far ∧ far ≤ 8192 ∧ tall < 0) ∨ (0 ≤ far ∧ far ≤ 8192 ∧ 0 ≤ tall ∧ 50000 < tall) := by unfold okF at g; omega
                clear g
                rcases g' with g1 | ⟨g1, g2⟩ | ⟨g1, g2, g3⟩ | ⟨g1, g2, g3, g4⟩
                all_goals
                  go_wp2_with fail
                  go_ret
                  exact ⟨ret_int HV.out.symm, HT.out.bw⟩
        · have HV := Lib.hid (ckTb_2 (xa := xa) (xb := xb) (far := far) (tall := tall) H15.out HFl.out hn)
          by_cases n1 : na = fl.length + 1
          · have n1b : ((na : Int) != (fl.length : Int) + 1) = false := by simp; omega
            have n2b : ((nb : Int) != (fl.length : Int) + 1) = true := by simp; omega
            clear n1 hn
            go_wp2_with fail
            go_ret
            exact ⟨ret_int HV.out.symm, HT.out.bw⟩
          · have n1b : ((na : Int) != (fl.length : Int) + 1) = true := by simp; omega
            clear n1 hn
            go_wp2_with fail
            go_ret
            exact ⟨ret_int HV.out.symm, HT.out.bw⟩
end Go.Proofs.Ytbonniladhablaa
