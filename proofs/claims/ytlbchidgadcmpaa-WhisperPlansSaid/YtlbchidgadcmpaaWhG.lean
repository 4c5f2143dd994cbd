/- Plan of the reference. -/
import Derived.Test.YtlbchidgadcmpaaRows
import Derived.WalkKit
import Derived.WalkLawsBesides
import Derived.WalkSpells
import Derived.ProofKit
import Derived.Below
import Derived.Outline
import Derived.Lib.Hide
import Derived.Deep.RegionWith
import Derived.Deep.RegionHeld3
import Derived.Deep.DrawnRows
import Derived.StillTailTactics
import Derived.BigQuiet
import Derived.Deep.QuietTactic
import Derived.Deep.LoopGhost
import Derived.IntWalk
import Derived.Test.YtlbchidgadcmpaaWhO
namespace Go.Proofs.Ytlbchidgadcmpaa
open Go.RowKit
attribute [local go_sem ↓] Go.wp_at_zero Go.wp_at_succ
attribute [local go_sem] wrap_lit

def upd (f : Nat → Nat) (x v : Nat) : Nat → Nat := fun y => if y = x then v else f y
/-- The table behind m rows. -/
def Tm (P : Nat → Nat → Bool) : Nat → Nat → Nat
  | 0 => fun _ => 0
  | m + 1 => upd (Tm P m) (254 - m) (lsR P (Tm P m) (254 - m) (255 - (254 - m)))
def tL (f : Nat → Nat) : List Int := (List.range 256).map fun y => (f y : Int)
theorem tL_len (f : Nat → Nat) : (tL f).length = 256 := by unfold tL; rw [List.length_map, List.length_range]
theorem tL_nth (f : Nat → Nat) (s : Nat) (h : s < 256) : nth (tL f) s = (f s : Int) := nth_map_range _ _ _ h
theorem tL_zero : tL (fun _ => 0) = List.replicate 256 0 := by
  apply nth_ext (by rw [tL_len, List.length_replicate])
  intro j hj
  rw [tL_len] at hj
  rw [tL_nth _ _ hj, nth_zero]; rfl
theorem tL_upd (f : Nat → Nat) (x v : Nat) (h : x < 256) : tL (upd f x v) = (tL f).set x (v : Int) := by
  apply nth_ext (by rw [tL_len, List.length_set, tL_len])
  intro j hj
  rw [tL_len] at hj
  rw [tL_nth _ _ hj, nth_set _ _ _ _ (by rw [tL_len]; exact h), tL_nth _ _ hj]
  unfold upd
  by_cases e : j = x
  · rw [if_pos e, if_pos e]
  · rw [if_neg e, if_neg e]
theorem upd_upd (f : Nat → Nat) (x u v : Nat) : upd (upd f x u) x v = upd f x v := by
  funext y; unfold upd; by_cases e : y = x <;> simp [e]
theorem upd_at (f : Nat → Nat) (x v : Nat) : upd f x v x = v := by unfold upd; rw [if_pos rfl]
theorem upd_ne (f : Nat → Nat) (x v : Nat) {y : Nat} (h : y ≠ x) : upd f x v y = f y := by unfold upd; rw [if_neg h]
theorem lsR_le (P : Nat → Nat → Bool) (L : Nat → Nat) (x : Nat) : ∀ k, lsR P L x k ≤ 1000
  | 0 => Nat.le_refl _
  | k + 1 => by
    have := lsR_le P L x k
    unfold lsR; split <;> omega
theorem Tm_le (P : Nat → Nat → Bool) : ∀ m y, Tm P m y ≤ 1000
  | 0, _ => Nat.zero_le _
  | m + 1, y => by
    have h1 := Tm_le P m y
    have h2 := lsR_le P (Tm P m) (254 - m) (255 - (254 - m))
    unfold Tm upd; split
    · exact h2
    · exact h1
theorem Tm_F {P : Nat → Nat → Bool} (hP : Anti P) : ∀ m, m ≤ 255 → ∀ y, 255 - m ≤ y → y ≤ 255 → Tm P m y = F P y
  | 0, _, y, h1, h2 => by
    obtain rfl : y = 255 := by omega
    rfl
  | m + 1, hm, y, h1, h2 => by
    have ih := Tm_F hP m (by omega)
    show upd (Tm P m) (254 - m) _ y = _
    by_cases e : y = 254 - m
    · rw [e, upd_at]
      exact lsR_F hP (by omega) fun z hz hz2 => ih z (by omega) hz2
    · rw [upd_ne _ _ _ e]
      exact ih y (by omega) h2
theorem Tm_none {P : Nat → Nat → Bool} (hP : ∀ x x' y y', x ≤ x' → y' ≤ y → P x y = true → P x' y' = true) {s : Nat} (h255 : s ≤ 255) (hs : P (s - 1) s = false) : ∀ m, m ≤ 255 → ∀ y, 255 - m ≤ y → y < s → Tm P m y = 1000
  | 0, _, y, h1, h2 => by omega
  | m + 1, hm, y, h1, h2 => by
    have ih := Tm_none hP h255 hs m (by omega)
    show upd (Tm P m) (254 - m) _ y = _
    by_cases e : y = 254 - m
    · rw [e, upd_at]
      exact lsR_none hP (by omega) hs (fun z hz hz2 => by rw [ih z (by omega) hz2]; exact Nat.le_refl _) _
    · rw [upd_ne _ _ _ e]
      exact ih y (by omega) h2
theorem OutB.belowQ {w w1 : World} {g Q : Nat} {T : TypeId} {l : List Int} (h : OutB w g T l) (hb : Below Q w w1) (hg : g < Q) : OutB w1 g T l := by
  obtain ⟨cs, h1, h2⟩ := h
  exact ⟨cs, (hb.block g hg).trans h1, h2⟩
set_option maxHeartbeats 1000000 in
theorem plan26a (A : Option Addr) (cap : Nat) (xs : List Int) (most : Int) (B : Nat) (w : World) (_hB : B ≤ w.heap.size) (hA : Is .i64 w B A xs) (hl : xs.length ≤ 1000000) (h : ¬ ckN xs = 0 ∨ most < 1) :
    Calls Try.prog 26 #[.slice A xs.length cap, .int .i64 most] w (PlP w (plE xs most) (plL xs most)) := by
  have C := Lib.hid (sens31 A cap xs B w hA hl)
  by_cases h0 : ckN xs = 0
  · have hm : most < 1 := h.resolve_left (fun g => g h0)
    have e := plE_1 h0 hm
    rw [plL_bad (by rw [e]; decide), e]
    have b1 : (ckN xs != 0) = false := by simp [h0]
    clear hA h h0 e
    go_enter Try.func26, Try.ntmps26
    go_wp2_with fail
    refine C.out.mono ?_
    rintro e w1 ⟨rfl, rfl⟩
    go_wp2_with fail
    go_ret2
    exact plp_nil (Below.refl _ _)
  · have e := plE_n (most := most) h0
    rw [plL_bad (by rw [e]; exact h0), e]
    have b1 : (ckN xs != 0) = true := by simp [h0]
    clear hA h h0 e
    go_enter Try.func26, Try.ntmps26
    go_wp2_with fail
    refine C.out.mono ?_
    rintro e w1 ⟨rfl, rfl⟩
    go_wp2_with fail
    go_ret2
    exact plp_nil (Below.refl _ _)
set_option maxRecDepth 100000 in
set_option maxHeartbeats 8000000 in
theorem plan26b (A : Option Addr) (cap : Nat) (xs : List Int) (most : Int) (B : Nat) (w : World) (hB : B ≤ w.heap.size) (hA : Is .i64 w B A xs) (hl : xs.length ≤ 1000000) (h0 : ckN xs = 0) (hm : 1 ≤ most) :
    Calls Try.prog 26 #[.slice A xs.length cap, .int .i64 most] w (PlP w (plE xs most) (plL xs most)) := by
  have C := sens31 A cap xs B w hA hl
  rw [h0] at C
  have C := Lib.hid C
  have H0 := Lib.hid h0
  have HA := Lib.hid hA
  obtain ⟨i1, hj0, hy0, hy1, hy2⟩ := info_parts int_info
  have hmk : ∀ W : World, (Instr.makeSlice 23 (.int .i64 256) (.int .i64 256)).run Try.prog W = .ok (.slice (some ⟨W.heap.size, 0, none⟩) 256 256) (W.alloc (.cells (madeCells #[.int .i64 0] 256) 3)) := fun W => by
    have h := run_makeN (P := Try.prog) 23 3 i1 _ Try.underlying23 hj0 hy0 256 (by omega) (by omega) W
    rw [hy1, Nat.mul_one] at h
    simpa [Value.cells] using h
  have hmd : decide (most < 1) = false := decide_eq_false (by omega)
  clear h0 hA hj0 hy0 hy1 hy2
  go_enter Try.func26, Try.ntmps26
  go_wp2_with fail
  refine C.out.mono ?_
  rintro e w1 ⟨rfl, rfl⟩
  go_wp2_with fail
  clear hmk hmd C
  have O0 := OutB.made w 256
  rw [← tL_zero] at O0
  obtain ⟨g, hg⟩ : ∃ g, g = w.heap.size := ⟨_, rfl⟩
  have HI := Lib.hid (show OutB (w.alloc (.cells (madeCells #[.int .i64 0] 256) 3)) g 3 (tL (Tm (Al xs most) 0)) ∧ Below w.heap.size w (w.alloc (.cells (madeCells #[.int .i64 0] 256) 3)) from ⟨by rw [hg]; exact O0, (Below.refl _ _).alloc (Nat.le_refl _) _⟩)
  have hwg : w.heap.size ≤ g := by omega
  have Hg := Lib.hid hg
  rw [← hg]
  clear hg O0
  go_loopw [8] (fun i wr => ∃ m : Nat, m ≤ 255 ∧ i = .int .i64 (254 - (m : Int)) ∧ OutB wr g 3 (tL (Tm (Al xs most) m)) ∧ Below w.heap.size w wr) (fun i _ => (intOf i + 1).toNat)
  case atStart => exact ⟨0, by omega, rfl, HI.out⟩
  case round =>
    clear HI
    obtain ⟨m, hmm, rfl, hO, hb⟩ := hrel
    have HO := Lib.hid hO
    have HB := Lib.hid hb
    clear hO hb
    by_cases hlt : m < 255
    · obtain ⟨x, hx⟩ : ∃ x : Nat, x = 254 - m := ⟨_, rfl⟩
      have ex : 254 - (m : Int) = (x : Int) := by omega
      rw [ex]
      have HX := Lib.hid (And.intro hx ex)
      have hx0 : (0 : Int) ≤ (x : Int) := by omega
      have hx1 : (x : Int) < 256 := by omega
      have hx2 : x ≤ 254 := by omega
      have o1 := HO.out.cell (j := x) (by rw [tL_len]; omega)
      have o2 := HO.out.frozen x
      have HO1 := Lib.hid (show ∀ v : Value, True from fun _ => trivial)
      clear HO1 hx ex
      go_wp2_with fail
      have HI := Lib.hid (show OutB (wr.setCell ⟨g, x, none⟩ (.int .i64 1000)) g 3 (tL (upd (Tm (Al xs most) m) x (lsR (Al xs most) (Tm (Al xs most) m) x 0))) ∧ Below w.heap.size w (wr.setCell ⟨g, x, none⟩ (.int .i64 1000)) from
        ⟨by rw [tL_upd _ _ _ (by omega)]; exact HO.out.set x 1000 (by rw [tL_len]; omega), HB.out.setCell (p := ⟨g, x, none⟩) hwg _⟩)
      clear HO HB o1 o2
      go_loopw [9] (fun i wr => ∃ k : Nat, k ≤ 255 - x ∧ i = .int .i64 ((x : Int) + (k : Int) + 1) ∧ OutB wr g 3 (tL (upd (Tm (Al xs most) m) x (lsR (Al xs most) (Tm (Al xs most) m) x k))) ∧ Below w.heap.size w wr) (fun i _ => 256 - (intOf i).toNat)
      case atStart => exact ⟨0, by omega, by simp, HI.out⟩
      case round =>
        clear HI
        obtain ⟨k, hk, rfl, hO, hb⟩ := hrel
        have HO := Lib.hid hO
        have HB := Lib.hid hb
        clear hO
        by_cases hkt : k < 255 - x
        · obtain ⟨y, hy⟩ : ∃ y : Nat, y = x + k + 1 := ⟨_, rfl⟩
          have ey : (x : Int) + (k : Int) + 1 = (y : Int) := by omega
          rw [ey]
          have hy0 : (0 : Int) ≤ (y : Int) := by omega
          have hy1 : (y : Int) < 256 := by omega
          have hy2 : (y : Int) ≤ 255 := by omega
          have o1 := HO.out.cell (j := y) (by rw [tL_len]; omega)
          have o2 := HO.out.cell (j := x) (by rw [tL_len]; omega)
          have o3 := HO.out.frozen x
          rw [tL_nth _ _ (by omega), upd_ne _ _ _ (by omega)] at o1
          rw [tL_nth _ _ (by omega), upd_at] at o2
          have b1 := Tm_le (Al xs most) m y
          have b2 := lsR_le (Al xs most) (Tm (Al xs most) m) x k
          have hst : lsR (Al xs most) (Tm (Al xs most) m) x (k + 1) = if Tm (Al xs most) m y + 1 < lsR (Al xs most) (Tm (Al xs most) m) x k ∧ (Al xs most) x y = true then Tm (Al xs most) m y + 1 else lsR (Al xs most) (Tm (Al xs most) m) x k := by rw [hy]; rfl
          obtain ⟨u, hu⟩ : ∃ u, u = Tm (Al xs most) m y := ⟨_, rfl⟩
          obtain ⟨v, hv⟩ : ∃ v, v = lsR (Al xs most) (Tm (Al xs most) m) x k := ⟨_, rfl⟩
          rw [← hu] at o1 b1 hst
          rw [← hv] at o2 b2 hst
          have hP : (Al xs most) x y = decide ((cnt xs (x : Int) (y : Int) : Int) ≤ most) := rfl
          rw [hP] at hst
          have Han := Lib.hid (fun n => answers34 A cap xs (x : Int) (y : Int) B (wr.drewN n) (HA.out.below ((below_drewN hb n).mono hB)) hl)
          obtain ⟨c, hc⟩ : ∃ c, c = cnt xs (x : Int) (y : Int) := ⟨_, rfl⟩
          rw [← hc] at hst Han
          have HS := Lib.hid hst
          have HE := Lib.hid (And.intro hy (And.intro ey (And.intro hu hv)))
          have hyx : ¬ y = x := by omega
          have hxy : ¬ x = y := by omega
          have wu : IntKind.i64.wrap ((u : Int) + 1) = (u : Int) + 1 := IntWalk.i64_in _ (by omega)
          have eyk : (y : Int) + 1 = (x : Int) + ((k + 1 : Nat) : Int) + 1 := by omega
          have HYK := Lib.hid eyk
          clear hy ey hu hv hP hst hc hb eyk
          by_cases g1 : u + 1 < v
          · have d1 : decide (u + 1 < v) = true := decide_eq_true g1
            have d1' : decide ((u : Int) + 1 < (v : Int)) = true := decide_eq_true (by omega)
            by_cases g2 : (c : Int) ≤ most
            · have d2 : decide ((c : Int) ≤ most) = true := decide_eq_true g2
              have HSt := Lib.hid (show lsR (Al xs most) (Tm (Al xs most) m) x (k + 1) = u + 1 by rw [HS.out, if_pos ⟨g1, d2⟩])
              go_wp2_with fail
              go_quiet ((go_at_call 34; with_reducible exact Calls.quiet_of_same (flipc (Han.out _))))
              obtain ⟨Y, hY⟩ : ∃ Y, Y = wr.drewN nq := ⟨_, rfl⟩
              have q1 : Y.cell? ⟨g, y, none⟩ = some (.int .i64 (u : Int)) := by rw [hY]; exact o1
              have q2 : Y.cell? ⟨g, x, none⟩ = some (.int .i64 (v : Int)) := by rw [hY]; exact o2
              have q3 : Y.frozen? ⟨g, x, none⟩ = false := by rw [hY]; exact o3
              have HY := Lib.hid (show OutB Y g 3 (tL (upd (Tm (Al xs most) m) x (lsR (Al xs most) (Tm (Al xs most) m) x k))) ∧ Below w.heap.size w Y by rw [hY]; exact ⟨HO.out.drewN nq, below_drewN HB.out nq⟩)
              rw [← hY]
              clear hY o1 o2 o3 d1 d1' d2
              go_wp2_with fail
              exact ⟨⟨k + 1, by omega, by rw [HYK.out], by
                rw [HSt.out, ← upd_upd (Tm (Al xs most) m) x (lsR (Al xs most) (Tm (Al xs most) m) x k) (u + 1), tL_upd _ _ _ (by omega)]
                exact HY.out.1.set x (((u + 1 : Nat)) : Int) (by rw [tL_len]; omega), HY.out.2.setCell (p := ⟨g, x, none⟩) hwg _⟩, by simp [intOf]; omega⟩
            · have d2 : decide ((c : Int) ≤ most) = false := decide_eq_false g2
              have HSt := Lib.hid (show lsR (Al xs most) (Tm (Al xs most) m) x (k + 1) = v by rw [HS.out, if_neg (fun e => g2 (of_decide_eq_true e.2))])
              go_wp2_with fail
              go_quiet ((go_at_call 34; with_reducible exact Calls.quiet_of_same (flipc (Han.out _))))
              go_wp2_with fail
              exact ⟨⟨k + 1, by omega, by rw [HYK.out], by rw [HSt.out, HE.out.2.2.2]; exact HO.out.drewN _, below_drewN HB.out _⟩, by simp [intOf]; omega⟩
          · have d1 : decide (u + 1 < v) = false := decide_eq_false g1
            have d1' : decide ((u : Int) + 1 < (v : Int)) = false := decide_eq_false (by omega)
            have HSt := Lib.hid (show lsR (Al xs most) (Tm (Al xs most) m) x (k + 1) = v by rw [HS.out, if_neg (fun e => g1 e.1)])
            go_wp2_with fail
            go_quiet (fail)
            go_wp2_with fail
            exact ⟨⟨k + 1, by omega, by rw [HYK.out], by rw [HSt.out, HE.out.2.2.2]; exact HO.out.drewN _, below_drewN HB.out _⟩, by simp [intOf]; omega⟩
        · obtain rfl : k = 255 - x := by omega
          have ek : (x : Int) + ((255 - x : Nat) : Int) + 1 = 256 := by omega
          rw [ek]
          have HT := Lib.hid (show OutB wr g 3 (tL (Tm (Al xs most) (m + 1))) by
            have e : Tm (Al xs most) (m + 1) = upd (Tm (Al xs most) m) x (lsR (Al xs most) (Tm (Al xs most) m) x (255 - x)) := by rw [HX.out.1]; rfl
            rw [e]; exact HO.out)
          have e9 : (x : Int) - 1 = 254 - ((m + 1 : Nat) : Int) := by have := HX.out.2; omega
          have H9 := Lib.hid e9
          clear ek hb HO e9
          go_wp2_with fail
          exact ⟨⟨m + 1, by omega, by rw [H9.out], HT.out, HB.out⟩, by simp [intOf] <;> omega⟩
    · obtain rfl : m = 255 := by omega
      rw [show (254 : Int) - ((255 : Nat) : Int) = -1 from rfl]
      have o0 := HO.out.cell (j := 0) (by rw [tL_len]; omega)
      rw [tL_nth _ _ (by omega)] at o0
      by_cases hf : ∀ s : Nat, s < 255 → (cnt xs (s : Int) ((s + 1 : Nat) : Int) : Int) ≤ most
      · have hAn := Al_anti (fits_of fun s hs => by have := hf s hs; push_cast at this; exact this)
        have HTF := Lib.hid (fun y (hy : y ≤ 255) => Tm_F hAn 255 (Nat.le_refl _) y (by omega) hy)
        have HAn := Lib.hid hAn
        rw [HTF.out 0 (by omega)] at o0
        have fb := F_bd (Al xs most) _ 0 (Nat.le_refl _)
        have H4 := Lib.hid (fun h4 => plE_4 H0.out hm hf h4)
        have H00 := Lib.hid (fun h4 => plE_ok.2 ⟨H0.out, hm, fun s hs => (by have := hf s hs; push_cast at this; exact this), h4⟩)
        have f1000 : ((F (Al xs most) 0 : Nat) : Int) < 1000 := by omega
        clear hf hAn
        by_cases g32 : 32 < F (Al xs most) 0
        · have hE := H4.out g32
          have HPl := Lib.hid (show plL xs most = [] from plL_bad (by rw [hE]; decide))
          have HE := Lib.hid hE
          have gI : (32 : Int) < ((F (Al xs most) 0 : Nat) : Int) := by omega
          clear hE g32
          go_wp2_with fail
          go_ret2
          rw [HPl.out, HE.out]
          exact plp_nil HB.out
        · have hE := H00.out (by omega)
          have HPl := Lib.hid (show plL xs most = (Pl (Al xs most) 0).map fun p => ((p.1 : Int), (p.2 : Int)) from plL_ok hE)
          have HE := Lib.hid hE
          have gI : ((F (Al xs most) 0 : Nat) : Int) ≤ 32 := by omega
          clear hE g32
          obtain ⟨i0, hi0, hz0, hz1, hz2⟩ := info_parts Step_info
          obtain ⟨Q, hQ⟩ : ∃ Q, Q = wr.heap.size := ⟨_, rfl⟩
          have hgQ : g < Q := by have := HO.out.lt; omega
          have HQ := Lib.hid hQ
          have hQ0 : Q ≤ wr.heap.size := by omega
          clear hQ
          go_wp2_with fail
          clear o0
          go_loopw [10, 11] (fun o i wr => ∃ (low : Nat) (pf : List (Nat × Nat)), low ≤ 255 ∧ i = .int .i64 (low : Nat) ∧ pf ++ Pl (Al xs most) low = Pl (Al xs most) 0 ∧ pf.length ≤ low ∧ OutB wr g 3 (tL (Tm (Al xs most) 255)) ∧ Acc .i64 wr Q 44 2 o pf.length (flatS (pf.map fun p => ((p.1 : Int), (p.2 : Int)))) ∧ Below w.heap.size w wr ∧ Q ≤ wr.heap.size) (fun _ i _ => 255 - (intOf i).toNat)
          case atStart => exact ⟨0, [], by omega, rfl, rfl, Nat.le_refl _, HO.out, Acc.nil _ _ _ _ _, HB.out, hQ0⟩
          case round =>
            clear HO HB hQ0
            obtain ⟨low, pf, hlow, rfl, hpf, hpl, hO, hacc, hb, hQs⟩ := hrel
            have HO := Lib.hid hO
            have HB := Lib.hid hb
            have HPf := Lib.hid hpf
            have HAcc := Lib.hid hacc
            obtain ⟨A5, C5, rfl, -⟩ := hacc.own
            clear hO hb hpf hacc
            by_cases hlt : low < 255
            · have hlI : (low : Int) < 255 := by omega
              have hl0 : (0 : Int) ≤ (low : Int) := by omega
              have hNx := Nx_spec HAn.out hlt
              have HNx := Lib.hid hNx
              obtain ⟨nx1, nx2, -, -, -⟩ := hNx
              go_wp2_with fail
              go_loopw [12] (fun i wx => ∃ h : Nat, low < h ∧ h ≤ Nx (Al xs most) low ∧ i = .int .i64 (h : Nat) ∧ OutB wx g 3 (tL (Tm (Al xs most) 255)) ∧ Acc .i64 wx Q 44 2 (.slice A5 pf.length C5) pf.length (flatS (pf.map fun p => ((p.1 : Int), (p.2 : Int)))) ∧ Below w.heap.size w wx ∧ Q ≤ wx.heap.size) (fun i _ => 256 - (intOf i).toNat)
              case atStart => exact ⟨low + 1, by omega, by omega, by go_num, HO.out, HAcc.out, HB.out, hQs⟩
              case round =>
                clear HO HB HAcc hQs
                obtain ⟨h, hh1, hh2, rfl, hO, hacc, hb, hQs⟩ := hrel
                have HO := Lib.hid hO
                have HB := Lib.hid hb
                have HAcc := Lib.hid hacc
                have fb1 := F_bd (Al xs most) _ low (Nat.le_refl _)
                have fb2 := F_bd (Al xs most) _ h (Nat.le_refl _)
                have o1 := hO.cell (j := h) (by rw [tL_len]; omega)
                have o2 := hO.cell (j := low) (by rw [tL_len]; omega)
                rw [tL_nth _ _ (by omega), HTF.out h (by omega)] at o1
                rw [tL_nth _ _ (by omega), HTF.out low (by omega)] at o2
                have Han := fun n => answers34 A cap xs (low : Int) (h : Int) B (wr.drewN n) (HA.out.below ((below_drewN hb n).mono hB)) hl
                have hPx : (Al xs most) low h = decide ((cnt xs (low : Int) (h : Int) : Int) ≤ most) := rfl
                obtain ⟨c, hc⟩ : ∃ c, c = cnt xs (low : Int) (h : Int) := ⟨_, rfl⟩
                rw [← hc] at Han hPx
                have Han := Lib.hid Han
                have HPx := Lib.hid hPx
                obtain ⟨u, hu⟩ : ∃ u, u = F (Al xs most) h := ⟨_, rfl⟩
                obtain ⟨v, hv⟩ : ∃ v, v = F (Al xs most) low := ⟨_, rfl⟩
                rw [← hu] at o1 fb2
                rw [← hv] at o2 fb1
                have HU := Lib.hid (And.intro hu hv)
                have hh0 : (0 : Int) ≤ (h : Int) := by omega
                have hh3 : (h : Int) < 256 := by omega
                have hl3 : (low : Int) < 256 := by omega
                have wu : IntKind.i64.wrap ((u : Int) + 1) = (u : Int) + 1 := IntWalk.i64_in _ (by omega)
                clear hO hb hacc hPx hc hu hv fb1 fb2
                by_cases e : u + 1 = v
                · have hk : ((u : Int) + 1 != (v : Int)) = false := by simp; omega
                  have hN : h = Nx (Al xs most) low := by
                    rcases Nat.lt_or_ge h (Nx (Al xs most) low) with g | g
                    · exact absurd (by rw [← HU.out.1, ← HU.out.2]; exact e) (HNx.out.2.2.2.2 h (by omega) g)
                    · omega
                  have hcm : (c : Int) ≤ most := by
                    have := HNx.out.2.2.2.1
                    rw [← hN, HPx.out] at this
                    exact of_decide_eq_true this
                  have d2 : decide (most < (c : Int)) = false := decide_eq_false (by omega)
                  have HN := Lib.hid hN
                  have hPl := Lib.hid (show (pf ++ [(low, h)]) ++ Pl (Al xs most) h = Pl (Al xs most) 0 by
                    rw [← HPf.out, Pl_in (Al xs most) hlt, ← HN.out, List.append_assoc]; rfl)
                  clear e hN
                  go_wp2_with fail
                  go_quiet ((go_at_call 34; with_reducible exact Calls.quiet_of_same (flipc (Han.out _))))
                  obtain ⟨Y, hY⟩ : ∃ Y, Y = wr.drewN nq := ⟨_, rfl⟩
                  have HY := Lib.hid (show OutB Y g 3 (tL (Tm (Al xs most) 255)) ∧ Acc .i64 Y Q 44 2 (.slice A5 pf.length C5) pf.length (flatS (pf.map fun p => ((p.1 : Int), (p.2 : Int)))) ∧ Below w.heap.size w Y by rw [hY]; exact ⟨HO.out.drewN nq, HAcc.out.drewN nq, below_drewN HB.out nq⟩)
                  have sY : Q ≤ Y.heap.size := by rw [hY]; exact hQs
                  rw [← hY]
                  clear hY o1 o2 hk d2 HO HAcc HB
                  go_wp2_with (at_builtin; refine wpList_app rfl _ _ 22 rfl .i64 Q 44 i0 _ 2 16 Try.underlying22 hi0 hz0 hz1 hz2 rfl (by decide) _ _ _ [(low : Int), (h : Int)] rfl HY.out.2.1 _ rfl rfl rfl (by omega) (by decide) sY ?_; intro v' w9 hown9 hb9)
                  have hs9 := hb9.size
                  refine ⟨⟨h, pf ++ [(low, h)], by omega, rfl, hPl.out, by simp; omega, HY.out.1.belowQ hb9 hgQ, ?_, HY.out.2.2.trans (hb9.mono (by omega)), by omega⟩, by simp [intOf]; omega⟩
                  rw [List.map_append, List.map_cons, List.map_nil, flatS_snoc, List.length_append]
                  exact hown9
                · have hk : ((u : Int) + 1 != (v : Int)) = true := by simp; omega
                  have hN : h < Nx (Al xs most) low := by
                    rcases Nat.lt_or_ge h (Nx (Al xs most) low) with g | g
                    · exact g
                    · exact absurd (by rw [HU.out.1, HU.out.2, show h = Nx (Al xs most) low by omega]; exact HNx.out.2.2.1) e
                  clear e
                  go_wp2_with fail
                  go_quiet (fail)
                  go_wp2_with fail
                  exact ⟨⟨h + 1, by omega, by omega, by go_num, HO.out.drewN _, HAcc.out.drewN _, below_drewN HB.out _, hQs⟩, by simp [intOf]; omega⟩
            · obtain rfl : low = 255 := by omega
              have HR := Lib.hid (show plL xs most = pf.map fun p => ((p.1 : Int), (p.2 : Int)) by rw [HPl.out, ← HPf.out, Pl_end, List.append_nil])
              have lwQ : w.heap.size ≤ Q := by omega
              go_wp2_with fail
              go_ret2
              rw [HR.out, HE.out]
              exact ⟨_, rfl, by rw [List.length_map]; exact HAcc.out.mono lwQ, HB.out⟩
      · have hex : ∃ s : Nat, s < 255 ∧ most < (cnt xs (s : Int) ((s + 1 : Nat) : Int) : Int) := by
          rcases Classical.em (∃ s : Nat, s < 255 ∧ most < (cnt xs (s : Int) ((s + 1 : Nat) : Int) : Int)) with e | e
          · exact e
          · exact absurd (fun s hs => by
              rcases Int.lt_or_le most (cnt xs (s : Int) ((s + 1 : Nat) : Int) : Int) with g | g
              · exact absurd ⟨s, hs, g⟩ e
              · exact g) hf
        obtain ⟨s, hs, hgt⟩ := hex
        have hE := plE_9 H0.out hm hs hgt
        have HPl := Lib.hid (show plL xs most = [] from plL_bad (by rw [hE]; decide))
        have HE := Lib.hid hE
        have hT : Tm (Al xs most) 255 0 = 1000 := Tm_none (Al_inn xs most) (s := s + 1) (by omega) (decide_eq_false (by
          show ¬ ((cnt xs ((s + 1 - 1 : Nat) : Int) ((s + 1 : Nat) : Int) : Int) ≤ most)
          rw [Nat.add_sub_cancel]; omega)) 255 (Nat.le_refl _) 0 (by omega) (by omega)
        rw [hT] at o0
        have o0 : wr.cell? ⟨g, 0, none⟩ = some (.int .i64 1000) := o0
        clear hE hgt hs hf hT
        go_wp2_with fail
        go_ret2
        rw [HPl.out, HE.out]
        exact plp_nil HB.out
theorem plan26 (A : Option Addr) (cap : Nat) (xs : List Int) (most : Int) (B : Nat) (w : World) (hB : B ≤ w.heap.size) (hA : Is .i64 w B A xs) (hl : xs.length ≤ 1000000) :
    Calls Try.prog 26 #[.slice A xs.length cap, .int .i64 most] w (PlP w (plE xs most) (plL xs most)) := by
  by_cases h0 : ckN xs = 0
  · by_cases hm : most < 1
    · exact plan26a A cap xs most B w hB hA hl (.inr hm)
    · exact plan26b A cap xs most B w hB hA hl h0 (by omega)
  · exact plan26a A cap xs most B w hB hA hl (.inl h0)
end Go.Proofs.Ytlbchidgadcmpaa
