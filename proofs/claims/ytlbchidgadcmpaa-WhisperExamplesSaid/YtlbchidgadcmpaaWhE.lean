/- The closure of Plan. -/
import Derived.Test.YtlbchidgadcmpaaRows
import Derived.WalkKit
import Derived.WalkLawsBesides
import Derived.WalkSpells
import Derived.ProofKit
import Derived.Below
import Derived.Outline
import Derived.Lib.Hide
import Derived.Deep.RegionWith
import Derived.Deep.RegionHeld3
import Derived.Deep.DrawnRows
import Derived.StillTailTactics
import Derived.BigQuiet
import Derived.Deep.QuietTactic
import Derived.Deep.LoopGhost
import Derived.IntWalk
import Derived.Test.YtlbchidgadcmpaaWhD
import Derived.Maps.OwnSet
namespace Go.Proofs.Ytlbchidgadcmpaa
open Go.RowKit Go.Maps
attribute [local go_sem ↓] Go.wp_at_zero Go.wp_at_succ
attribute [local go_sem] wrap_lit

theorem keys : Keyed Try.prog 3 := int_keyed Try.underlying3
theorem zeroI (w : World) : (zeroValue 3).run Try.prog w = .ok (.int .i64 0) w := by kernel_rfl
/-- How many sensitivities are at most s, for s up to 255. -/
def upL (xs : List Int) : List Int := (List.range 256).map fun s => (cnt xs 0 ((s : Nat) : Int) : Int)
theorem upL_len (xs : List Int) : (upL xs).length = 256 := by simp [upL]
theorem upL_nth (xs : List Int) (s : Nat) (h : s < 256) : nth (upL xs) s = (cnt xs 0 (s : Int) : Int) := by
  unfold nth upL; rw [List.getD_eq_getElem?_getD]; simp [h]
def FV (kB uB oB fB : Nat) : Value := .func (.func 33) #[] #[.pointer (some ⟨kB, 0, none⟩), .pointer (some ⟨uB, 0, none⟩), .pointer (some ⟨oB, 0, none⟩), .pointer (some ⟨fB, 0, none⟩)]
def KmD (xs : List Int) (most : Int) (D : DataW Unit) : Prop := IsMap D ∧ Maps.has D (.int .i64 255) = true ∧ ∀ x : Nat, x ≤ 255 → Maps.has D (.int .i64 x) = true → D.atKey (.int .i64 x) (.lit (.int .i64 0)) = .lit (.int .i64 (F (Al xs most) x))
/-- The memory of the closure. -/
structure PlS (xs : List Int) (most : Int) (kB uB oB fB mB : Nat) (W : World) (n : Nat) : Prop where
  kc : W.cell? ⟨kB, 0, none⟩ = some (.map (some mB))
  up : OutB W uB 53 (upL xs)
  oc : W.cell? ⟨oB, 0, none⟩ = some (.int .i64 most)
  fc : W.cell? ⟨fB, 0, none⟩ = some (FV kB uB oB fB)
  mp : ∃ D, W.ownsMap Try.prog 3 (plainElem Try.prog 3) mB n D ∧ KmD xs most D
  nk : kB ≠ mB
  nu : uB ≠ mB
  no : oB ≠ mB
  nf : fB ≠ mB
theorem cell_lt {w : World} {b o : Nat} {v : Value} (h : w.cell? ⟨b, o, none⟩ = some v) : b < w.heap.size := by
  rcases Nat.lt_or_ge b w.heap.size with g | g
  · exact g
  · simp [World.cell?, Array.getElem?_eq_none g] at h
theorem grownBy_refl (w : World) (r : Option Nat) : w.grownBy w r := ⟨rfl, rfl, rfl, Nat.le_refl _, fun _ _ _ => rfl⟩
theorem grownBy_trans {a b c : World} {r : Option Nat} (h : a.grownBy b r) (k : b.grownBy c r) : a.grownBy c r := ⟨k.os.trans h.os, k.tape.trans h.tape, k.output.trans h.output, Nat.le_trans h.size k.size, fun i hi hr => (k.block i (Nat.lt_of_lt_of_le hi h.size) hr).trans (h.block i hi hr)⟩
theorem PlS.keep {xs : List Int} {most : Int} {kB uB oB fB mB n n' : Nat} {W W' : World} (h : PlS xs most kB uB oB fB mB W n) (hg : W.grownBy W' (some mB)) (hm : ∃ D, W'.ownsMap Try.prog 3 (plainElem Try.prog 3) mB n' D ∧ KmD xs most D) : PlS xs most kB uB oB fB mB W' n' where
  kc := (World.cell?_of_block (a := ⟨kB, 0, none⟩) (hg.block kB (cell_lt h.kc) (fun e => h.nk (by simpa using e)))).trans h.kc
  up := by
    obtain ⟨cs, h1, h2⟩ := h.up
    exact ⟨cs, (hg.block uB (heap_lt h1) (fun e => h.nu (by simpa using e))).trans h1, h2⟩
  oc := (World.cell?_of_block (a := ⟨oB, 0, none⟩) (hg.block oB (cell_lt h.oc) (fun e => h.no (by simpa using e)))).trans h.oc
  fc := (World.cell?_of_block (a := ⟨fB, 0, none⟩) (hg.block fB (cell_lt h.fc) (fun e => h.nf (by simpa using e)))).trans h.fc
  mp := hm
  nk := h.nk
  nu := h.nu
  no := h.no
  nf := h.nf
theorem PlS.drewN {xs : List Int} {most : Int} {kB uB oB fB mB n : Nat} {W : World} (h : PlS xs most kB uB oB fB mB W n) (m : Nat) : PlS xs most kB uB oB fB mB (W.drewN m) n :=
  ⟨h.kc, h.up.drewN m, h.oc, h.fc, h.mp, h.nk, h.nu, h.no, h.nf⟩
theorem PlS.mono {xs : List Int} {most : Int} {kB uB oB fB mB n n' : Nat} {W : World} (h : PlS xs most kB uB oB fB mB W n) (hn : n ≤ n') : PlS xs most kB uB oB fB mB W n' := by
  obtain ⟨D, h1, h2⟩ := h.mp
  exact ⟨h.kc, h.up, h.oc, h.fc, ⟨D, h1.mono hn, h2⟩, h.nk, h.nu, h.no, h.nf⟩
theorem DrN.grown {w wr : World} (h : DrN w wr) (r : Option Nat) : w.grownBy wr r := by obtain ⟨m, rfl⟩ := h; exact ⟨rfl, rfl, rfl, Nat.le_refl _, fun _ _ _ => rfl⟩
def FeP (xs : List Int) (most : Int) (kB uB oB fB mB : Nat) (W : World) (n low : Nat) (e : Ending) (w' : World) : Prop := e = .returned (.int .i64 (F (Al xs most) low)) ∧ PlS xs most kB uB oB fB mB w' (n + (256 - low)) ∧ W.grownBy w' (some mB)
theorem KmD.put {xs : List Int} {most : Int} {D : DataW Unit} (h : KmD xs most D) (x : Nat) : KmD xs most (D.put (.int .i64 x) (.lit (.int .i64 (F (Al xs most) x)))) := by
  refine ⟨h.1.put _ _, ?_, fun y hy hh => ?_⟩
  · by_cases e : x = 255
    · subst e; exact has_put_same h.1 (by trivial) _
    · rw [has_put_other fun g => e (by injection g with _ g; omega)]; exact h.2.1
  by_cases e : y = x
  · subst e; exact atKey_put_same h.1 (by trivial) _ _
  · have hne : (Lit.int .i64 (y : Int)) ≠ .int .i64 (x : Int) := fun g => e (by injection g with _ g; omega)
    rw [has_put_other hne] at hh
    rw [atKey_put_other hne]
    exact h.2.2 y hy hh
theorem Al_cnt (xs : List Int) (most : Int) (a b : Nat) (h : a ≤ b) : Al xs most a b = decide ((cnt xs 0 b : Int) - (cnt xs 0 a : Int) ≤ most) := by
  unfold Al
  have := cnt_split xs 0 a b (by omega) (by omega)
  congr 1
  rw [this]
  apply propext
  omega
theorem Wd_one {P : Nat → Nat → Bool} {x h : Nat} (hh : h < 255) (hp : P x (h + 1) = true) : wdn P x (255 - h) h = wdn P x (255 - (h + 1)) (h + 1) := by
  obtain ⟨n, hn⟩ : ∃ n, 255 - h = n + 1 := ⟨254 - h, by omega⟩
  rw [hn, wdn, if_pos hp, show 255 - (h + 1) = n by omega]
theorem Wd_stop {P : Nat → Nat → Bool} {x h : Nat} (hh : ¬ (h < 255 ∧ P x (h + 1) = true)) : wdn P x (255 - h) h = h := by
  by_cases g : h < 255
  · obtain ⟨n, hn⟩ : ∃ n, 255 - h = n + 1 := ⟨254 - h, by omega⟩
    rw [hn, wdn, if_neg fun e => hh ⟨g, e⟩]
  · rw [show 255 - h = 0 by omega]; rfl
theorem few33k (xs : List Int) (most : Int) (kB uB oB fB mB low n : Nat) (W : World) (h2 : low ≤ 255) (hS : PlS xs most kB uB oB fB mB W n) (D : DataW Unit) (hown : W.ownsMap Try.prog 3 (plainElem Try.prog 3) mB n D) (hkm : KmD xs most D) (hh : Maps.has D (.int .i64 low) = true) :
    Calls Try.prog 33 #[.int .i64 low, .pointer (some ⟨kB, 0, none⟩), .pointer (some ⟨uB, 0, none⟩), .pointer (some ⟨oB, 0, none⟩), .pointer (some ⟨fB, 0, none⟩)] W fun e w' => FeP xs most kB uB oB fB mB W n low e w' := by
  have HS := Lib.hid hS
  have HV := Lib.hid (hkm.2.2 low h2 hh)
  have c1 := hS.kc
  clear hS hkm
  go_enter Try.func33, Try.ntmps33
  go_wp2_with (at_lookup; refine wpList_lookup_own_ok_int _ rfl _ _ 54 rfl 3 3 .i64 keys Try.underlying54 Try.underlying3 (zeroI _) mB n D rfl hown _ _ rfl (keyOf_int_mk Try.underlying3 (WalkArith.wf_i64 (by omega))) ?_; intro c hat hwc; obtain rfl : c = (F (Al xs most) low : Int) := (by have := hat.symm.trans HV.out; injection this with this; injection this); clear hat hwc)
  go_ret
  exact ⟨rfl, HS.out.mono (by omega), grownBy_refl _ _⟩
set_option maxHeartbeats 4000000 in
theorem few33 (xs : List Int) (most : Int) (kB uB oB fB mB : Nat) (hxs : xs.length ≤ 1000000) : ∀ (m low : Nat), 255 - low ≤ m → low ≤ 255 → ∀ (W : World) (n : Nat), n ≤ 1000000000 → PlS xs most kB uB oB fB mB W n →
    Calls Try.prog 33 #[.int .i64 low, .pointer (some ⟨kB, 0, none⟩), .pointer (some ⟨uB, 0, none⟩), .pointer (some ⟨oB, 0, none⟩), .pointer (some ⟨fB, 0, none⟩)] W fun e w' => FeP xs most kB uB oB fB mB W n low e w' := by
  intro m
  induction m with
  | zero =>
    intro low h1 h2 W n hn hS
    obtain ⟨D, hown, hkm⟩ := hS.mp
    obtain rfl : low = 255 := by omega
    exact few33k xs most kB uB oB fB mB 255 n W (by omega) hS D hown hkm hkm.2.1
  | succ m ih =>
    intro low h1 h2 W n hn hS
    obtain ⟨D, hown, hkm⟩ := hS.mp
    by_cases hh : Maps.has D (.int .i64 low) = true
    · exact few33k xs most kB uB oB fB mB low n W h2 hS D hown hkm hh
    · have hh' : Maps.has D (.int .i64 low) = false := by simpa using hh
      have hlt : low < 255 := by
        rcases Nat.lt_or_ge low 255 with g | g
        · exact g
        · obtain rfl : low = 255 := by omega
          exact absurd hkm.2.1 hh
      have HS := Lib.hid hS
      have HI := Lib.hid ih
      have c1 := hS.kc
      have hF := Lib.hid (F_in (Al xs most) hlt)
      have hWd := Lib.hid (show wdn (Al xs most) low (255 - (low + 1)) (low + 1) = Wd (Al xs most) low by unfold Wd; rw [show 255 - (low + 1) = 254 - low by omega])
      have hlow : (low : Int) < 255 := by omega
      clear hS hkm hh ih
      go_enter Try.func33, Try.ntmps33
      go_wp2_with (at_lookup; refine wpList_lookup_own_ok_int _ rfl _ _ 54 rfl 3 3 .i64 keys Try.underlying54 Try.underlying3 (zeroI _) mB n D rfl hown _ _ rfl (keyOf_int_mk Try.underlying3 (WalkArith.wf_i64 (by omega))) ?_; intro c hat hwc; clear hat hwc)
      clear hh' c1 hown
      go_loopw [9] (fun i wr => ∃ h : Nat, low < h ∧ h ≤ 255 ∧ i = .int .i64 (h : Int) ∧ wdn (Al xs most) low (255 - h) h = Wd (Al xs most) low ∧ DrN W wr) (fun i _ => 255 - (intOf i).toNat)
      case atStart => exact ⟨low + 1, by omega, by omega, by go_num, hWd.out, DrN.refl _⟩
      case round =>
        obtain ⟨h, hh1, hh2, rfl, hw, hD⟩ := hrel
        have HW := Lib.hid hw
        have HD := Lib.hid hD
        have hS := HS.out.keep (hD.grown _) (by obtain ⟨q, rfl⟩ := hD; exact HS.out.mp)
        have HS1 := Lib.hid hS
        have e4 : (0 : Int) ≤ (low : Int) := by omega
        have e5 : (low : Int) < 256 := by omega
        clear hw hD
        have hrest : ∀ Y : World, DrN W Y → h = Wd (Al xs most) low → True := fun _ _ _ => trivial
        clear hrest
        by_cases hlt2 : h < 255
        · have u1 := hS.up.cell (j := h + 1) (by rw [upL_len]; omega)
          have u2 := hS.up.cell (j := low) (by rw [upL_len]; omega)
          have c2 := hS.oc
          have l1 := cnt_le xs 0 ((h + 1 : Nat) : Int)
          have l2 := cnt_le xs 0 (low : Int)
          have hA := Al_cnt xs most low (h + 1) (by omega)
          rw [upL_nth _ _ (by omega)] at u1 u2
          obtain ⟨a, ha⟩ : ∃ a, a = cnt xs 0 ((h + 1 : Nat) : Int) := ⟨_, rfl⟩
          obtain ⟨b, hb⟩ : ∃ b, b = cnt xs 0 (low : Int) := ⟨_, rfl⟩
          rw [← ha] at u1 l1 hA
          rw [← hb] at u2 l2 hA
          have ws : IntKind.i64.wrap ((a : Int) - (b : Int)) = (a : Int) - (b : Int) := IntWalk.i64_in _ (by omega)
          have wt : IntKind.i64.wrap ((h : Int) + 1) = (h : Int) + 1 := IntWalk.i64_in _ (by omega)
          have d1 : decide (h < 255) = true := decide_eq_true hlt2
          have d2 : decide ((h : Int) < 255) = true := decide_eq_true (by omega)
          have e1 : (h : Int) < 255 := by omega
          have e2 : (0 : Int) ≤ (h : Int) + 1 := by omega
          have e3 : (h : Int) + 1 < 256 := by omega
          have HA := Lib.hid hA
          clear ha hb hA hS
          by_cases g : (a : Int) - (b : Int) ≤ most
          · have hst := Lib.hid (show wdn (Al xs most) low (255 - (h + 1)) (h + 1) = Wd (Al xs most) low by rw [← HW.out, Wd_one hlt2 (by rw [HA.out]; exact decide_eq_true g)])
            have d3 : decide ((a : Int) - (b : Int) ≤ most) = true := decide_eq_true g
            go_wp2_with fail
            go_quiet (fail)
            go_wp2_with fail
            exact ⟨⟨h + 1, by omega, by omega, by go_num, hst.out, HD.out.on _⟩, by simp [intOf]; omega⟩
          · have hst := Lib.hid (show h = Wd (Al xs most) low by rw [← HW.out, Wd_stop (fun e => g (by have := e.2; rw [HA.out] at this; exact of_decide_eq_true this))])
            have d3 : decide ((a : Int) - (b : Int) ≤ most) = false := decide_eq_false g
            go_wp2_with fail
            go_quiet (fail)
            clear ws wt d1 d2 d3 u1 u2 c2 l1 l2 g HA
            obtain ⟨Y, hY⟩ : ∃ Y, Y = wr.drewN nq := ⟨_, rfl⟩
            have HY := Lib.hid (show PlS xs most kB uB oB fB mB Y n ∧ W.grownBy Y (some mB) by rw [hY]; exact ⟨HS1.out.drewN nq, (HD.out.on nq).grown _⟩)
            have c3 : Y.cell? ⟨fB, 0, none⟩ = some (.func (.func 33) #[] #[.pointer (some ⟨kB, 0, none⟩), .pointer (some ⟨uB, 0, none⟩), .pointer (some ⟨oB, 0, none⟩), .pointer (some ⟨fB, 0, none⟩)]) := HY.out.1.fc
            rw [← hY]
            clear hY
            go_wp2_with fail
            refine (HI.out h (by omega) (by omega) Y n hn HY.out.1).mono ?_
            rintro e w5 ⟨rfl, hS5, hg5⟩
            have hFb := F_bd (Al xs most) _ h (Nat.le_refl _)
            have HF := Lib.hid (show ((F (Al xs most) low : Nat) : Int) = 1 + ((F (Al xs most) h : Nat) : Int) by rw [hF.out, ← hst.out]; push_cast; rfl)
            obtain ⟨v, hv⟩ : ∃ v : Int, v = ((F (Al xs most) h : Nat) : Int) := ⟨_, rfl⟩
            rw [← hv] at HF ⊢
            have v0 : 0 ≤ v := by omega
            have v1 : v ≤ 255 := by omega
            obtain ⟨D5, own5, km5⟩ := hS5.mp
            have c4 := hS5.kc
            have H5 := Lib.hid (And.intro hS5 (And.intro (grownBy_trans HY.out.2 hg5) km5))
            clear c3 hv hS5 hg5 km5 hFb
            have hn5 : n + (256 - h) < maxLen := by unfold maxLen; omega
            go_wp2_with (at_mapUpdate; refine wpList_mapUpdate_own _ rfl _ _ _ 54 rfl 3 3 keys Try.underlying54 _ mB (n + (256 - h)) D5 rfl own5 hn5 _ _ _ rfl rfl (keyOf_int_mk Try.underlying3 (WalkArith.wf_i64 (by omega))) _ [] (plainElem_int Try.underlying3 (WalkArith.wf_i64 (by omega))) ?_; intro w6 own6 hg6)
            go_ret
            obtain ⟨S5, G5, K5⟩ := H5.out
            exact ⟨ret_int HF.out.symm, (S5.keep hg6 ⟨_, own6, by rw [← HF.out]; exact K5.put low⟩).mono (by omega), grownBy_trans G5 hg6⟩
        · have hst := Lib.hid (show h = Wd (Al xs most) low by rw [← HW.out, Wd_stop (fun e => hlt2 e.1)])
          have d1 : decide (h < 255) = false := decide_eq_false hlt2
          have d2 : decide ((h : Int) < 255) = false := decide_eq_false (by omega)
          clear hS
          go_wp2_with fail
          go_quiet (fail)
          clear d1 d2
          obtain ⟨Y, hY⟩ : ∃ Y, Y = wr.drewN nq := ⟨_, rfl⟩
          have HY := Lib.hid (show PlS xs most kB uB oB fB mB Y n ∧ W.grownBy Y (some mB) by rw [hY]; exact ⟨HS1.out.drewN nq, (HD.out.on nq).grown _⟩)
          have c3 : Y.cell? ⟨fB, 0, none⟩ = some (.func (.func 33) #[] #[.pointer (some ⟨kB, 0, none⟩), .pointer (some ⟨uB, 0, none⟩), .pointer (some ⟨oB, 0, none⟩), .pointer (some ⟨fB, 0, none⟩)]) := HY.out.1.fc
          rw [← hY]
          clear hY
          go_wp2_with fail
          refine (HI.out h (by omega) (by omega) Y n hn HY.out.1).mono ?_
          rintro e w5 ⟨rfl, hS5, hg5⟩
          have hFb := F_bd (Al xs most) _ h (Nat.le_refl _)
          have HF := Lib.hid (show ((F (Al xs most) low : Nat) : Int) = 1 + ((F (Al xs most) h : Nat) : Int) by rw [hF.out, ← hst.out]; push_cast; rfl)
          obtain ⟨v, hv⟩ : ∃ v : Int, v = ((F (Al xs most) h : Nat) : Int) := ⟨_, rfl⟩
          rw [← hv] at HF ⊢
          have v0 : 0 ≤ v := by omega
          have v1 : v ≤ 255 := by omega
          obtain ⟨D5, own5, km5⟩ := hS5.mp
          have c4 := hS5.kc
          have H5 := Lib.hid (And.intro hS5 (And.intro (grownBy_trans HY.out.2 hg5) km5))
          clear c3 hv hS5 hg5 km5 hFb
          have hn5 : n + (256 - h) < maxLen := by unfold maxLen; omega
          go_wp2_with (at_mapUpdate; refine wpList_mapUpdate_own _ rfl _ _ _ 54 rfl 3 3 keys Try.underlying54 _ mB (n + (256 - h)) D5 rfl own5 hn5 _ _ _ rfl rfl (keyOf_int_mk Try.underlying3 (WalkArith.wf_i64 (by omega))) _ [] (plainElem_int Try.underlying3 (WalkArith.wf_i64 (by omega))) ?_; intro w6 own6 hg6)
          go_ret
          obtain ⟨S5, G5, K5⟩ := H5.out
          exact ⟨ret_int HF.out.symm, (S5.keep hg6 ⟨_, own6, by rw [← HF.out]; exact K5.put low⟩).mono (by omega), grownBy_trans G5 hg6⟩
end Go.Proofs.Ytlbchidgadcmpaa
