/- WhisperFewest returns true for every input. -/
import Derived.Test.YtlbchidgadcmpaaRows
import Derived.WalkKit
import Derived.WalkLawsBesides
import Derived.WalkSpells
import Derived.ProofKit
import Derived.Below
import Derived.Outline
import Derived.Lib.Hide
import Derived.Deep.RegionWith
import Derived.Deep.RegionHeld3
import Derived.Deep.DrawnRows
import Derived.StillTailTactics
import Derived.BigQuiet
import Derived.Deep.QuietTactic
import Derived.Deep.LoopGhost
import Derived.IntWalk
import Derived.Test.YtlbchidgadcmpaaWhR
import Derived.Test.YtlbchidgadcmpaaWhO
import Derived.Test.YtlbchidgadcmpaaKS
import Derived.Deep.DeepCutAuto
import Derived.WalkKit
import Derived.ProofKit
import Derived.OpenShut
import Derived.ShutString
import Derived.ChangeOld
import Derived.Below
import Derived.Lib.SmallJoins
namespace Go.Proofs.Ytlbchidgadcmpaa
open Go.RowKit
attribute [local go_sem ↓] Go.wp_at_zero Go.wp_at_succ
attribute [local go_sem] wrap_lit

theorem Wd_start {P : Nat → Nat → Bool} (hP : Anti P) {x : Nat} (h : x < 255) : wdn P x (255 - x) x = Wd P x := by
  rw [Wd_one h (hP.one x h)]
  unfold Wd
  rw [show 255 - (x + 1) = 254 - x by omega]

set_option maxRecDepth 100000 in
set_option maxHeartbeats 8000000 in
theorem whFewest (A : Option Addr) (cap : Nat) (xs : List Int) (most : Int) (w : World) (hA : Is .i64 w w.heap.size A xs) (hm : xs.length ≤ maxLen) :
    Calls Try.prog 6 #[.slice A xs.length cap, .int .i64 most] w fun e w' => e = .returned (.bool true) ∧ Below w.heap.size w w' := by
  have L := long9 none A 0 cap 0 xs.length w (by unfold maxLen; decide) hm
  by_cases hl : 80 < xs.length
  · rw [decide_eq_true (.inr hl)] at L
    have L := Lib.hid L
    clear hA hm hl
    go_enter Try.func6, Try.ntmps6
    go_wp2_with fail
    refine L.out.mono ?_
    rintro e w1 ⟨rfl, rfl⟩
    go_wp2_with fail
    refine (awake10 _).mono ?_
    rintro e w2 ⟨rfl, hb2⟩
    go_wp2_with fail
    go_ret
    exact ⟨rfl, hb2⟩
  · rw [decide_eq_false (by omega)] at L
    have L := Lib.hid L
    have l2 : xs.length ≤ 80 := by omega
    have Cw := Lib.hid hA
    clear hA hm hl
    go_enter Try.func6, Try.ntmps6
    go_wp2_with fail
    refine L.out.mono ?_
    rintro e w1 ⟨rfl, rfl⟩
    clear L
    go_wp2_with fail
    have Bw := Lib.hid (Below.refl w.heap.size w)
    refine (awake10 _).mono ?_
    rintro e w1 ⟨rfl, hb1⟩
    have Bw1 := Lib.hid (Bw.out.trans ((hb1).mono Bw.out.size))
    have Sw1 := (hb1).size
    have Cw1 := Lib.hid (Cw.out.nxt (hb1))
    clear Bw Cw
    clear hb1
    go_wp2_with fail
    refine (plan25 A cap xs most w1.heap.size w1 (Nat.le_refl _) Cw1.out (by omega)).mono ?_
    rintro e w2 ⟨v2, rfl, hv2, hb2⟩
    have Bw2 := Lib.hid (Bw1.out.trans ((hb2).mono Bw1.out.size))
    have Sw2 := (hb2).size
    have Cw2 := Lib.hid (Cw1.out.nxt (hb2))
    clear Bw1 Cw1
    clear hb2
    obtain ⟨A2, C2, rfl, -⟩ := hv2.own
    clear hv2
    by_cases hE : plE xs most = 0
    · have hb0 : (plE xs most != 0) = false := by simp [hE]
      have hlen := pl_len hE
      have hP := fits_pl hE
      have h32 := (plE_ok.1 hE).2.2.2
      have HP := Lib.hid hP
      obtain ⟨n, hn⟩ : ∃ n, n = (plL xs most).length := ⟨_, rfl⟩
      rw [← hn] at hlen ⊢
      have HLen := Lib.hid hlen
      clear hE hn hP hlen
      go_wp2_with fail
      clear hb0
      go_loop [4, 7, 8] (fun r c i => ∃ (low m : Nat), low ≤ 255 ∧ i = .int .i64 low ∧ c = .int .i64 m ∧ r = .bool false ∧ m + F (Al xs most) low = F (Al xs most) 0) (fun _ _ i => 255 - (intOf i).toNat)
      case atStart => exact ⟨0, 0, by omega, rfl, rfl, rfl, by omega⟩
      case round =>
        obtain ⟨low, m, hlow, rfl, rfl, rfl, hsum⟩ := hrel
        have HS := Lib.hid hsum
        by_cases hlt : low < 255
        · have hF := F_in (Al xs most) hlt
          have hW := Wd_bd (Al xs most) hlt
          have HF := Lib.hid hF
          have HWd := Lib.hid hW
          have HW0 := Lib.hid (Wd_start HP.out hlt)
          have hlI : (low : Int) < 255 := by omega
          have hl0 : (0 : Int) ≤ (low : Int) := by omega
          have hm32 : (m : Int) ≤ 32 := by omega
          clear hF hW hsum
          go_wp2_with fail
          go_loop [9] (fun i => ∃ h : Nat, low ≤ h ∧ h ≤ 255 ∧ i = .int .i64 h ∧ wdn (Al xs most) low (255 - h) h = Wd (Al xs most) low) (fun i => 255 - (intOf i).toNat)
          case atStart => exact ⟨low, Nat.le_refl _, by omega, rfl, HW0.out⟩
          case round =>
            obtain ⟨h, h1, h2, rfl, hw⟩ := hrel
            have HW := Lib.hid hw
            clear hw
            by_cases hh : h < 255
            · have hhI : (h : Int) < 255 := by omega
              have hh0 : (0 : Int) ≤ (h : Int) := by omega
              have hP : (Al xs most) low (h + 1) = decide ((cnt xs (low : Int) ((h + 1 : Nat) : Int) : Int) ≤ most) := rfl
              have Han := answers28 A cap xs (low : Int) ((h + 1 : Nat) : Int) w2.heap.size w2 Cw2.out (by omega)
              rw [show ((h + 1 : Nat) : Int) = (h : Int) + 1 by omega] at hP Han
              obtain ⟨c, hc⟩ : ∃ c, c = cnt xs (low : Int) ((h : Int) + 1) := ⟨_, rfl⟩
              rw [← hc] at hP Han
              have Han := Lib.hid Han
              have HPx := Lib.hid hP
              clear hP hc
              by_cases g : (c : Int) ≤ most
              · have hst := Lib.hid (show wdn (Al xs most) low (255 - (h + 1)) (h + 1) = Wd (Al xs most) low by rw [← HW.out, Wd_one hh (by rw [HPx.out]; exact decide_eq_true g)])
                go_wp2_with fail
                refine Han.out.mono ?_
                rintro e w3 ⟨rfl, rfl⟩
                go_wp2_with fail
                exact ⟨⟨h + 1, by omega, by omega, by go_num, hst.out⟩, by simp [intOf]; omega⟩
              · have hst := Lib.hid (show h = Wd (Al xs most) low by rw [← HW.out, Wd_stop (fun e => g (by have := e.2; rw [HPx.out] at this; exact of_decide_eq_true this))])
                have hgm : most < (c : Int) := by omega
                have hne : ((h : Int) == (low : Int)) = false := by
                  rw [beq_eq_false_iff_ne]
                  have := hst.out
                  have := HWd.out.1
                  omega
                clear g
                go_wp2_with fail
                refine Han.out.mono ?_
                rintro e w3 ⟨rfl, rfl⟩
                go_wp2_with fail
                exact ⟨⟨h, m + 1, by omega, rfl, by go_num, rfl, by rw [hst.out]; have := HF.out; have := HS.out; omega⟩, by simp [intOf]; have := hst.out; have := HWd.out.1; omega⟩
            · have hst := Lib.hid (show h = Wd (Al xs most) low by rw [← HW.out, Wd_stop (fun e => hh e.1)])
              have hne : ((h : Int) == (low : Int)) = false := by rw [beq_eq_false_iff_ne]; omega
              have hhI : (255 : Int) ≤ (h : Int) := by omega
              go_wp2_with fail
              exact ⟨⟨h, m + 1, by omega, rfl, by go_num, rfl, by rw [hst.out]; have := HF.out; have := HS.out; omega⟩, by simp [intOf]; omega⟩
        · obtain rfl : low = 255 := by omega
          have hmn : (n : Int) = (m : Int) := by have := F_end (Al xs most); have := HLen.out; omega
          have HNM := Lib.hid (show n = m by omega)
          clear hmn hsum
          go_wp2_with fail
          go_ret
          exact ⟨ret_bool (by have := HNM.out; have := HLen.out; rw [beq_iff_eq]; omega), Bw2.out⟩
    · have hb0 : (plE xs most != 0) = true := by simp [hE]
      have hl0 := plL_bad hE
      rw [hl0]
      clear hE hl0
      go_wp2_with fail
      go_ret
      exact ⟨rfl, Bw2.out⟩
theorem whWhisperFewestL (A : Option Addr) (len cap : Nat) (zs : List Int) (most : Int) (w : World) (h2 : IsRow .i64 w A len cap zs) :
    Calls Try.prog 6 #[.slice A len cap, .int .i64 most] w fun e w' => e = .returned (.bool true) ∧ Below w.heap.size w w' := by
  obtain ⟨k1, k2, k3, -⟩ := Is.of_row h2
  generalize zs.take len = xs at k1 k2
  subst k2
  exact whFewest A cap xs most w k1 k3

namespace whisperFewestRow
open Go.ChangeShapes Go.WideShapes Go.ChangeAt Go.RowKit
open Go.ChangeMaps (open_string shut_string)
set_option linter.unusedVariables false
theorem own : ownKnob Try.prog.godebug = none := by kernel_rfl
theorem laidOut : laidOutB Try.prog = true := by kernel_rfl
set_option maxRecDepth 100000 in
theorem lifted (os : Os) (started : os.Started) (H : Type) (enc : TypeId × Value → H) :
    ReturnsInHanded {} Try.checked os 6 .any (Rows.whisperFewestSpec.pre6 enc Try.prog Try.f6 Rows.whisperFewestRow.domain false) (Rows.whisperFewestSpec.post enc Try.prog Try.f6 false true false false) := by
  refine returnsInHanded_of_change (C := Try.checked) own started (by kernel_rfl) Try.func6
    (ChangeSpec.witness6 (enc := enc) (C := Try.checked) false ⟨#[], #[.slice none 0 0, .int .i64 0], []⟩ 8 (by kernel_rfl) (by kernel_rfl) (by kernel_rfl) (by kernel_rfl)) ?_
  intro W base args ds gs before hval0 hW hcnd _hsz
  have hval : ∀ (j : Nat) t v, Try.f6.params[j]? = some t → args[j]? = some v → Value.okWide Try.prog W .any base t v := hval0
  have hW' := hW
  obtain ⟨p, q, hA0, hV, rfl, hfz, hnd⟩ := hW
  have hA : DataW.TrodAll enc Try.prog W 0 (fun _ => true) true Try.f6.params.toList args.toList ds p := hA0
  rw [Try.params6] at hA hval
  obtain ⟨v0, vs0, d0, ds0, p0, q0, hargs, rfl, rfl, h0, r0⟩ := trodAll_cons hA
  obtain ⟨v1, vs1, d1, ds1, p1, q1, rfl, rfl, rfl, h1, r1⟩ := trodAll_cons r0
  obtain ⟨rfl, rfl, rfl⟩ := trodAll_nil r1
  obtain rfl : args = #[v0, v1] := by cases args; simp_all
  obtain ⟨rfl, rfl⟩ := trodVars_none hV
  have k0 := h0
  have lt0 : ∀ x ∈ p0, x.block < W.heap.size := by obtain ⟨m, hm⟩ := k0; exact DataW.trod_lt m _ _ _ hm
  have k1 := h1
  have lt1 : ∀ x ∈ p1, x.block < W.heap.size := by obtain ⟨m, hm⟩ := k1; exact DataW.trod_lt m _ _ _ hm
  obtain ⟨a0, len0, cap0, rfl⟩ := okWide_slice Try.underlying23 (hval 0 23 v0 rfl rfl)
  obtain ⟨z0, w0⟩ : ∃ zs, IsRow .i64 W a0 len0 cap0 zs := by
    obtain ⟨fuel, hf⟩ := h0
    rcases open_ints Try.underlying23 Try.underlying3 (by kernel_rfl) hf with ⟨hcs, _⟩ | ⟨x, l, c, zs, hcs, _, hl, hm, hz, _, hcell, hwz⟩
    · simp [Value.cells] at hcs
      obtain ⟨rfl, rfl, rfl⟩ := hcs
      exact ⟨[], .inl ⟨rfl, rfl, rfl, rfl⟩⟩
    · simp [Value.cells] at hcs
      obtain ⟨rfl, rfl, rfl⟩ := hcs
      exact ⟨zs, .inr ⟨_, rfl, hl, hm, by simpa using hz, hcell, hwz⟩⟩
  obtain ⟨a1, rfl, -, -, w1⟩ := open_int Try.underlying3 (hval 1 3 v1 rfl rfl) h1
  clear hA0 hval0
  refine (whWhisperFewestL a0 len0 cap0 z0 a1 W w0).mono fun e W' ⟨he, bel⟩ => ?_
  subst he
  exact ⟨_, rfl, _, _, _, [], _, [], hW', trodAll_mk1 (shut_bool Try.underlying4 _), (trodAll_cons_mk (Below.trod laidOut (by kernel_rfl) (of_decide_eq_true (by kernel_rfl)) k0 bel lt0) (trodAll_cons_mk (Below.trod laidOut (by kernel_rfl) (of_decide_eq_true (by kernel_rfl)) k1 bel lt1) trodAll_mk0)), rfl, bel.frame _, fun h => by cases h⟩

theorem over : Rows.whisperFewestRow.holds Try.pinned (OpenSpec.ofChange Rows.whisperFewestSpec) :=
  OpenClaim.holds_of_wide 6 Try.f6 rfl rfl rfl rfl rfl rfl rfl ⟨rfl, rfl, rfl, rfl, rfl⟩ rfl rfl rfl rfl rfl (by kernel_rfl) Try.func6 (by kernel_rfl)
    (of_decide_eq_true (by kernel_rfl)) (by unfold Func.isWrapper; first | (rw [if_pos (by decide +kernel)]; kernel_rfl) | (rw [if_neg (by decide +kernel)]; exact ⟨rfl, rfl⟩))
    (fun os started H enc _ => lifted os started H enc)
theorem proved : Rows.WhisperFewestSaid := over
end whisperFewestRow
end Go.Proofs.Ytlbchidgadcmpaa
