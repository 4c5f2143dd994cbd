/- squitter: check. -/
import Derived.Test.YtkikokldijccnaaGreatDoorRows
import Derived.WalkKit
import Derived.WalkLawsBesides
import Derived.WalkSpells
import Derived.ProofKit
import Derived.Below
import Derived.Outline
import Derived.Lib.Hide
import Derived.Deep.RegionWith
import Derived.Deep.RegionHeld3
import Derived.Deep.DrawnRows
import Derived.StillTailTactics
import Derived.BigQuiet
import Derived.Deep.QuietTactic
import Derived.Deep.LoopGhost
import Derived.IntWalk
import Derived.BigQuiet
import Derived.OrdersHeld
import Derived.Test.YtkikokldijccnaaGreatDoorLdA
import Derived.Test.YtkikokldijccnaaGreatDoorRC
namespace Go.Proofs.YtkikokldijccnaaGreatDoor
open Go.RowKit Go.Maps
attribute [local go_sem ↓] Go.wp_at_zero Go.wp_at_succ
attribute [local go_sem] wrap_lit

def ChkR (t : Ts) (x : Tk) (w : World) (e : Ending) (w' : World) : Prop := ((ChkT t x ∧ e = .returned (.tuple #[])) ∨ (¬ ChkT t x ∧ e = .panicked pan)) ∧ Below w.heap.size w w'
set_option maxRecDepth 100000 in
set_option maxHeartbeats 4000000 in
theorem check49 {w : World} {H b g off cap : Nat} {t : Ts} {x : Tk} (hne : x.cy ≠ []) (k0 : w.cell? ⟨H, 0, none⟩ = some (.int .i64 t.need)) (k1 : w.cell? ⟨H, 1, none⟩ = some (.int .i64 t.win)) (k2 : w.cell? ⟨H, 2, none⟩ = some (.int .i64 t.keep)) (k3 : w.cell? ⟨H, 3, none⟩ = some (.int .i64 t.now))
    (e0 : w.cell? ⟨b, 0, none⟩ = some (.bool x.kn)) (e1 : w.cell? ⟨b, 1, none⟩ = some (.slice (some ⟨g, off, none⟩) x.cy.length cap)) (hcy : ∀ j, j < x.cy.length → w.cell? ⟨g, off + j, none⟩ = some (.int .i64 (nth x.cy j))) (hbd : ∀ c ∈ x.cy, 0 ≤ c ∧ c ≤ 1073741824) (hlen : x.cy.length ≤ 100000) (t0 : 0 ≤ t.now) (t1 : t.now ≤ 1073741824) :
    Calls Tryz.prog 30 #[.pointer (some ⟨H, 0, none⟩), .pointer (some ⟨b, 0, none⟩)] w (ChkR t x w) := by
  have hnp : 0 < x.cy.length := List.length_pos_iff.2 hne
  have HCY := Lib.hid hcy
  have HBD := Lib.hid hbd
  have HNO : Hid (∀ j, j < x.cy.length → ¬ (nth x.cy j ≤ t.now ∧ (j = 0 ∨ nth x.cy (j - 1) < nth x.cy j)) → ¬ ChkT t x) := Lib.hid (fun j => chk_no)
  have HEN : Hid (GoodC t.now x.cy x.cy.length → (ChkT t x ↔ (x.kn = true ∨ (x.cy.length : Int) < t.need) ∧ (t.win ≤ t.now - nth x.cy 0 → x.kn = true ∧ x.cy.length = 1 ∧ t.now - nth x.cy 0 < t.keep))) := Lib.hid chk_end
  obtain ⟨n, hn⟩ : ∃ n, n = x.cy.length := ⟨_, rfl⟩
  rw [← hn] at hnp e1 hlen HCY HNO HEN
  have HN := Lib.hid hn
  clear hn hcy hbd hne
  go_enter Tryz.func30, Tryz.ntmps30
  go_wp2_with fail
  go_loop [4, 5, 11] (fun _ _ ii => ∃ i : Nat, i ≤ n ∧ ii = .int .i64 i ∧ GoodC t.now x.cy i) (fun _ _ ii => n - (intOf ii).toNat)
  case atStart => exact ⟨0, Nat.zero_le _, rfl, GoodC.zero _ _⟩
  case round =>
    obtain ⟨i, hi, rfl, hG⟩ := hrel
    have HG := Lib.hid hG
    clear hG
    by_cases hlt : i < n
    · have ci := HCY.out i hlt
      have hno := HNO.out i hlt
      have hbi := HBD.out (nth x.cy i) (nthL_mem (by rw [← HN.out]; exact hlt))
      have hltI : (i : Int) < (n : Int) := by omega
      have HGI : Hid (nth x.cy i ≤ t.now ∧ (i = 0 ∨ nth x.cy (i - 1) < nth x.cy i) → GoodC t.now x.cy (i + 1)) := Lib.hid HG.out.succ
      have hprev : 0 < i → w.cell? ⟨g, off + (i - 1), none⟩ = some (.int .i64 (nth x.cy (i - 1))) ∧ (0 ≤ nth x.cy (i - 1) ∧ nth x.cy (i - 1) ≤ 1073741824) := fun h => ⟨HCY.out (i - 1) (by omega), HBD.out _ (nthL_mem (by rw [← HN.out]; omega))⟩
      obtain ⟨c, hc⟩ : ∃ c, c = nth x.cy i := ⟨_, rfl⟩
      obtain ⟨d, hd⟩ : ∃ d, d = nth x.cy (i - 1) := ⟨_, rfl⟩
      rw [← hc, ← hd] at hno HGI
      rw [← hc] at ci hbi
      rw [← hd] at hprev
      obtain ⟨b0, b1⟩ := hbi
      have HNI := Lib.hid hno
      have HPR := Lib.hid hprev
      clear hc hd hno hprev
      cases q1 : decide (c ≤ t.now) with
      | false =>
        have HX := Lib.hid (HNI.out (fun h => of_decide_eq_false q1 h.1))
        go_wp2_with fail
        refine (must_f _).mono ?_
        rintro e wm ⟨rfl, hw⟩
        rw [hw]
        clear hw wm
        exact ⟨rfl, .inr ⟨HX.out, rfl⟩, Below.refl _ _⟩
      | true =>
        by_cases h0 : 0 < i
        · obtain ⟨cj, d0, d1⟩ := HPR.out h0
          have q0 : ((i : Int) == 0) = false := by rw [beq_eq_false_iff_ne]; omega
          have t5 : ((i : Int) - 1).toNat = i - 1 := by omega
          have t6 : (0 : Int) ≤ (i : Int) - 1 := by omega
          have t7 : (i : Int) - 1 < (n : Int) := by omega
          have h1i : (1 : Int) ≤ (i : Int) := by omega
          cases q2 : decide (d < c) with
          | false =>
            have HX := Lib.hid (HNI.out (fun h => by rcases h.2 with h | h; omega; exact of_decide_eq_false q2 h))
            go_wp2_with fail
            refine (must_f _).mono ?_
            rintro e wm ⟨rfl, hw⟩
            rw [hw]
            clear hw wm
            exact ⟨rfl, .inr ⟨HX.out, rfl⟩, Below.refl _ _⟩
          | true =>
            have HX := Lib.hid (HGI.out ⟨of_decide_eq_true q1, .inr (of_decide_eq_true q2)⟩)
            go_wp2_with fail
            refine (must_t _).mono ?_
            rintro e wm ⟨rfl, hw⟩
            rw [hw]
            clear hw wm
            go_wp2_with fail
            exact ⟨⟨i + 1, by omega, by go_num, HX.out⟩, by simp [intOf]; omega⟩
        · have q0 : ((i : Int) == 0) = true := by rw [beq_iff_eq]; omega
          have HX := Lib.hid (HGI.out ⟨of_decide_eq_true q1, .inl (by omega)⟩)
          clear h0
          go_wp2_with fail
          refine (must_t _).mono ?_
          rintro e wm ⟨rfl, hw⟩
          rw [hw]
          clear hw wm
          go_wp2_with fail
          exact ⟨⟨i + 1, by omega, by go_num, HX.out⟩, by simp [intOf]; omega⟩
    · obtain rfl : i = n := by omega
      have HE := Lib.hid (HEN.out HG.out)
      have c0 := HCY.out 0 hnp
      have hb0 := HBD.out (nth x.cy 0) (nthL_mem (by rw [← HN.out]; exact hnp))
      obtain ⟨c, hc⟩ : ∃ c, c = nth x.cy 0 := ⟨_, rfl⟩
      rw [← hc] at HE c0 hb0
      rw [Nat.add_zero] at c0
      obtain ⟨b0, b1⟩ := hb0
      have hwr : IntKind.i64.wrap (t.now - c) = t.now - c := IntWalk.i64_in _ (by omega)
      clear hc hlt
      cases qk : x.kn with
      | true =>
        rw [qk] at e0
        have HQ := Lib.hid qk
        clear qk
        go_wp2_with fail
        refine wp_region_held_drew (S := fun w' => w'.cell? ⟨b, 0, none⟩ = some (.bool true) ∧ w'.cell? ⟨b, 1, none⟩ = some (.slice (some ⟨g, off, none⟩) i cap) ∧ w'.cell? ⟨H, 0, none⟩ = some (.int .i64 t.need)) (by kernel_rfl) (⟨e0, e1, k0⟩) (fun hS => ?_)
        refine wpAnyH_take (i := 0) (v := ?vA1_1) rfl (by kernel_rfl) (by kernel_rfl) (by kernel_rfl) (fun _ _ _ h => h) (Or.inl ⟨by rfl, ?hA1_1⟩) hS ?rA1_1
        case hA1_1 =>
          intro w1 hSw
          clear hSw
          go_simp
          try with_reducible rfl
        (try go_frame)
        refine wpAnyH_take (i := 1) (v := ?vA1_2) rfl (by kernel_rfl) (by kernel_rfl) (by kernel_rfl) (fun _ _ _ h => h) (Or.inl ⟨by rfl, ?hA1_2⟩) hS ?rA1_2
        case hA1_2 =>
          intro w1 hSw
          clear hSw
          go_simp
          try with_reducible rfl
        (try go_frame)
        refine wpAnyH_take (i := 2) (v := ?vA1_3) rfl (by kernel_rfl) (by kernel_rfl) (by kernel_rfl) (fun _ _ _ h => h) (Or.inl ⟨by rfl, ?hA1_3⟩) hS ?rA1_3
        case hA1_3 =>
          intro w1 hSw
          clear hSw
          go_simp
          try with_reducible rfl
        (try go_frame)
        refine wpAnyH_take (i := 3) (v := ?vA1_4) rfl (by kernel_rfl) (by kernel_rfl) (by kernel_rfl) (fun _ _ _ h => h) (Or.inl ⟨by rfl, ?hA1_4⟩) hS ?rA1_4
        case hA1_4 =>
          intro w1 hSw
          have z1 : w1.cell? ⟨b, 0, none⟩ = some (.bool true) := hSw.1
          have z2 : w1.cell? ⟨b, 1, none⟩ = some (.slice (some ⟨g, off, none⟩) i cap) := hSw.2.1
          have z3 : w1.cell? ⟨H, 0, none⟩ = some (.int .i64 t.need) := hSw.2.2
          clear hSw
          go_simp
          try with_reducible rfl
        (try go_frame)
        refine wpAnyH_take (i := 4) (v := ?vA1_5) rfl (by kernel_rfl) (by kernel_rfl) (by kernel_rfl) (fun _ _ _ h => h) (Or.inl ⟨by rfl, ?hA1_5⟩) hS ?rA1_5
        case hA1_5 =>
          intro w1 hSw
          clear hSw
          go_simp
          try with_reducible rfl
        (try go_frame)
        refine wpAnyH_take (i := 5) (v := undef) rfl (by kernel_rfl) (by kernel_rfl) (by kernel_rfl) (fun _ _ _ h => h) (Or.inr ⟨by kernel_rfl, rfl⟩) hS ?rA1_6
        (try go_frame)
        refine wpAnyH_take (i := 6) (v := undef) rfl (by kernel_rfl) (by kernel_rfl) (by kernel_rfl) (fun _ _ _ h => h) (Or.inr ⟨by kernel_rfl, rfl⟩) hS ?rA1_7
        (try go_frame)
        refine wpAnyH_take (i := 7) (v := undef) rfl (by kernel_rfl) (by kernel_rfl) (by kernel_rfl) (fun _ _ _ h => h) (Or.inr ⟨by kernel_rfl, rfl⟩) hS ?rA1_8
        (try go_frame)
        refine wpAnyH_take (i := 8) (v := undef) rfl (by kernel_rfl) (by kernel_rfl) (by kernel_rfl) (fun _ _ _ h => h) (Or.inr ⟨by kernel_rfl, rfl⟩) hS ?rA1_9
        (try go_frame)
        refine wpAnyH_take (i := 9) (v := undef) rfl (by kernel_rfl) (by kernel_rfl) (by kernel_rfl) (fun _ _ _ h => h) (Or.inr ⟨by kernel_rfl, rfl⟩) hS ?rA1_10
        (try go_frame)
        refine wpAnyH_take (i := 10) (v := undef) rfl (by kernel_rfl) (by kernel_rfl) (by kernel_rfl) (fun _ _ _ h => h) (Or.inr ⟨by kernel_rfl, rfl⟩) hS ?rA1_11
        (try go_frame)
        refine wpAnyH_take (i := 11) (v := undef) rfl (by kernel_rfl) (by kernel_rfl) (by kernel_rfl) (fun _ _ _ h => h) (Or.inr ⟨by kernel_rfl, rfl⟩) hS ?rA1_12
        (try go_frame)
        refine wpAnyH_take (i := 12) (v := undef) rfl (by kernel_rfl) (by kernel_rfl) (by kernel_rfl) (fun _ _ _ h => h) (Or.inr ⟨by kernel_rfl, rfl⟩) hS ?rA1_13
        (try go_frame)
        refine wpAnyH_take (i := 13) (v := undef) rfl (by kernel_rfl) (by kernel_rfl) (by kernel_rfl) (fun _ _ _ h => h) (Or.inr ⟨by kernel_rfl, rfl⟩) hS ?rA1_14
        (try go_frame)
        refine wpAnyH_take (i := 14) (v := undef) rfl (by kernel_rfl) (by kernel_rfl) (by kernel_rfl) (fun _ _ _ h => h) (Or.inr ⟨by kernel_rfl, rfl⟩) hS ?rA1_15
        (try go_frame)
        refine wpAnyH_take (i := 15) (v := ?vA1_16) rfl (by kernel_rfl) (by kernel_rfl) (by kernel_rfl) (fun _ _ _ h => h) (Or.inl ⟨by kernel_rfl, ?hA1_16⟩) hS ?rA1_16
        case hA1_16 =>
          intro w1 hSw
          clear hSw
          go_simp
          try with_reducible rfl
        (try go_frame)
        refine wpAnyH_ready (rs := [16]) (by kernel_rfl) (by simp) (AllReadyH.cons rfl (fun K hK => ?_) AllReadyH.nil)
        go_simp
        refine (must_t _).mono ?_
        rintro e wm ⟨rfl, hw⟩
        rw [hw]
        clear hw wm
        refine hK.out _ _ (hS) (fun hS => ?_)
        clear hK K
        refine wpAnyH_done (by kernel_rfl) ?_ _
        go_wp2_with fail
        go_quiet (fail)
        cases q4 : decide (t.win ≤ t.now - c) with
        | false =>
          have HX : Hid (ChkT t x) := Lib.hid (HE.out.2 ⟨.inl HQ.out, fun h => absurd h (of_decide_eq_false q4)⟩)
          go_wp2_with fail
          go_end0
          exact ⟨.inl ⟨HX.out, rfl⟩, (by first | exact (Below.refl _ _).drew | exact below_drewN (Below.refl _ _).drew _ | exact (below_drewN (Below.refl _ _).drew _).drew | exact below_drewN (Below.refl _ _) _)⟩
        | true =>
          by_cases h1 : i = 1
          · have q5 : ((i : Int) == 1) = true := by rw [beq_iff_eq]; omega
            have H1 := Lib.hid h1
            clear h1
            cases q6 : decide (t.now - c < t.keep) with
            | true =>
              have HX : Hid (ChkT t x) := Lib.hid (HE.out.2 ⟨.inl HQ.out, fun _ => ⟨HQ.out, H1.out, of_decide_eq_true q6⟩⟩)
              go_wp2_with fail
              refine wp_region_held_drew (S := fun w' => w'.cell? ⟨b, 0, none⟩ = some (.bool true) ∧ w'.cell? ⟨b, 1, none⟩ = some (.slice (some ⟨g, off, none⟩) i cap) ∧ w'.cell? ⟨H, 3, none⟩ = some (.int .i64 t.now) ∧ w'.cell? ⟨H, 2, none⟩ = some (.int .i64 t.keep) ∧ w'.cell? ⟨g, off, none⟩ = some (.int .i64 c)) (by kernel_rfl) (⟨e0, e1, k3, k2, c0⟩) (fun hS => ?_)
              refine wpAnyH_take (i := 0) (v := ?vB2_1) rfl (by kernel_rfl) (by kernel_rfl) (by kernel_rfl) (fun _ _ _ h => h) (Or.inl ⟨by rfl, ?hB2_1⟩) hS ?rB2_1
              case hB2_1 =>
                intro w1 hSw
                clear hSw
                go_simp
                try with_reducible rfl
              (try go_frame)
              refine wpAnyH_take (i := 1) (v := ?vB2_2) rfl (by kernel_rfl) (by kernel_rfl) (by kernel_rfl) (fun _ _ _ h => h) (Or.inl ⟨by rfl, ?hB2_2⟩) hS ?rB2_2
              case hB2_2 =>
                intro w1 hSw
                clear hSw
                go_simp
                try with_reducible rfl
              (try go_frame)
              refine wpAnyH_take (i := 2) (v := ?vB2_3) rfl (by kernel_rfl) (by kernel_rfl) (by kernel_rfl) (fun _ _ _ h => h) (Or.inl ⟨by rfl, ?hB2_3⟩) hS ?rB2_3
              case hB2_3 =>
                intro w1 hSw
                clear hSw
                go_simp
                try with_reducible rfl
              (try go_frame)
              refine wpAnyH_take (i := 3) (v := ?vB2_4) rfl (by kernel_rfl) (by kernel_rfl) (by kernel_rfl) (fun _ _ _ h => h) (Or.inl ⟨by rfl, ?hB2_4⟩) hS ?rB2_4
              case hB2_4 =>
                intro w1 hSw
                have z1 : w1.cell? ⟨b, 0, none⟩ = some (.bool true) := hSw.1
                have z2 : w1.cell? ⟨b, 1, none⟩ = some (.slice (some ⟨g, off, none⟩) i cap) := hSw.2.1
                have z3 : w1.cell? ⟨H, 3, none⟩ = some (.int .i64 t.now) := hSw.2.2.1
                have z4 : w1.cell? ⟨H, 2, none⟩ = some (.int .i64 t.keep) := hSw.2.2.2.1
                have z5 : w1.cell? ⟨g, off, none⟩ = some (.int .i64 c) := hSw.2.2.2.2
                clear hSw
                go_simp
                try with_reducible rfl
              (try go_frame)
              refine wpAnyH_take (i := 4) (v := ?vB2_5) rfl (by kernel_rfl) (by kernel_rfl) (by kernel_rfl) (fun _ _ _ h => h) (Or.inl ⟨by rfl, ?hB2_5⟩) hS ?rB2_5
              case hB2_5 =>
                intro w1 hSw
                clear hSw
                go_simp
                try with_reducible rfl
              (try go_frame)
              refine wpAnyH_take (i := 5) (v := ?vB2_6) rfl (by kernel_rfl) (by kernel_rfl) (by kernel_rfl) (fun _ _ _ h => h) (Or.inl ⟨by kernel_rfl, ?hB2_6⟩) hS ?rB2_6
              case hB2_6 =>
                intro w1 hSw
                have z1 : w1.cell? ⟨b, 0, none⟩ = some (.bool true) := hSw.1
                have z2 : w1.cell? ⟨b, 1, none⟩ = some (.slice (some ⟨g, off, none⟩) i cap) := hSw.2.1
                have z3 : w1.cell? ⟨H, 3, none⟩ = some (.int .i64 t.now) := hSw.2.2.1
                have z4 : w1.cell? ⟨H, 2, none⟩ = some (.int .i64 t.keep) := hSw.2.2.2.1
                have z5 : w1.cell? ⟨g, off, none⟩ = some (.int .i64 c) := hSw.2.2.2.2
                clear hSw
                go_simp
                try with_reducible rfl
              (try go_frame)
              refine wpAnyH_take (i := 6) (v := ?vB2_7) rfl (by kernel_rfl) (by kernel_rfl) (by kernel_rfl) (fun _ _ _ h => h) (Or.inl ⟨by kernel_rfl, ?hB2_7⟩) hS ?rB2_7
              case hB2_7 =>
                intro w1 hSw
                have z1 : w1.cell? ⟨b, 0, none⟩ = some (.bool true) := hSw.1
                have z2 : w1.cell? ⟨b, 1, none⟩ = some (.slice (some ⟨g, off, none⟩) i cap) := hSw.2.1
                have z3 : w1.cell? ⟨H, 3, none⟩ = some (.int .i64 t.now) := hSw.2.2.1
                have z4 : w1.cell? ⟨H, 2, none⟩ = some (.int .i64 t.keep) := hSw.2.2.2.1
                have z5 : w1.cell? ⟨g, off, none⟩ = some (.int .i64 c) := hSw.2.2.2.2
                clear hSw
                go_simp
                try with_reducible rfl
              (try go_frame)
              refine wpAnyH_take (i := 7) (v := ?vB2_8) rfl (by kernel_rfl) (by kernel_rfl) (by kernel_rfl) (fun _ _ _ h => h) (Or.inl ⟨by kernel_rfl, ?hB2_8⟩) hS ?rB2_8
              case hB2_8 =>
                intro w1 hSw
                have z1 : w1.cell? ⟨b, 0, none⟩ = some (.bool true) := hSw.1
                have z2 : w1.cell? ⟨b, 1, none⟩ = some (.slice (some ⟨g, off, none⟩) i cap) := hSw.2.1
                have z3 : w1.cell? ⟨H, 3, none⟩ = some (.int .i64 t.now) := hSw.2.2.1
                have z4 : w1.cell? ⟨H, 2, none⟩ = some (.int .i64 t.keep) := hSw.2.2.2.1
                have z5 : w1.cell? ⟨g, off, none⟩ = some (.int .i64 c) := hSw.2.2.2.2
                clear hSw
                go_simp
                try with_reducible rfl
              (try go_frame)
              refine wpAnyH_take (i := 8) (v := ?vB2_9) rfl (by kernel_rfl) (by kernel_rfl) (by kernel_rfl) (fun _ _ _ h => h) (Or.inl ⟨by kernel_rfl, ?hB2_9⟩) hS ?rB2_9
              case hB2_9 =>
                intro w1 hSw
                have z1 : w1.cell? ⟨b, 0, none⟩ = some (.bool true) := hSw.1
                have z2 : w1.cell? ⟨b, 1, none⟩ = some (.slice (some ⟨g, off, none⟩) i cap) := hSw.2.1
                have z3 : w1.cell? ⟨H, 3, none⟩ = some (.int .i64 t.now) := hSw.2.2.1
                have z4 : w1.cell? ⟨H, 2, none⟩ = some (.int .i64 t.keep) := hSw.2.2.2.1
                have z5 : w1.cell? ⟨g, off, none⟩ = some (.int .i64 c) := hSw.2.2.2.2
                clear hSw
                go_simp
                try with_reducible rfl
              (try go_frame)
              refine wpAnyH_take (i := 9) (v := ?vB2_10) rfl (by kernel_rfl) (by kernel_rfl) (by kernel_rfl) (fun _ _ _ h => h) (Or.inl ⟨by kernel_rfl, ?hB2_10⟩) hS ?rB2_10
              case hB2_10 =>
                intro w1 hSw
                have z1 : w1.cell? ⟨b, 0, none⟩ = some (.bool true) := hSw.1
                have z2 : w1.cell? ⟨b, 1, none⟩ = some (.slice (some ⟨g, off, none⟩) i cap) := hSw.2.1
                have z3 : w1.cell? ⟨H, 3, none⟩ = some (.int .i64 t.now) := hSw.2.2.1
                have z4 : w1.cell? ⟨H, 2, none⟩ = some (.int .i64 t.keep) := hSw.2.2.2.1
                have z5 : w1.cell? ⟨g, off, none⟩ = some (.int .i64 c) := hSw.2.2.2.2
                clear hSw
                go_simp
                try with_reducible rfl
              (try go_frame)
              refine wpAnyH_take (i := 10) (v := ?vB2_11) rfl (by kernel_rfl) (by kernel_rfl) (by kernel_rfl) (fun _ _ _ h => h) (Or.inl ⟨by kernel_rfl, ?hB2_11⟩) hS ?rB2_11
              case hB2_11 =>
                intro w1 hSw
                have z1 : w1.cell? ⟨b, 0, none⟩ = some (.bool true) := hSw.1
                have z2 : w1.cell? ⟨b, 1, none⟩ = some (.slice (some ⟨g, off, none⟩) i cap) := hSw.2.1
                have z3 : w1.cell? ⟨H, 3, none⟩ = some (.int .i64 t.now) := hSw.2.2.1
                have z4 : w1.cell? ⟨H, 2, none⟩ = some (.int .i64 t.keep) := hSw.2.2.2.1
                have z5 : w1.cell? ⟨g, off, none⟩ = some (.int .i64 c) := hSw.2.2.2.2
                clear hSw
                go_simp
                try with_reducible rfl
              (try go_frame)
              refine wpAnyH_take (i := 11) (v := ?vB2_12) rfl (by kernel_rfl) (by kernel_rfl) (by kernel_rfl) (fun _ _ _ h => h) (Or.inl ⟨by kernel_rfl, ?hB2_12⟩) hS ?rB2_12
              case hB2_12 =>
                intro w1 hSw
                clear hSw
                go_simp
                try with_reducible rfl
              (try go_frame)
              refine wpAnyH_take (i := 12) (v := ?vB2_13) rfl (by kernel_rfl) (by kernel_rfl) (by kernel_rfl) (fun _ _ _ h => h) (Or.inl ⟨by kernel_rfl, ?hB2_13⟩) hS ?rB2_13
              case hB2_13 =>
                intro w1 hSw
                clear hSw
                go_simp
                try with_reducible rfl
              (try go_frame)
              refine wpAnyH_take (i := 13) (v := ?vB2_14) rfl (by kernel_rfl) (by kernel_rfl) (by kernel_rfl) (fun _ _ _ h => h) (Or.inl ⟨by kernel_rfl, ?hB2_14⟩) hS ?rB2_14
              case hB2_14 =>
                intro w1 hSw
                have z1 : w1.cell? ⟨b, 0, none⟩ = some (.bool true) := hSw.1
                have z2 : w1.cell? ⟨b, 1, none⟩ = some (.slice (some ⟨g, off, none⟩) i cap) := hSw.2.1
                have z3 : w1.cell? ⟨H, 3, none⟩ = some (.int .i64 t.now) := hSw.2.2.1
                have z4 : w1.cell? ⟨H, 2, none⟩ = some (.int .i64 t.keep) := hSw.2.2.2.1
                have z5 : w1.cell? ⟨g, off, none⟩ = some (.int .i64 c) := hSw.2.2.2.2
                clear hSw
                go_simp
                try with_reducible rfl
              (try go_frame)
              refine wpAnyH_take (i := 14) (v := ?vB2_15) rfl (by kernel_rfl) (by kernel_rfl) (by kernel_rfl) (fun _ _ _ h => h) (Or.inl ⟨by kernel_rfl, ?hB2_15⟩) hS ?rB2_15
              case hB2_15 =>
                intro w1 hSw
                have z1 : w1.cell? ⟨b, 0, none⟩ = some (.bool true) := hSw.1
                have z2 : w1.cell? ⟨b, 1, none⟩ = some (.slice (some ⟨g, off, none⟩) i cap) := hSw.2.1
                have z3 : w1.cell? ⟨H, 3, none⟩ = some (.int .i64 t.now) := hSw.2.2.1
                have z4 : w1.cell? ⟨H, 2, none⟩ = some (.int .i64 t.keep) := hSw.2.2.2.1
                have z5 : w1.cell? ⟨g, off, none⟩ = some (.int .i64 c) := hSw.2.2.2.2
                clear hSw
                go_simp
                try with_reducible rfl
              (try go_frame)
              refine wpAnyH_take (i := 15) (v := ?vB2_16) rfl (by kernel_rfl) (by kernel_rfl) (by kernel_rfl) (fun _ _ _ h => h) (Or.inl ⟨by kernel_rfl, ?hB2_16⟩) hS ?rB2_16
              case hB2_16 =>
                intro w1 hSw
                have z1 : w1.cell? ⟨b, 0, none⟩ = some (.bool true) := hSw.1
                have z2 : w1.cell? ⟨b, 1, none⟩ = some (.slice (some ⟨g, off, none⟩) i cap) := hSw.2.1
                have z3 : w1.cell? ⟨H, 3, none⟩ = some (.int .i64 t.now) := hSw.2.2.1
                have z4 : w1.cell? ⟨H, 2, none⟩ = some (.int .i64 t.keep) := hSw.2.2.2.1
                have z5 : w1.cell? ⟨g, off, none⟩ = some (.int .i64 c) := hSw.2.2.2.2
                clear hSw
                go_simp
                try with_reducible rfl
              (try go_frame)
              refine wpAnyH_take (i := 16) (v := ?vB2_17) rfl (by kernel_rfl) (by kernel_rfl) (by kernel_rfl) (fun _ _ _ h => h) (Or.inl ⟨by kernel_rfl, ?hB2_17⟩) hS ?rB2_17
              case hB2_17 =>
                intro w1 hSw
                have z1 : w1.cell? ⟨b, 0, none⟩ = some (.bool true) := hSw.1
                have z2 : w1.cell? ⟨b, 1, none⟩ = some (.slice (some ⟨g, off, none⟩) i cap) := hSw.2.1
                have z3 : w1.cell? ⟨H, 3, none⟩ = some (.int .i64 t.now) := hSw.2.2.1
                have z4 : w1.cell? ⟨H, 2, none⟩ = some (.int .i64 t.keep) := hSw.2.2.2.1
                have z5 : w1.cell? ⟨g, off, none⟩ = some (.int .i64 c) := hSw.2.2.2.2
                clear hSw
                go_simp
                try with_reducible rfl
              (try go_frame)
              refine wpAnyH_take (i := 17) (v := ?vB2_18) rfl (by kernel_rfl) (by kernel_rfl) (by kernel_rfl) (fun _ _ _ h => h) (Or.inl ⟨by kernel_rfl, ?hB2_18⟩) hS ?rB2_18
              case hB2_18 =>
                intro w1 hSw
                have z1 : w1.cell? ⟨b, 0, none⟩ = some (.bool true) := hSw.1
                have z2 : w1.cell? ⟨b, 1, none⟩ = some (.slice (some ⟨g, off, none⟩) i cap) := hSw.2.1
                have z3 : w1.cell? ⟨H, 3, none⟩ = some (.int .i64 t.now) := hSw.2.2.1
                have z4 : w1.cell? ⟨H, 2, none⟩ = some (.int .i64 t.keep) := hSw.2.2.2.1
                have z5 : w1.cell? ⟨g, off, none⟩ = some (.int .i64 c) := hSw.2.2.2.2
                clear hSw
                go_simp
                try with_reducible rfl
              (try go_frame)
              refine wpAnyH_take (i := 18) (v := ?vB2_19) rfl (by kernel_rfl) (by kernel_rfl) (by kernel_rfl) (fun _ _ _ h => h) (Or.inl ⟨by kernel_rfl, ?hB2_19⟩) hS ?rB2_19
              case hB2_19 =>
                intro w1 hSw
                have z1 : w1.cell? ⟨b, 0, none⟩ = some (.bool true) := hSw.1
                have z2 : w1.cell? ⟨b, 1, none⟩ = some (.slice (some ⟨g, off, none⟩) i cap) := hSw.2.1
                have z3 : w1.cell? ⟨H, 3, none⟩ = some (.int .i64 t.now) := hSw.2.2.1
                have z4 : w1.cell? ⟨H, 2, none⟩ = some (.int .i64 t.keep) := hSw.2.2.2.1
                have z5 : w1.cell? ⟨g, off, none⟩ = some (.int .i64 c) := hSw.2.2.2.2
                clear hSw
                go_simp
                try with_reducible rfl
              (try go_frame)
              refine wpAnyH_take (i := 19) (v := ?vB2_20) rfl (by kernel_rfl) (by kernel_rfl) (by kernel_rfl) (fun _ _ _ h => h) (Or.inl ⟨by kernel_rfl, ?hB2_20⟩) hS ?rB2_20
              case hB2_20 =>
                intro w1 hSw
                have z1 : w1.cell? ⟨b, 0, none⟩ = some (.bool true) := hSw.1
                have z2 : w1.cell? ⟨b, 1, none⟩ = some (.slice (some ⟨g, off, none⟩) i cap) := hSw.2.1
                have z3 : w1.cell? ⟨H, 3, none⟩ = some (.int .i64 t.now) := hSw.2.2.1
                have z4 : w1.cell? ⟨H, 2, none⟩ = some (.int .i64 t.keep) := hSw.2.2.2.1
                have z5 : w1.cell? ⟨g, off, none⟩ = some (.int .i64 c) := hSw.2.2.2.2
                clear hSw
                go_simp
                try with_reducible rfl
              (try go_frame)
              refine wpAnyH_take (i := 20) (v := ?vB2_21) rfl (by kernel_rfl) (by kernel_rfl) (by kernel_rfl) (fun _ _ _ h => h) (Or.inl ⟨by kernel_rfl, ?hB2_21⟩) hS ?rB2_21
              case hB2_21 =>
                intro w1 hSw
                have z1 : w1.cell? ⟨b, 0, none⟩ = some (.bool true) := hSw.1
                have z2 : w1.cell? ⟨b, 1, none⟩ = some (.slice (some ⟨g, off, none⟩) i cap) := hSw.2.1
                have z3 : w1.cell? ⟨H, 3, none⟩ = some (.int .i64 t.now) := hSw.2.2.1
                have z4 : w1.cell? ⟨H, 2, none⟩ = some (.int .i64 t.keep) := hSw.2.2.2.1
                have z5 : w1.cell? ⟨g, off, none⟩ = some (.int .i64 c) := hSw.2.2.2.2
                clear hSw
                go_simp
                try with_reducible rfl
              (try go_frame)
              refine wpAnyH_take (i := 21) (v := ?vB2_22) rfl (by kernel_rfl) (by kernel_rfl) (by kernel_rfl) (fun _ _ _ h => h) (Or.inl ⟨by kernel_rfl, ?hB2_22⟩) hS ?rB2_22
              case hB2_22 =>
                intro w1 hSw
                have z1 : w1.cell? ⟨b, 0, none⟩ = some (.bool true) := hSw.1
                have z2 : w1.cell? ⟨b, 1, none⟩ = some (.slice (some ⟨g, off, none⟩) i cap) := hSw.2.1
                have z3 : w1.cell? ⟨H, 3, none⟩ = some (.int .i64 t.now) := hSw.2.2.1
                have z4 : w1.cell? ⟨H, 2, none⟩ = some (.int .i64 t.keep) := hSw.2.2.2.1
                have z5 : w1.cell? ⟨g, off, none⟩ = some (.int .i64 c) := hSw.2.2.2.2
                clear hSw
                go_simp
                try with_reducible rfl
              (try go_frame)
              refine wpAnyH_take (i := 22) (v := ?vB2_23) rfl (by kernel_rfl) (by kernel_rfl) (by kernel_rfl) (fun _ _ _ h => h) (Or.inl ⟨by kernel_rfl, ?hB2_23⟩) hS ?rB2_23
              case hB2_23 =>
                intro w1 hSw
                have z1 : w1.cell? ⟨b, 0, none⟩ = some (.bool true) := hSw.1
                have z2 : w1.cell? ⟨b, 1, none⟩ = some (.slice (some ⟨g, off, none⟩) i cap) := hSw.2.1
                have z3 : w1.cell? ⟨H, 3, none⟩ = some (.int .i64 t.now) := hSw.2.2.1
                have z4 : w1.cell? ⟨H, 2, none⟩ = some (.int .i64 t.keep) := hSw.2.2.2.1
                have z5 : w1.cell? ⟨g, off, none⟩ = some (.int .i64 c) := hSw.2.2.2.2
                clear hSw
                go_simp
                try with_reducible rfl
              (try go_frame)
              refine wpAnyH_take (i := 23) (v := ?vB2_24) rfl (by kernel_rfl) (by kernel_rfl) (by kernel_rfl) (fun _ _ _ h => h) (Or.inl ⟨by kernel_rfl, ?hB2_24⟩) hS ?rB2_24
              case hB2_24 =>
                intro w1 hSw
                have z1 : w1.cell? ⟨b, 0, none⟩ = some (.bool true) := hSw.1
                have z2 : w1.cell? ⟨b, 1, none⟩ = some (.slice (some ⟨g, off, none⟩) i cap) := hSw.2.1
                have z3 : w1.cell? ⟨H, 3, none⟩ = some (.int .i64 t.now) := hSw.2.2.1
                have z4 : w1.cell? ⟨H, 2, none⟩ = some (.int .i64 t.keep) := hSw.2.2.2.1
                have z5 : w1.cell? ⟨g, off, none⟩ = some (.int .i64 c) := hSw.2.2.2.2
                clear hSw
                go_simp
                try with_reducible rfl
              (try go_frame)
              refine wpAnyH_take (i := 24) (v := ?vB2_25) rfl (by kernel_rfl) (by kernel_rfl) (by kernel_rfl) (fun _ _ _ h => h) (Or.inl ⟨by kernel_rfl, ?hB2_25⟩) hS ?rB2_25
              case hB2_25 =>
                intro w1 hSw
                have z1 : w1.cell? ⟨b, 0, none⟩ = some (.bool true) := hSw.1
                have z2 : w1.cell? ⟨b, 1, none⟩ = some (.slice (some ⟨g, off, none⟩) i cap) := hSw.2.1
                have z3 : w1.cell? ⟨H, 3, none⟩ = some (.int .i64 t.now) := hSw.2.2.1
                have z4 : w1.cell? ⟨H, 2, none⟩ = some (.int .i64 t.keep) := hSw.2.2.2.1
                have z5 : w1.cell? ⟨g, off, none⟩ = some (.int .i64 c) := hSw.2.2.2.2
                clear hSw
                go_simp
                try with_reducible rfl
              (try go_frame)
              refine wpAnyH_take (i := 25) (v := ?vB2_26) rfl (by kernel_rfl) (by kernel_rfl) (by kernel_rfl) (fun _ _ _ h => h) (Or.inl ⟨by kernel_rfl, ?hB2_26⟩) hS ?rB2_26
              case hB2_26 =>
                intro w1 hSw
                have z1 : w1.cell? ⟨b, 0, none⟩ = some (.bool true) := hSw.1
                have z2 : w1.cell? ⟨b, 1, none⟩ = some (.slice (some ⟨g, off, none⟩) i cap) := hSw.2.1
                have z3 : w1.cell? ⟨H, 3, none⟩ = some (.int .i64 t.now) := hSw.2.2.1
                have z4 : w1.cell? ⟨H, 2, none⟩ = some (.int .i64 t.keep) := hSw.2.2.2.1
                have z5 : w1.cell? ⟨g, off, none⟩ = some (.int .i64 c) := hSw.2.2.2.2
                clear hSw
                go_simp
                try with_reducible rfl
              (try go_frame)
              refine wpAnyH_take (i := 26) (v := ?vB2_27) rfl (by kernel_rfl) (by kernel_rfl) (by kernel_rfl) (fun _ _ _ h => h) (Or.inl ⟨by kernel_rfl, ?hB2_27⟩) hS ?rB2_27
              case hB2_27 =>
                intro w1 hSw
                have z1 : w1.cell? ⟨b, 0, none⟩ = some (.bool true) := hSw.1
                have z2 : w1.cell? ⟨b, 1, none⟩ = some (.slice (some ⟨g, off, none⟩) i cap) := hSw.2.1
                have z3 : w1.cell? ⟨H, 3, none⟩ = some (.int .i64 t.now) := hSw.2.2.1
                have z4 : w1.cell? ⟨H, 2, none⟩ = some (.int .i64 t.keep) := hSw.2.2.2.1
                have z5 : w1.cell? ⟨g, off, none⟩ = some (.int .i64 c) := hSw.2.2.2.2
                clear hSw
                go_simp
                try with_reducible rfl
              (try go_frame)
              refine wpAnyH_take (i := 27) (v := ?vB2_28) rfl (by kernel_rfl) (by kernel_rfl) (by kernel_rfl) (fun _ _ _ h => h) (Or.inl ⟨by kernel_rfl, ?hB2_28⟩) hS ?rB2_28
              case hB2_28 =>
                intro w1 hSw
                have z1 : w1.cell? ⟨b, 0, none⟩ = some (.bool true) := hSw.1
                have z2 : w1.cell? ⟨b, 1, none⟩ = some (.slice (some ⟨g, off, none⟩) i cap) := hSw.2.1
                have z3 : w1.cell? ⟨H, 3, none⟩ = some (.int .i64 t.now) := hSw.2.2.1
                have z4 : w1.cell? ⟨H, 2, none⟩ = some (.int .i64 t.keep) := hSw.2.2.2.1
                have z5 : w1.cell? ⟨g, off, none⟩ = some (.int .i64 c) := hSw.2.2.2.2
                clear hSw
                go_simp
                try with_reducible rfl
              (try go_frame)
              refine wpAnyH_take (i := 28) (v := ?vB2_29) rfl (by kernel_rfl) (by kernel_rfl) (by kernel_rfl) (fun _ _ _ h => h) (Or.inl ⟨by kernel_rfl, ?hB2_29⟩) hS ?rB2_29
              case hB2_29 =>
                intro w1 hSw
                have z1 : w1.cell? ⟨b, 0, none⟩ = some (.bool true) := hSw.1
                have z2 : w1.cell? ⟨b, 1, none⟩ = some (.slice (some ⟨g, off, none⟩) i cap) := hSw.2.1
                have z3 : w1.cell? ⟨H, 3, none⟩ = some (.int .i64 t.now) := hSw.2.2.1
                have z4 : w1.cell? ⟨H, 2, none⟩ = some (.int .i64 t.keep) := hSw.2.2.2.1
                have z5 : w1.cell? ⟨g, off, none⟩ = some (.int .i64 c) := hSw.2.2.2.2
                clear hSw
                go_simp
                try with_reducible rfl
              (try go_frame)
              refine wpAnyH_take (i := 29) (v := ?vB2_30) rfl (by kernel_rfl) (by kernel_rfl) (by kernel_rfl) (fun _ _ _ h => h) (Or.inl ⟨by kernel_rfl, ?hB2_30⟩) hS ?rB2_30
              case hB2_30 =>
                intro w1 hSw
                clear hSw
                go_simp
                try with_reducible rfl
              (try go_frame)
              refine wpAnyH_ready (rs := [30]) (by kernel_rfl) (by simp) (AllReadyH.cons rfl (fun K hK => ?_) AllReadyH.nil)
              go_simp
              refine (must_t _).mono ?_
              rintro e wm ⟨rfl, hw⟩
              rw [hw]
              clear hw wm
              refine hK.out _ _ (hS) (fun hS => ?_)
              clear hK K
              refine wpAnyH_done (by kernel_rfl) ?_ _
              go_wp2_with fail
              go_end0
              exact ⟨.inl ⟨HX.out, rfl⟩, (by first | exact (Below.refl _ _).drew | exact below_drewN (Below.refl _ _).drew _ | exact (below_drewN (Below.refl _ _).drew _).drew | exact below_drewN (Below.refl _ _) _)⟩
            | false =>
              have HX : Hid (¬ ChkT t x) := Lib.hid (fun h => of_decide_eq_false q6 ((HE.out.1 h).2 (of_decide_eq_true q4)).2.2)
              go_wp2_with fail
              refine wp_region_held_drew (S := fun w' => w'.cell? ⟨b, 0, none⟩ = some (.bool true) ∧ w'.cell? ⟨b, 1, none⟩ = some (.slice (some ⟨g, off, none⟩) i cap) ∧ w'.cell? ⟨H, 3, none⟩ = some (.int .i64 t.now) ∧ w'.cell? ⟨H, 2, none⟩ = some (.int .i64 t.keep) ∧ w'.cell? ⟨g, off, none⟩ = some (.int .i64 c)) (by kernel_rfl) (⟨e0, e1, k3, k2, c0⟩) (fun hS => ?_)
              refine wpAnyH_take (i := 0) (v := ?vB3_1) rfl (by kernel_rfl) (by kernel_rfl) (by kernel_rfl) (fun _ _ _ h => h) (Or.inl ⟨by rfl, ?hB3_1⟩) hS ?rB3_1
              case hB3_1 =>
                intro w1 hSw
                clear hSw
                go_simp
                try with_reducible rfl
              (try go_frame)
              refine wpAnyH_take (i := 1) (v := ?vB3_2) rfl (by kernel_rfl) (by kernel_rfl) (by kernel_rfl) (fun _ _ _ h => h) (Or.inl ⟨by rfl, ?hB3_2⟩) hS ?rB3_2
              case hB3_2 =>
                intro w1 hSw
                clear hSw
                go_simp
                try with_reducible rfl
              (try go_frame)
              refine wpAnyH_take (i := 2) (v := ?vB3_3) rfl (by kernel_rfl) (by kernel_rfl) (by kernel_rfl) (fun _ _ _ h => h) (Or.inl ⟨by rfl, ?hB3_3⟩) hS ?rB3_3
              case hB3_3 =>
                intro w1 hSw
                clear hSw
                go_simp
                try with_reducible rfl
              (try go_frame)
              refine wpAnyH_take (i := 3) (v := ?vB3_4) rfl (by kernel_rfl) (by kernel_rfl) (by kernel_rfl) (fun _ _ _ h => h) (Or.inl ⟨by rfl, ?hB3_4⟩) hS ?rB3_4
              case hB3_4 =>
                intro w1 hSw
                have z1 : w1.cell? ⟨b, 0, none⟩ = some (.bool true) := hSw.1
                have z2 : w1.cell? ⟨b, 1, none⟩ = some (.slice (some ⟨g, off, none⟩) i cap) := hSw.2.1
                have z3 : w1.cell? ⟨H, 3, none⟩ = some (.int .i64 t.now) := hSw.2.2.1
                have z4 : w1.cell? ⟨H, 2, none⟩ = some (.int .i64 t.keep) := hSw.2.2.2.1
                have z5 : w1.cell? ⟨g, off, none⟩ = some (.int .i64 c) := hSw.2.2.2.2
                clear hSw
                go_simp
                try with_reducible rfl
              (try go_frame)
              refine wpAnyH_take (i := 4) (v := ?vB3_5) rfl (by kernel_rfl) (by kernel_rfl) (by kernel_rfl) (fun _ _ _ h => h) (Or.inl ⟨by rfl, ?hB3_5⟩) hS ?rB3_5
              case hB3_5 =>
                intro w1 hSw
                clear hSw
                go_simp
                try with_reducible rfl
              (try go_frame)
              refine wpAnyH_take (i := 5) (v := ?vB3_6) rfl (by kernel_rfl) (by kernel_rfl) (by kernel_rfl) (fun _ _ _ h => h) (Or.inl ⟨by kernel_rfl, ?hB3_6⟩) hS ?rB3_6
              case hB3_6 =>
                intro w1 hSw
                have z1 : w1.cell? ⟨b, 0, none⟩ = some (.bool true) := hSw.1
                have z2 : w1.cell? ⟨b, 1, none⟩ = some (.slice (some ⟨g, off, none⟩) i cap) := hSw.2.1
                have z3 : w1.cell? ⟨H, 3, none⟩ = some (.int .i64 t.now) := hSw.2.2.1
                have z4 : w1.cell? ⟨H, 2, none⟩ = some (.int .i64 t.keep) := hSw.2.2.2.1
                have z5 : w1.cell? ⟨g, off, none⟩ = some (.int .i64 c) := hSw.2.2.2.2
                clear hSw
                go_simp
                try with_reducible rfl
              (try go_frame)
              refine wpAnyH_take (i := 6) (v := ?vB3_7) rfl (by kernel_rfl) (by kernel_rfl) (by kernel_rfl) (fun _ _ _ h => h) (Or.inl ⟨by kernel_rfl, ?hB3_7⟩) hS ?rB3_7
              case hB3_7 =>
                intro w1 hSw
                have z1 : w1.cell? ⟨b, 0, none⟩ = some (.bool true) := hSw.1
                have z2 : w1.cell? ⟨b, 1, none⟩ = some (.slice (some ⟨g, off, none⟩) i cap) := hSw.2.1
                have z3 : w1.cell? ⟨H, 3, none⟩ = some (.int .i64 t.now) := hSw.2.2.1
                have z4 : w1.cell? ⟨H, 2, none⟩ = some (.int .i64 t.keep) := hSw.2.2.2.1
                have z5 : w1.cell? ⟨g, off, none⟩ = some (.int .i64 c) := hSw.2.2.2.2
                clear hSw
                go_simp
                try with_reducible rfl
              (try go_frame)
              refine wpAnyH_take (i := 7) (v := ?vB3_8) rfl (by kernel_rfl) (by kernel_rfl) (by kernel_rfl) (fun _ _ _ h => h) (Or.inl ⟨by kernel_rfl, ?hB3_8⟩) hS ?rB3_8
              case hB3_8 =>
                intro w1 hSw
                have z1 : w1.cell? ⟨b, 0, none⟩ = some (.bool true) := hSw.1
                have z2 : w1.cell? ⟨b, 1, none⟩ = some (.slice (some ⟨g, off, none⟩) i cap) := hSw.2.1
                have z3 : w1.cell? ⟨H, 3, none⟩ = some (.int .i64 t.now) := hSw.2.2.1
                have z4 : w1.cell? ⟨H, 2, none⟩ = some (.int .i64 t.keep) := hSw.2.2.2.1
                have z5 : w1.cell? ⟨g, off, none⟩ = some (.int .i64 c) := hSw.2.2.2.2
                clear hSw
                go_simp
                try with_reducible rfl
              (try go_frame)
              refine wpAnyH_take (i := 8) (v := ?vB3_9) rfl (by kernel_rfl) (by kernel_rfl) (by kernel_rfl) (fun _ _ _ h => h) (Or.inl ⟨by kernel_rfl, ?hB3_9⟩) hS ?rB3_9
              case hB3_9 =>
                intro w1 hSw
                have z1 : w1.cell? ⟨b, 0, none⟩ = some (.bool true) := hSw.1
                have z2 : w1.cell? ⟨b, 1, none⟩ = some (.slice (some ⟨g, off, none⟩) i cap) := hSw.2.1
                have z3 : w1.cell? ⟨H, 3, none⟩ = some (.int .i64 t.now) := hSw.2.2.1
                have z4 : w1.cell? ⟨H, 2, none⟩ = some (.int .i64 t.keep) := hSw.2.2.2.1
                have z5 : w1.cell? ⟨g, off, none⟩ = some (.int .i64 c) := hSw.2.2.2.2
                clear hSw
                go_simp
                try with_reducible rfl
              (try go_frame)
              refine wpAnyH_take (i := 9) (v := ?vB3_10) rfl (by kernel_rfl) (by kernel_rfl) (by kernel_rfl) (fun _ _ _ h => h) (Or.inl ⟨by kernel_rfl, ?hB3_10⟩) hS ?rB3_10
              case hB3_10 =>
                intro w1 hSw
                have z1 : w1.cell? ⟨b, 0, none⟩ = some (.bool true) := hSw.1
                have z2 : w1.cell? ⟨b, 1, none⟩ = some (.slice (some ⟨g, off, none⟩) i cap) := hSw.2.1
                have z3 : w1.cell? ⟨H, 3, none⟩ = some (.int .i64 t.now) := hSw.2.2.1
                have z4 : w1.cell? ⟨H, 2, none⟩ = some (.int .i64 t.keep) := hSw.2.2.2.1
                have z5 : w1.cell? ⟨g, off, none⟩ = some (.int .i64 c) := hSw.2.2.2.2
                clear hSw
                go_simp
                try with_reducible rfl
              (try go_frame)
              refine wpAnyH_take (i := 10) (v := ?vB3_11) rfl (by kernel_rfl) (by kernel_rfl) (by kernel_rfl) (fun _ _ _ h => h) (Or.inl ⟨by kernel_rfl, ?hB3_11⟩) hS ?rB3_11
              case hB3_11 =>
                intro w1 hSw
                have z1 : w1.cell? ⟨b, 0, none⟩ = some (.bool true) := hSw.1
                have z2 : w1.cell? ⟨b, 1, none⟩ = some (.slice (some ⟨g, off, none⟩) i cap) := hSw.2.1
                have z3 : w1.cell? ⟨H, 3, none⟩ = some (.int .i64 t.now) := hSw.2.2.1
                have z4 : w1.cell? ⟨H, 2, none⟩ = some (.int .i64 t.keep) := hSw.2.2.2.1
                have z5 : w1.cell? ⟨g, off, none⟩ = some (.int .i64 c) := hSw.2.2.2.2
                clear hSw
                go_simp
                try with_reducible rfl
              (try go_frame)
              refine wpAnyH_take (i := 11) (v := ?vB3_12) rfl (by kernel_rfl) (by kernel_rfl) (by kernel_rfl) (fun _ _ _ h => h) (Or.inl ⟨by kernel_rfl, ?hB3_12⟩) hS ?rB3_12
              case hB3_12 =>
                intro w1 hSw
                clear hSw
                go_simp
                try with_reducible rfl
              (try go_frame)
              refine wpAnyH_take (i := 12) (v := ?vB3_13) rfl (by kernel_rfl) (by kernel_rfl) (by kernel_rfl) (fun _ _ _ h => h) (Or.inl ⟨by kernel_rfl, ?hB3_13⟩) hS ?rB3_13
              case hB3_13 =>
                intro w1 hSw
                clear hSw
                go_simp
                try with_reducible rfl
              (try go_frame)
              refine wpAnyH_take (i := 13) (v := ?vB3_14) rfl (by kernel_rfl) (by kernel_rfl) (by kernel_rfl) (fun _ _ _ h => h) (Or.inl ⟨by kernel_rfl, ?hB3_14⟩) hS ?rB3_14
              case hB3_14 =>
                intro w1 hSw
                have z1 : w1.cell? ⟨b, 0, none⟩ = some (.bool true) := hSw.1
                have z2 : w1.cell? ⟨b, 1, none⟩ = some (.slice (some ⟨g, off, none⟩) i cap) := hSw.2.1
                have z3 : w1.cell? ⟨H, 3, none⟩ = some (.int .i64 t.now) := hSw.2.2.1
                have z4 : w1.cell? ⟨H, 2, none⟩ = some (.int .i64 t.keep) := hSw.2.2.2.1
                have z5 : w1.cell? ⟨g, off, none⟩ = some (.int .i64 c) := hSw.2.2.2.2
                clear hSw
                go_simp
                try with_reducible rfl
              (try go_frame)
              refine wpAnyH_take (i := 14) (v := ?vB3_15) rfl (by kernel_rfl) (by kernel_rfl) (by kernel_rfl) (fun _ _ _ h => h) (Or.inl ⟨by kernel_rfl, ?hB3_15⟩) hS ?rB3_15
              case hB3_15 =>
                intro w1 hSw
                have z1 : w1.cell? ⟨b, 0, none⟩ = some (.bool true) := hSw.1
                have z2 : w1.cell? ⟨b, 1, none⟩ = some (.slice (some ⟨g, off, none⟩) i cap) := hSw.2.1
                have z3 : w1.cell? ⟨H, 3, none⟩ = some (.int .i64 t.now) := hSw.2.2.1
                have z4 : w1.cell? ⟨H, 2, none⟩ = some (.int .i64 t.keep) := hSw.2.2.2.1
                have z5 : w1.cell? ⟨g, off, none⟩ = some (.int .i64 c) := hSw.2.2.2.2
                clear hSw
                go_simp
                try with_reducible rfl
              (try go_frame)
              refine wpAnyH_take (i := 15) (v := ?vB3_16) rfl (by kernel_rfl) (by kernel_rfl) (by kernel_rfl) (fun _ _ _ h => h) (Or.inl ⟨by kernel_rfl, ?hB3_16⟩) hS ?rB3_16
              case hB3_16 =>
                intro w1 hSw
                have z1 : w1.cell? ⟨b, 0, none⟩ = some (.bool true) := hSw.1
                have z2 : w1.cell? ⟨b, 1, none⟩ = some (.slice (some ⟨g, off, none⟩) i cap) := hSw.2.1
                have z3 : w1.cell? ⟨H, 3, none⟩ = some (.int .i64 t.now) := hSw.2.2.1
                have z4 : w1.cell? ⟨H, 2, none⟩ = some (.int .i64 t.keep) := hSw.2.2.2.1
                have z5 : w1.cell? ⟨g, off, none⟩ = some (.int .i64 c) := hSw.2.2.2.2
                clear hSw
                go_simp
                try with_reducible rfl
              (try go_frame)
              refine wpAnyH_take (i := 16) (v := ?vB3_17) rfl (by kernel_rfl) (by kernel_rfl) (by kernel_rfl) (fun _ _ _ h => h) (Or.inl ⟨by kernel_rfl, ?hB3_17⟩) hS ?rB3_17
              case hB3_17 =>
                intro w1 hSw
                have z1 : w1.cell? ⟨b, 0, none⟩ = some (.bool true) := hSw.1
                have z2 : w1.cell? ⟨b, 1, none⟩ = some (.slice (some ⟨g, off, none⟩) i cap) := hSw.2.1
                have z3 : w1.cell? ⟨H, 3, none⟩ = some (.int .i64 t.now) := hSw.2.2.1
                have z4 : w1.cell? ⟨H, 2, none⟩ = some (.int .i64 t.keep) := hSw.2.2.2.1
                have z5 : w1.cell? ⟨g, off, none⟩ = some (.int .i64 c) := hSw.2.2.2.2
                clear hSw
                go_simp
                try with_reducible rfl
              (try go_frame)
              refine wpAnyH_take (i := 17) (v := ?vB3_18) rfl (by kernel_rfl) (by kernel_rfl) (by kernel_rfl) (fun _ _ _ h => h) (Or.inl ⟨by kernel_rfl, ?hB3_18⟩) hS ?rB3_18
              case hB3_18 =>
                intro w1 hSw
                have z1 : w1.cell? ⟨b, 0, none⟩ = some (.bool true) := hSw.1
                have z2 : w1.cell? ⟨b, 1, none⟩ = some (.slice (some ⟨g, off, none⟩) i cap) := hSw.2.1
                have z3 : w1.cell? ⟨H, 3, none⟩ = some (.int .i64 t.now) := hSw.2.2.1
                have z4 : w1.cell? ⟨H, 2, none⟩ = some (.int .i64 t.keep) := hSw.2.2.2.1
                have z5 : w1.cell? ⟨g, off, none⟩ = some (.int .i64 c) := hSw.2.2.2.2
                clear hSw
                go_simp
                try with_reducible rfl
              (try go_frame)
              refine wpAnyH_take (i := 18) (v := ?vB3_19) rfl (by kernel_rfl) (by kernel_rfl) (by kernel_rfl) (fun _ _ _ h => h) (Or.inl ⟨by kernel_rfl, ?hB3_19⟩) hS ?rB3_19
              case hB3_19 =>
                intro w1 hSw
                have z1 : w1.cell? ⟨b, 0, none⟩ = some (.bool true) := hSw.1
                have z2 : w1.cell? ⟨b, 1, none⟩ = some (.slice (some ⟨g, off, none⟩) i cap) := hSw.2.1
                have z3 : w1.cell? ⟨H, 3, none⟩ = some (.int .i64 t.now) := hSw.2.2.1
                have z4 : w1.cell? ⟨H, 2, none⟩ = some (.int .i64 t.keep) := hSw.2.2.2.1
                have z5 : w1.cell? ⟨g, off, none⟩ = some (.int .i64 c) := hSw.2.2.2.2
                clear hSw
                go_simp
                try with_reducible rfl
              (try go_frame)
              refine wpAnyH_take (i := 19) (v := ?vB3_20) rfl (by kernel_rfl) (by kernel_rfl) (by kernel_rfl) (fun _ _ _ h => h) (Or.inl ⟨by kernel_rfl, ?hB3_20⟩) hS ?rB3_20
              case hB3_20 =>
                intro w1 hSw
                have z1 : w1.cell? ⟨b, 0, none⟩ = some (.bool true) := hSw.1
                have z2 : w1.cell? ⟨b, 1, none⟩ = some (.slice (some ⟨g, off, none⟩) i cap) := hSw.2.1
                have z3 : w1.cell? ⟨H, 3, none⟩ = some (.int .i64 t.now) := hSw.2.2.1
                have z4 : w1.cell? ⟨H, 2, none⟩ = some (.int .i64 t.keep) := hSw.2.2.2.1
                have z5 : w1.cell? ⟨g, off, none⟩ = some (.int .i64 c) := hSw.2.2.2.2
                clear hSw
                go_simp
                try with_reducible rfl
              (try go_frame)
              refine wpAnyH_take (i := 20) (v := ?vB3_21) rfl (by kernel_rfl) (by kernel_rfl) (by kernel_rfl) (fun _ _ _ h => h) (Or.inl ⟨by kernel_rfl, ?hB3_21⟩) hS ?rB3_21
              case hB3_21 =>
                intro w1 hSw
                have z1 : w1.cell? ⟨b, 0, none⟩ = some (.bool true) := hSw.1
                have z2 : w1.cell? ⟨b, 1, none⟩ = some (.slice (some ⟨g, off, none⟩) i cap) := hSw.2.1
                have z3 : w1.cell? ⟨H, 3, none⟩ = some (.int .i64 t.now) := hSw.2.2.1
                have z4 : w1.cell? ⟨H, 2, none⟩ = some (.int .i64 t.keep) := hSw.2.2.2.1
                have z5 : w1.cell? ⟨g, off, none⟩ = some (.int .i64 c) := hSw.2.2.2.2
                clear hSw
                go_simp
                try with_reducible rfl
              (try go_frame)
              refine wpAnyH_take (i := 21) (v := ?vB3_22) rfl (by kernel_rfl) (by kernel_rfl) (by kernel_rfl) (fun _ _ _ h => h) (Or.inl ⟨by kernel_rfl, ?hB3_22⟩) hS ?rB3_22
              case hB3_22 =>
                intro w1 hSw
                have z1 : w1.cell? ⟨b, 0, none⟩ = some (.bool true) := hSw.1
                have z2 : w1.cell? ⟨b, 1, none⟩ = some (.slice (some ⟨g, off, none⟩) i cap) := hSw.2.1
                have z3 : w1.cell? ⟨H, 3, none⟩ = some (.int .i64 t.now) := hSw.2.2.1
                have z4 : w1.cell? ⟨H, 2, none⟩ = some (.int .i64 t.keep) := hSw.2.2.2.1
                have z5 : w1.cell? ⟨g, off, none⟩ = some (.int .i64 c) := hSw.2.2.2.2
                clear hSw
                go_simp
                try with_reducible rfl
              (try go_frame)
              refine wpAnyH_take (i := 22) (v := ?vB3_23) rfl (by kernel_rfl) (by kernel_rfl) (by kernel_rfl) (fun _ _ _ h => h) (Or.inl ⟨by kernel_rfl, ?hB3_23⟩) hS ?rB3_23
              case hB3_23 =>
                intro w1 hSw
                have z1 : w1.cell? ⟨b, 0, none⟩ = some (.bool true) := hSw.1
                have z2 : w1.cell? ⟨b, 1, none⟩ = some (.slice (some ⟨g, off, none⟩) i cap) := hSw.2.1
                have z3 : w1.cell? ⟨H, 3, none⟩ = some (.int .i64 t.now) := hSw.2.2.1
                have z4 : w1.cell? ⟨H, 2, none⟩ = some (.int .i64 t.keep) := hSw.2.2.2.1
                have z5 : w1.cell? ⟨g, off, none⟩ = some (.int .i64 c) := hSw.2.2.2.2
                clear hSw
                go_simp
                try with_reducible rfl
              (try go_frame)
              refine wpAnyH_take (i := 23) (v := ?vB3_24) rfl (by kernel_rfl) (by kernel_rfl) (by kernel_rfl) (fun _ _ _ h => h) (Or.inl ⟨by kernel_rfl, ?hB3_24⟩) hS ?rB3_24
              case hB3_24 =>
                intro w1 hSw
                have z1 : w1.cell? ⟨b, 0, none⟩ = some (.bool true) := hSw.1
                have z2 : w1.cell? ⟨b, 1, none⟩ = some (.slice (some ⟨g, off, none⟩) i cap) := hSw.2.1
                have z3 : w1.cell? ⟨H, 3, none⟩ = some (.int .i64 t.now) := hSw.2.2.1
                have z4 : w1.cell? ⟨H, 2, none⟩ = some (.int .i64 t.keep) := hSw.2.2.2.1
                have z5 : w1.cell? ⟨g, off, none⟩ = some (.int .i64 c) := hSw.2.2.2.2
                clear hSw
                go_simp
                try with_reducible rfl
              (try go_frame)
              refine wpAnyH_take (i := 24) (v := ?vB3_25) rfl (by kernel_rfl) (by kernel_rfl) (by kernel_rfl) (fun _ _ _ h => h) (Or.inl ⟨by kernel_rfl, ?hB3_25⟩) hS ?rB3_25
              case hB3_25 =>
                intro w1 hSw
                have z1 : w1.cell? ⟨b, 0, none⟩ = some (.bool true) := hSw.1
                have z2 : w1.cell? ⟨b, 1, none⟩ = some (.slice (some ⟨g, off, none⟩) i cap) := hSw.2.1
                have z3 : w1.cell? ⟨H, 3, none⟩ = some (.int .i64 t.now) := hSw.2.2.1
                have z4 : w1.cell? ⟨H, 2, none⟩ = some (.int .i64 t.keep) := hSw.2.2.2.1
                have z5 : w1.cell? ⟨g, off, none⟩ = some (.int .i64 c) := hSw.2.2.2.2
                clear hSw
                go_simp
                try with_reducible rfl
              (try go_frame)
              refine wpAnyH_take (i := 25) (v := ?vB3_26) rfl (by kernel_rfl) (by kernel_rfl) (by kernel_rfl) (fun _ _ _ h => h) (Or.inl ⟨by kernel_rfl, ?hB3_26⟩) hS ?rB3_26
              case hB3_26 =>
                intro w1 hSw
                have z1 : w1.cell? ⟨b, 0, none⟩ = some (.bool true) := hSw.1
                have z2 : w1.cell? ⟨b, 1, none⟩ = some (.slice (some ⟨g, off, none⟩) i cap) := hSw.2.1
                have z3 : w1.cell? ⟨H, 3, none⟩ = some (.int .i64 t.now) := hSw.2.2.1
                have z4 : w1.cell? ⟨H, 2, none⟩ = some (.int .i64 t.keep) := hSw.2.2.2.1
                have z5 : w1.cell? ⟨g, off, none⟩ = some (.int .i64 c) := hSw.2.2.2.2
                clear hSw
                go_simp
                try with_reducible rfl
              (try go_frame)
              refine wpAnyH_take (i := 26) (v := ?vB3_27) rfl (by kernel_rfl) (by kernel_rfl) (by kernel_rfl) (fun _ _ _ h => h) (Or.inl ⟨by kernel_rfl, ?hB3_27⟩) hS ?rB3_27
              case hB3_27 =>
                intro w1 hSw
                have z1 : w1.cell? ⟨b, 0, none⟩ = some (.bool true) := hSw.1
                have z2 : w1.cell? ⟨b, 1, none⟩ = some (.slice (some ⟨g, off, none⟩) i cap) := hSw.2.1
                have z3 : w1.cell? ⟨H, 3, none⟩ = some (.int .i64 t.now) := hSw.2.2.1
                have z4 : w1.cell? ⟨H, 2, none⟩ = some (.int .i64 t.keep) := hSw.2.2.2.1
                have z5 : w1.cell? ⟨g, off, none⟩ = some (.int .i64 c) := hSw.2.2.2.2
                clear hSw
                go_simp
                try with_reducible rfl
              (try go_frame)
              refine wpAnyH_take (i := 27) (v := ?vB3_28) rfl (by kernel_rfl) (by kernel_rfl) (by kernel_rfl) (fun _ _ _ h => h) (Or.inl ⟨by kernel_rfl, ?hB3_28⟩) hS ?rB3_28
              case hB3_28 =>
                intro w1 hSw
                have z1 : w1.cell? ⟨b, 0, none⟩ = some (.bool true) := hSw.1
                have z2 : w1.cell? ⟨b, 1, none⟩ = some (.slice (some ⟨g, off, none⟩) i cap) := hSw.2.1
                have z3 : w1.cell? ⟨H, 3, none⟩ = some (.int .i64 t.now) := hSw.2.2.1
                have z4 : w1.cell? ⟨H, 2, none⟩ = some (.int .i64 t.keep) := hSw.2.2.2.1
                have z5 : w1.cell? ⟨g, off, none⟩ = some (.int .i64 c) := hSw.2.2.2.2
                clear hSw
                go_simp
                try with_reducible rfl
              (try go_frame)
              refine wpAnyH_take (i := 28) (v := ?vB3_29) rfl (by kernel_rfl) (by kernel_rfl) (by kernel_rfl) (fun _ _ _ h => h) (Or.inl ⟨by kernel_rfl, ?hB3_29⟩) hS ?rB3_29
              case hB3_29 =>
                intro w1 hSw
                have z1 : w1.cell? ⟨b, 0, none⟩ = some (.bool true) := hSw.1
                have z2 : w1.cell? ⟨b, 1, none⟩ = some (.slice (some ⟨g, off, none⟩) i cap) := hSw.2.1
                have z3 : w1.cell? ⟨H, 3, none⟩ = some (.int .i64 t.now) := hSw.2.2.1
                have z4 : w1.cell? ⟨H, 2, none⟩ = some (.int .i64 t.keep) := hSw.2.2.2.1
                have z5 : w1.cell? ⟨g, off, none⟩ = some (.int .i64 c) := hSw.2.2.2.2
                clear hSw
                go_simp
                try with_reducible rfl
              (try go_frame)
              refine wpAnyH_take (i := 29) (v := ?vB3_30) rfl (by kernel_rfl) (by kernel_rfl) (by kernel_rfl) (fun _ _ _ h => h) (Or.inl ⟨by kernel_rfl, ?hB3_30⟩) hS ?rB3_30
              case hB3_30 =>
                intro w1 hSw
                clear hSw
                go_simp
                try with_reducible rfl
              (try go_frame)
              refine wpAnyH_ready (rs := [30]) (by kernel_rfl) (by simp) (AllReadyH.cons rfl (fun K hK => ?_) AllReadyH.nil)
              go_simp
              refine (must_f _).mono ?_
              rintro e wm ⟨rfl, hw⟩
              rw [hw]
              clear hw wm
              exact ⟨rfl, .inr ⟨HX.out, rfl⟩, (by first | exact (Below.refl _ _).drew | exact below_drewN (Below.refl _ _).drew _ | exact (below_drewN (Below.refl _ _).drew _).drew | exact below_drewN (Below.refl _ _) _)⟩
          · have q5 : ((i : Int) == 1) = false := by rw [beq_eq_false_iff_ne]; omega
            have HX : Hid (¬ ChkT t x) := Lib.hid (fun h => h1 ((HE.out.1 h).2 (of_decide_eq_true q4)).2.1)
            clear h1
            go_wp2_with fail
            refine wp_region_held_drew (S := fun w' => w'.cell? ⟨b, 0, none⟩ = some (.bool true) ∧ w'.cell? ⟨b, 1, none⟩ = some (.slice (some ⟨g, off, none⟩) i cap) ∧ w'.cell? ⟨H, 3, none⟩ = some (.int .i64 t.now) ∧ w'.cell? ⟨H, 2, none⟩ = some (.int .i64 t.keep) ∧ w'.cell? ⟨g, off, none⟩ = some (.int .i64 c)) (by kernel_rfl) (⟨e0, e1, k3, k2, c0⟩) (fun hS => ?_)
            refine wpAnyH_take (i := 0) (v := ?vB4_1) rfl (by kernel_rfl) (by kernel_rfl) (by kernel_rfl) (fun _ _ _ h => h) (Or.inl ⟨by rfl, ?hB4_1⟩) hS ?rB4_1
            case hB4_1 =>
              intro w1 hSw
              clear hSw
              go_simp
              try with_reducible rfl
            (try go_frame)
            refine wpAnyH_take (i := 1) (v := ?vB4_2) rfl (by kernel_rfl) (by kernel_rfl) (by kernel_rfl) (fun _ _ _ h => h) (Or.inl ⟨by rfl, ?hB4_2⟩) hS ?rB4_2
            case hB4_2 =>
              intro w1 hSw
              clear hSw
              go_simp
              try with_reducible rfl
            (try go_frame)
            refine wpAnyH_take (i := 2) (v := ?vB4_3) rfl (by kernel_rfl) (by kernel_rfl) (by kernel_rfl) (fun _ _ _ h => h) (Or.inl ⟨by rfl, ?hB4_3⟩) hS ?rB4_3
            case hB4_3 =>
              intro w1 hSw
              clear hSw
              go_simp
              try with_reducible rfl
            (try go_frame)
            refine wpAnyH_take (i := 3) (v := ?vB4_4) rfl (by kernel_rfl) (by kernel_rfl) (by kernel_rfl) (fun _ _ _ h => h) (Or.inl ⟨by rfl, ?hB4_4⟩) hS ?rB4_4
            case hB4_4 =>
              intro w1 hSw
              have z1 : w1.cell? ⟨b, 0, none⟩ = some (.bool true) := hSw.1
              have z2 : w1.cell? ⟨b, 1, none⟩ = some (.slice (some ⟨g, off, none⟩) i cap) := hSw.2.1
              have z3 : w1.cell? ⟨H, 3, none⟩ = some (.int .i64 t.now) := hSw.2.2.1
              have z4 : w1.cell? ⟨H, 2, none⟩ = some (.int .i64 t.keep) := hSw.2.2.2.1
              have z5 : w1.cell? ⟨g, off, none⟩ = some (.int .i64 c) := hSw.2.2.2.2
              clear hSw
              go_simp
              try with_reducible rfl
            (try go_frame)
            refine wpAnyH_take (i := 4) (v := ?vB4_5) rfl (by kernel_rfl) (by kernel_rfl) (by kernel_rfl) (fun _ _ _ h => h) (Or.inl ⟨by rfl, ?hB4_5⟩) hS ?rB4_5
            case hB4_5 =>
              intro w1 hSw
              clear hSw
              go_simp
              try with_reducible rfl
            (try go_frame)
            refine wpAnyH_take (i := 5) (v := ?vB4_6) rfl (by kernel_rfl) (by kernel_rfl) (by kernel_rfl) (fun _ _ _ h => h) (Or.inl ⟨by kernel_rfl, ?hB4_6⟩) hS ?rB4_6
            case hB4_6 =>
              intro w1 hSw
              have z1 : w1.cell? ⟨b, 0, none⟩ = some (.bool true) := hSw.1
              have z2 : w1.cell? ⟨b, 1, none⟩ = some (.slice (some ⟨g, off, none⟩) i cap) := hSw.2.1
              have z3 : w1.cell? ⟨H, 3, none⟩ = some (.int .i64 t.now) := hSw.2.2.1
              have z4 : w1.cell? ⟨H, 2, none⟩ = some (.int .i64 t.keep) := hSw.2.2.2.1
              have z5 : w1.cell? ⟨g, off, none⟩ = some (.int .i64 c) := hSw.2.2.2.2
              clear hSw
              go_simp
              try with_reducible rfl
            (try go_frame)
            refine wpAnyH_take (i := 6) (v := ?vB4_7) rfl (by kernel_rfl) (by kernel_rfl) (by kernel_rfl) (fun _ _ _ h => h) (Or.inl ⟨by kernel_rfl, ?hB4_7⟩) hS ?rB4_7
            case hB4_7 =>
              intro w1 hSw
              have z1 : w1.cell? ⟨b, 0, none⟩ = some (.bool true) := hSw.1
              have z2 : w1.cell? ⟨b, 1, none⟩ = some (.slice (some ⟨g, off, none⟩) i cap) := hSw.2.1
              have z3 : w1.cell? ⟨H, 3, none⟩ = some (.int .i64 t.now) := hSw.2.2.1
              have z4 : w1.cell? ⟨H, 2, none⟩ = some (.int .i64 t.keep) := hSw.2.2.2.1
              have z5 : w1.cell? ⟨g, off, none⟩ = some (.int .i64 c) := hSw.2.2.2.2
              clear hSw
              go_simp
              try with_reducible rfl
            (try go_frame)
            refine wpAnyH_take (i := 7) (v := ?vB4_8) rfl (by kernel_rfl) (by kernel_rfl) (by kernel_rfl) (fun _ _ _ h => h) (Or.inl ⟨by kernel_rfl, ?hB4_8⟩) hS ?rB4_8
            case hB4_8 =>
              intro w1 hSw
              have z1 : w1.cell? ⟨b, 0, none⟩ = some (.bool true) := hSw.1
              have z2 : w1.cell? ⟨b, 1, none⟩ = some (.slice (some ⟨g, off, none⟩) i cap) := hSw.2.1
              have z3 : w1.cell? ⟨H, 3, none⟩ = some (.int .i64 t.now) := hSw.2.2.1
              have z4 : w1.cell? ⟨H, 2, none⟩ = some (.int .i64 t.keep) := hSw.2.2.2.1
              have z5 : w1.cell? ⟨g, off, none⟩ = some (.int .i64 c) := hSw.2.2.2.2
              clear hSw
              go_simp
              try with_reducible rfl
            (try go_frame)
            refine wpAnyH_take (i := 8) (v := ?vB4_9) rfl (by kernel_rfl) (by kernel_rfl) (by kernel_rfl) (fun _ _ _ h => h) (Or.inl ⟨by kernel_rfl, ?hB4_9⟩) hS ?rB4_9
            case hB4_9 =>
              intro w1 hSw
              have z1 : w1.cell? ⟨b, 0, none⟩ = some (.bool true) := hSw.1
              have z2 : w1.cell? ⟨b, 1, none⟩ = some (.slice (some ⟨g, off, none⟩) i cap) := hSw.2.1
              have z3 : w1.cell? ⟨H, 3, none⟩ = some (.int .i64 t.now) := hSw.2.2.1
              have z4 : w1.cell? ⟨H, 2, none⟩ = some (.int .i64 t.keep) := hSw.2.2.2.1
              have z5 : w1.cell? ⟨g, off, none⟩ = some (.int .i64 c) := hSw.2.2.2.2
              clear hSw
              go_simp
              try with_reducible rfl
            (try go_frame)
            refine wpAnyH_take (i := 9) (v := ?vB4_10) rfl (by kernel_rfl) (by kernel_rfl) (by kernel_rfl) (fun _ _ _ h => h) (Or.inl ⟨by kernel_rfl, ?hB4_10⟩) hS ?rB4_10
            case hB4_10 =>
              intro w1 hSw
              have z1 : w1.cell? ⟨b, 0, none⟩ = some (.bool true) := hSw.1
              have z2 : w1.cell? ⟨b, 1, none⟩ = some (.slice (some ⟨g, off, none⟩) i cap) := hSw.2.1
              have z3 : w1.cell? ⟨H, 3, none⟩ = some (.int .i64 t.now) := hSw.2.2.1
              have z4 : w1.cell? ⟨H, 2, none⟩ = some (.int .i64 t.keep) := hSw.2.2.2.1
              have z5 : w1.cell? ⟨g, off, none⟩ = some (.int .i64 c) := hSw.2.2.2.2
              clear hSw
              go_simp
              try with_reducible rfl
            (try go_frame)
            refine wpAnyH_take (i := 10) (v := ?vB4_11) rfl (by kernel_rfl) (by kernel_rfl) (by kernel_rfl) (fun _ _ _ h => h) (Or.inl ⟨by kernel_rfl, ?hB4_11⟩) hS ?rB4_11
            case hB4_11 =>
              intro w1 hSw
              have z1 : w1.cell? ⟨b, 0, none⟩ = some (.bool true) := hSw.1
              have z2 : w1.cell? ⟨b, 1, none⟩ = some (.slice (some ⟨g, off, none⟩) i cap) := hSw.2.1
              have z3 : w1.cell? ⟨H, 3, none⟩ = some (.int .i64 t.now) := hSw.2.2.1
              have z4 : w1.cell? ⟨H, 2, none⟩ = some (.int .i64 t.keep) := hSw.2.2.2.1
              have z5 : w1.cell? ⟨g, off, none⟩ = some (.int .i64 c) := hSw.2.2.2.2
              clear hSw
              go_simp
              try with_reducible rfl
            (try go_frame)
            refine wpAnyH_take (i := 11) (v := ?vB4_12) rfl (by kernel_rfl) (by kernel_rfl) (by kernel_rfl) (fun _ _ _ h => h) (Or.inl ⟨by kernel_rfl, ?hB4_12⟩) hS ?rB4_12
            case hB4_12 =>
              intro w1 hSw
              clear hSw
              go_simp
              try with_reducible rfl
            (try go_frame)
            refine wpAnyH_take (i := 12) (v := ?vB4_13) rfl (by kernel_rfl) (by kernel_rfl) (by kernel_rfl) (fun _ _ _ h => h) (Or.inl ⟨by kernel_rfl, ?hB4_13⟩) hS ?rB4_13
            case hB4_13 =>
              intro w1 hSw
              clear hSw
              go_simp
              try with_reducible rfl
            (try go_frame)
            refine wpAnyH_take (i := 13) (v := undef) rfl (by kernel_rfl) (by kernel_rfl) (by kernel_rfl) (fun _ _ _ h => h) (Or.inr ⟨by kernel_rfl, rfl⟩) hS ?rB4_14
            (try go_frame)
            refine wpAnyH_take (i := 14) (v := undef) rfl (by kernel_rfl) (by kernel_rfl) (by kernel_rfl) (fun _ _ _ h => h) (Or.inr ⟨by kernel_rfl, rfl⟩) hS ?rB4_15
            (try go_frame)
            refine wpAnyH_take (i := 15) (v := undef) rfl (by kernel_rfl) (by kernel_rfl) (by kernel_rfl) (fun _ _ _ h => h) (Or.inr ⟨by kernel_rfl, rfl⟩) hS ?rB4_16
            (try go_frame)
            refine wpAnyH_take (i := 16) (v := undef) rfl (by kernel_rfl) (by kernel_rfl) (by kernel_rfl) (fun _ _ _ h => h) (Or.inr ⟨by kernel_rfl, rfl⟩) hS ?rB4_17
            (try go_frame)
            refine wpAnyH_take (i := 17) (v := undef) rfl (by kernel_rfl) (by kernel_rfl) (by kernel_rfl) (fun _ _ _ h => h) (Or.inr ⟨by kernel_rfl, rfl⟩) hS ?rB4_18
            (try go_frame)
            refine wpAnyH_take (i := 18) (v := undef) rfl (by kernel_rfl) (by kernel_rfl) (by kernel_rfl) (fun _ _ _ h => h) (Or.inr ⟨by kernel_rfl, rfl⟩) hS ?rB4_19
            (try go_frame)
            refine wpAnyH_take (i := 19) (v := undef) rfl (by kernel_rfl) (by kernel_rfl) (by kernel_rfl) (fun _ _ _ h => h) (Or.inr ⟨by kernel_rfl, rfl⟩) hS ?rB4_20
            (try go_frame)
            refine wpAnyH_take (i := 20) (v := undef) rfl (by kernel_rfl) (by kernel_rfl) (by kernel_rfl) (fun _ _ _ h => h) (Or.inr ⟨by kernel_rfl, rfl⟩) hS ?rB4_21
            (try go_frame)
            refine wpAnyH_take (i := 21) (v := undef) rfl (by kernel_rfl) (by kernel_rfl) (by kernel_rfl) (fun _ _ _ h => h) (Or.inr ⟨by kernel_rfl, rfl⟩) hS ?rB4_22
            (try go_frame)
            refine wpAnyH_take (i := 22) (v := undef) rfl (by kernel_rfl) (by kernel_rfl) (by kernel_rfl) (fun _ _ _ h => h) (Or.inr ⟨by kernel_rfl, rfl⟩) hS ?rB4_23
            (try go_frame)
            refine wpAnyH_take (i := 23) (v := undef) rfl (by kernel_rfl) (by kernel_rfl) (by kernel_rfl) (fun _ _ _ h => h) (Or.inr ⟨by kernel_rfl, rfl⟩) hS ?rB4_24
            (try go_frame)
            refine wpAnyH_take (i := 24) (v := undef) rfl (by kernel_rfl) (by kernel_rfl) (by kernel_rfl) (fun _ _ _ h => h) (Or.inr ⟨by kernel_rfl, rfl⟩) hS ?rB4_25
            (try go_frame)
            refine wpAnyH_take (i := 25) (v := undef) rfl (by kernel_rfl) (by kernel_rfl) (by kernel_rfl) (fun _ _ _ h => h) (Or.inr ⟨by kernel_rfl, rfl⟩) hS ?rB4_26
            (try go_frame)
            refine wpAnyH_take (i := 26) (v := undef) rfl (by kernel_rfl) (by kernel_rfl) (by kernel_rfl) (fun _ _ _ h => h) (Or.inr ⟨by kernel_rfl, rfl⟩) hS ?rB4_27
            (try go_frame)
            refine wpAnyH_take (i := 27) (v := undef) rfl (by kernel_rfl) (by kernel_rfl) (by kernel_rfl) (fun _ _ _ h => h) (Or.inr ⟨by kernel_rfl, rfl⟩) hS ?rB4_28
            (try go_frame)
            refine wpAnyH_take (i := 28) (v := undef) rfl (by kernel_rfl) (by kernel_rfl) (by kernel_rfl) (fun _ _ _ h => h) (Or.inr ⟨by kernel_rfl, rfl⟩) hS ?rB4_29
            (try go_frame)
            refine wpAnyH_take (i := 29) (v := ?vB4_30) rfl (by kernel_rfl) (by kernel_rfl) (by kernel_rfl) (fun _ _ _ h => h) (Or.inl ⟨by kernel_rfl, ?hB4_30⟩) hS ?rB4_30
            case hB4_30 =>
              intro w1 hSw
              clear hSw
              go_simp
              try with_reducible rfl
            (try go_frame)
            refine wpAnyH_ready (rs := [30]) (by kernel_rfl) (by simp) (AllReadyH.cons rfl (fun K hK => ?_) AllReadyH.nil)
            go_simp
            refine (must_f _).mono ?_
            rintro e wm ⟨rfl, hw⟩
            rw [hw]
            clear hw wm
            exact ⟨rfl, .inr ⟨HX.out, rfl⟩, (by first | exact (Below.refl _ _).drew | exact below_drewN (Below.refl _ _).drew _ | exact (below_drewN (Below.refl _ _).drew _).drew | exact below_drewN (Below.refl _ _) _)⟩
      | false =>
        rw [qk] at e0
        have HQ := Lib.hid qk
        clear qk
        cases q3 : decide ((i : Int) < t.need) with
        | false =>
          have HX : Hid (¬ ChkT t x) := Lib.hid (fun h => by rcases (HE.out.1 h).1 with h | h; exact absurd (HQ.out.symm.trans h) (by decide); exact of_decide_eq_false q3 h)
          go_wp2_with fail
          refine wp_region_held_drew (S := fun w' => w'.cell? ⟨b, 0, none⟩ = some (.bool false) ∧ w'.cell? ⟨b, 1, none⟩ = some (.slice (some ⟨g, off, none⟩) i cap) ∧ w'.cell? ⟨H, 0, none⟩ = some (.int .i64 t.need)) (by kernel_rfl) (⟨e0, e1, k0⟩) (fun hS => ?_)
          refine wpAnyH_take (i := 0) (v := ?vA5_1) rfl (by kernel_rfl) (by kernel_rfl) (by kernel_rfl) (fun _ _ _ h => h) (Or.inl ⟨by rfl, ?hA5_1⟩) hS ?rA5_1
          case hA5_1 =>
            intro w1 hSw
            clear hSw
            go_simp
            try with_reducible rfl
          (try go_frame)
          refine wpAnyH_take (i := 1) (v := ?vA5_2) rfl (by kernel_rfl) (by kernel_rfl) (by kernel_rfl) (fun _ _ _ h => h) (Or.inl ⟨by rfl, ?hA5_2⟩) hS ?rA5_2
          case hA5_2 =>
            intro w1 hSw
            clear hSw
            go_simp
            try with_reducible rfl
          (try go_frame)
          refine wpAnyH_take (i := 2) (v := ?vA5_3) rfl (by kernel_rfl) (by kernel_rfl) (by kernel_rfl) (fun _ _ _ h => h) (Or.inl ⟨by rfl, ?hA5_3⟩) hS ?rA5_3
          case hA5_3 =>
            intro w1 hSw
            clear hSw
            go_simp
            try with_reducible rfl
          (try go_frame)
          refine wpAnyH_take (i := 3) (v := ?vA5_4) rfl (by kernel_rfl) (by kernel_rfl) (by kernel_rfl) (fun _ _ _ h => h) (Or.inl ⟨by rfl, ?hA5_4⟩) hS ?rA5_4
          case hA5_4 =>
            intro w1 hSw
            have z1 : w1.cell? ⟨b, 0, none⟩ = some (.bool false) := hSw.1
            have z2 : w1.cell? ⟨b, 1, none⟩ = some (.slice (some ⟨g, off, none⟩) i cap) := hSw.2.1
            have z3 : w1.cell? ⟨H, 0, none⟩ = some (.int .i64 t.need) := hSw.2.2
            clear hSw
            go_simp
            try with_reducible rfl
          (try go_frame)
          refine wpAnyH_take (i := 4) (v := ?vA5_5) rfl (by kernel_rfl) (by kernel_rfl) (by kernel_rfl) (fun _ _ _ h => h) (Or.inl ⟨by rfl, ?hA5_5⟩) hS ?rA5_5
          case hA5_5 =>
            intro w1 hSw
            clear hSw
            go_simp
            try with_reducible rfl
          (try go_frame)
          refine wpAnyH_take (i := 5) (v := ?vA5_6) rfl (by kernel_rfl) (by kernel_rfl) (by kernel_rfl) (fun _ _ _ h => h) (Or.inl ⟨by kernel_rfl, ?hA5_6⟩) hS ?rA5_6
          case hA5_6 =>
            intro w1 hSw
            have z1 : w1.cell? ⟨b, 0, none⟩ = some (.bool false) := hSw.1
            have z2 : w1.cell? ⟨b, 1, none⟩ = some (.slice (some ⟨g, off, none⟩) i cap) := hSw.2.1
            have z3 : w1.cell? ⟨H, 0, none⟩ = some (.int .i64 t.need) := hSw.2.2
            clear hSw
            go_simp
            try with_reducible rfl
          (try go_frame)
          refine wpAnyH_take (i := 6) (v := ?vA5_7) rfl (by kernel_rfl) (by kernel_rfl) (by kernel_rfl) (fun _ _ _ h => h) (Or.inl ⟨by kernel_rfl, ?hA5_7⟩) hS ?rA5_7
          case hA5_7 =>
            intro w1 hSw
            have z1 : w1.cell? ⟨b, 0, none⟩ = some (.bool false) := hSw.1
            have z2 : w1.cell? ⟨b, 1, none⟩ = some (.slice (some ⟨g, off, none⟩) i cap) := hSw.2.1
            have z3 : w1.cell? ⟨H, 0, none⟩ = some (.int .i64 t.need) := hSw.2.2
            clear hSw
            go_simp
            try with_reducible rfl
          (try go_frame)
          refine wpAnyH_take (i := 7) (v := ?vA5_8) rfl (by kernel_rfl) (by kernel_rfl) (by kernel_rfl) (fun _ _ _ h => h) (Or.inl ⟨by kernel_rfl, ?hA5_8⟩) hS ?rA5_8
          case hA5_8 =>
            intro w1 hSw
            have z1 : w1.cell? ⟨b, 0, none⟩ = some (.bool false) := hSw.1
            have z2 : w1.cell? ⟨b, 1, none⟩ = some (.slice (some ⟨g, off, none⟩) i cap) := hSw.2.1
            have z3 : w1.cell? ⟨H, 0, none⟩ = some (.int .i64 t.need) := hSw.2.2
            clear hSw
            go_simp
            try with_reducible rfl
          (try go_frame)
          refine wpAnyH_take (i := 8) (v := ?vA5_9) rfl (by kernel_rfl) (by kernel_rfl) (by kernel_rfl) (fun _ _ _ h => h) (Or.inl ⟨by kernel_rfl, ?hA5_9⟩) hS ?rA5_9
          case hA5_9 =>
            intro w1 hSw
            have z1 : w1.cell? ⟨b, 0, none⟩ = some (.bool false) := hSw.1
            have z2 : w1.cell? ⟨b, 1, none⟩ = some (.slice (some ⟨g, off, none⟩) i cap) := hSw.2.1
            have z3 : w1.cell? ⟨H, 0, none⟩ = some (.int .i64 t.need) := hSw.2.2
            clear hSw
            go_simp
            try with_reducible rfl
          (try go_frame)
          refine wpAnyH_take (i := 9) (v := ?vA5_10) rfl (by kernel_rfl) (by kernel_rfl) (by kernel_rfl) (fun _ _ _ h => h) (Or.inl ⟨by kernel_rfl, ?hA5_10⟩) hS ?rA5_10
          case hA5_10 =>
            intro w1 hSw
            have z1 : w1.cell? ⟨b, 0, none⟩ = some (.bool false) := hSw.1
            have z2 : w1.cell? ⟨b, 1, none⟩ = some (.slice (some ⟨g, off, none⟩) i cap) := hSw.2.1
            have z3 : w1.cell? ⟨H, 0, none⟩ = some (.int .i64 t.need) := hSw.2.2
            clear hSw
            go_simp
            try with_reducible rfl
          (try go_frame)
          refine wpAnyH_take (i := 10) (v := ?vA5_11) rfl (by kernel_rfl) (by kernel_rfl) (by kernel_rfl) (fun _ _ _ h => h) (Or.inl ⟨by kernel_rfl, ?hA5_11⟩) hS ?rA5_11
          case hA5_11 =>
            intro w1 hSw
            have z1 : w1.cell? ⟨b, 0, none⟩ = some (.bool false) := hSw.1
            have z2 : w1.cell? ⟨b, 1, none⟩ = some (.slice (some ⟨g, off, none⟩) i cap) := hSw.2.1
            have z3 : w1.cell? ⟨H, 0, none⟩ = some (.int .i64 t.need) := hSw.2.2
            clear hSw
            go_simp
            try with_reducible rfl
          (try go_frame)
          refine wpAnyH_take (i := 11) (v := ?vA5_12) rfl (by kernel_rfl) (by kernel_rfl) (by kernel_rfl) (fun _ _ _ h => h) (Or.inl ⟨by kernel_rfl, ?hA5_12⟩) hS ?rA5_12
          case hA5_12 =>
            intro w1 hSw
            have z1 : w1.cell? ⟨b, 0, none⟩ = some (.bool false) := hSw.1
            have z2 : w1.cell? ⟨b, 1, none⟩ = some (.slice (some ⟨g, off, none⟩) i cap) := hSw.2.1
            have z3 : w1.cell? ⟨H, 0, none⟩ = some (.int .i64 t.need) := hSw.2.2
            clear hSw
            go_simp
            try with_reducible rfl
          (try go_frame)
          refine wpAnyH_take (i := 12) (v := ?vA5_13) rfl (by kernel_rfl) (by kernel_rfl) (by kernel_rfl) (fun _ _ _ h => h) (Or.inl ⟨by kernel_rfl, ?hA5_13⟩) hS ?rA5_13
          case hA5_13 =>
            intro w1 hSw
            have z1 : w1.cell? ⟨b, 0, none⟩ = some (.bool false) := hSw.1
            have z2 : w1.cell? ⟨b, 1, none⟩ = some (.slice (some ⟨g, off, none⟩) i cap) := hSw.2.1
            have z3 : w1.cell? ⟨H, 0, none⟩ = some (.int .i64 t.need) := hSw.2.2
            clear hSw
            go_simp
            try with_reducible rfl
          (try go_frame)
          refine wpAnyH_take (i := 13) (v := ?vA5_14) rfl (by kernel_rfl) (by kernel_rfl) (by kernel_rfl) (fun _ _ _ h => h) (Or.inl ⟨by kernel_rfl, ?hA5_14⟩) hS ?rA5_14
          case hA5_14 =>
            intro w1 hSw
            have z1 : w1.cell? ⟨b, 0, none⟩ = some (.bool false) := hSw.1
            have z2 : w1.cell? ⟨b, 1, none⟩ = some (.slice (some ⟨g, off, none⟩) i cap) := hSw.2.1
            have z3 : w1.cell? ⟨H, 0, none⟩ = some (.int .i64 t.need) := hSw.2.2
            clear hSw
            go_simp
            try with_reducible rfl
          (try go_frame)
          refine wpAnyH_take (i := 14) (v := ?vA5_15) rfl (by kernel_rfl) (by kernel_rfl) (by kernel_rfl) (fun _ _ _ h => h) (Or.inl ⟨by kernel_rfl, ?hA5_15⟩) hS ?rA5_15
          case hA5_15 =>
            intro w1 hSw
            have z1 : w1.cell? ⟨b, 0, none⟩ = some (.bool false) := hSw.1
            have z2 : w1.cell? ⟨b, 1, none⟩ = some (.slice (some ⟨g, off, none⟩) i cap) := hSw.2.1
            have z3 : w1.cell? ⟨H, 0, none⟩ = some (.int .i64 t.need) := hSw.2.2
            clear hSw
            go_simp
            try with_reducible rfl
          (try go_frame)
          refine wpAnyH_take (i := 15) (v := ?vA5_16) rfl (by kernel_rfl) (by kernel_rfl) (by kernel_rfl) (fun _ _ _ h => h) (Or.inl ⟨by kernel_rfl, ?hA5_16⟩) hS ?rA5_16
          case hA5_16 =>
            intro w1 hSw
            clear hSw
            go_simp
            try with_reducible rfl
          (try go_frame)
          refine wpAnyH_ready (rs := [16]) (by kernel_rfl) (by simp) (AllReadyH.cons rfl (fun K hK => ?_) AllReadyH.nil)
          go_simp
          refine (must_f _).mono ?_
          rintro e wm ⟨rfl, hw⟩
          rw [hw]
          clear hw wm
          exact ⟨rfl, .inr ⟨HX.out, rfl⟩, (by first | exact (Below.refl _ _).drew | exact below_drewN (Below.refl _ _).drew _ | exact (below_drewN (Below.refl _ _).drew _).drew | exact below_drewN (Below.refl _ _) _)⟩
        | true =>
          go_wp2_with fail
          refine wp_region_held_drew (S := fun w' => w'.cell? ⟨b, 0, none⟩ = some (.bool false) ∧ w'.cell? ⟨b, 1, none⟩ = some (.slice (some ⟨g, off, none⟩) i cap) ∧ w'.cell? ⟨H, 0, none⟩ = some (.int .i64 t.need)) (by kernel_rfl) (⟨e0, e1, k0⟩) (fun hS => ?_)
          refine wpAnyH_take (i := 0) (v := ?vA6_1) rfl (by kernel_rfl) (by kernel_rfl) (by kernel_rfl) (fun _ _ _ h => h) (Or.inl ⟨by rfl, ?hA6_1⟩) hS ?rA6_1
          case hA6_1 =>
            intro w1 hSw
            clear hSw
            go_simp
            try with_reducible rfl
          (try go_frame)
          refine wpAnyH_take (i := 1) (v := ?vA6_2) rfl (by kernel_rfl) (by kernel_rfl) (by kernel_rfl) (fun _ _ _ h => h) (Or.inl ⟨by rfl, ?hA6_2⟩) hS ?rA6_2
          case hA6_2 =>
            intro w1 hSw
            clear hSw
            go_simp
            try with_reducible rfl
          (try go_frame)
          refine wpAnyH_take (i := 2) (v := ?vA6_3) rfl (by kernel_rfl) (by kernel_rfl) (by kernel_rfl) (fun _ _ _ h => h) (Or.inl ⟨by rfl, ?hA6_3⟩) hS ?rA6_3
          case hA6_3 =>
            intro w1 hSw
            clear hSw
            go_simp
            try with_reducible rfl
          (try go_frame)
          refine wpAnyH_take (i := 3) (v := ?vA6_4) rfl (by kernel_rfl) (by kernel_rfl) (by kernel_rfl) (fun _ _ _ h => h) (Or.inl ⟨by rfl, ?hA6_4⟩) hS ?rA6_4
          case hA6_4 =>
            intro w1 hSw
            have z1 : w1.cell? ⟨b, 0, none⟩ = some (.bool false) := hSw.1
            have z2 : w1.cell? ⟨b, 1, none⟩ = some (.slice (some ⟨g, off, none⟩) i cap) := hSw.2.1
            have z3 : w1.cell? ⟨H, 0, none⟩ = some (.int .i64 t.need) := hSw.2.2
            clear hSw
            go_simp
            try with_reducible rfl
          (try go_frame)
          refine wpAnyH_take (i := 4) (v := ?vA6_5) rfl (by kernel_rfl) (by kernel_rfl) (by kernel_rfl) (fun _ _ _ h => h) (Or.inl ⟨by rfl, ?hA6_5⟩) hS ?rA6_5
          case hA6_5 =>
            intro w1 hSw
            clear hSw
            go_simp
            try with_reducible rfl
          (try go_frame)
          refine wpAnyH_take (i := 5) (v := ?vA6_6) rfl (by kernel_rfl) (by kernel_rfl) (by kernel_rfl) (fun _ _ _ h => h) (Or.inl ⟨by kernel_rfl, ?hA6_6⟩) hS ?rA6_6
          case hA6_6 =>
            intro w1 hSw
            have z1 : w1.cell? ⟨b, 0, none⟩ = some (.bool false) := hSw.1
            have z2 : w1.cell? ⟨b, 1, none⟩ = some (.slice (some ⟨g, off, none⟩) i cap) := hSw.2.1
            have z3 : w1.cell? ⟨H, 0, none⟩ = some (.int .i64 t.need) := hSw.2.2
            clear hSw
            go_simp
            try with_reducible rfl
          (try go_frame)
          refine wpAnyH_take (i := 6) (v := ?vA6_7) rfl (by kernel_rfl) (by kernel_rfl) (by kernel_rfl) (fun _ _ _ h => h) (Or.inl ⟨by kernel_rfl, ?hA6_7⟩) hS ?rA6_7
          case hA6_7 =>
            intro w1 hSw
            have z1 : w1.cell? ⟨b, 0, none⟩ = some (.bool false) := hSw.1
            have z2 : w1.cell? ⟨b, 1, none⟩ = some (.slice (some ⟨g, off, none⟩) i cap) := hSw.2.1
            have z3 : w1.cell? ⟨H, 0, none⟩ = some (.int .i64 t.need) := hSw.2.2
            clear hSw
            go_simp
            try with_reducible rfl
          (try go_frame)
          refine wpAnyH_take (i := 7) (v := ?vA6_8) rfl (by kernel_rfl) (by kernel_rfl) (by kernel_rfl) (fun _ _ _ h => h) (Or.inl ⟨by kernel_rfl, ?hA6_8⟩) hS ?rA6_8
          case hA6_8 =>
            intro w1 hSw
            have z1 : w1.cell? ⟨b, 0, none⟩ = some (.bool false) := hSw.1
            have z2 : w1.cell? ⟨b, 1, none⟩ = some (.slice (some ⟨g, off, none⟩) i cap) := hSw.2.1
            have z3 : w1.cell? ⟨H, 0, none⟩ = some (.int .i64 t.need) := hSw.2.2
            clear hSw
            go_simp
            try with_reducible rfl
          (try go_frame)
          refine wpAnyH_take (i := 8) (v := ?vA6_9) rfl (by kernel_rfl) (by kernel_rfl) (by kernel_rfl) (fun _ _ _ h => h) (Or.inl ⟨by kernel_rfl, ?hA6_9⟩) hS ?rA6_9
          case hA6_9 =>
            intro w1 hSw
            have z1 : w1.cell? ⟨b, 0, none⟩ = some (.bool false) := hSw.1
            have z2 : w1.cell? ⟨b, 1, none⟩ = some (.slice (some ⟨g, off, none⟩) i cap) := hSw.2.1
            have z3 : w1.cell? ⟨H, 0, none⟩ = some (.int .i64 t.need) := hSw.2.2
            clear hSw
            go_simp
            try with_reducible rfl
          (try go_frame)
          refine wpAnyH_take (i := 9) (v := ?vA6_10) rfl (by kernel_rfl) (by kernel_rfl) (by kernel_rfl) (fun _ _ _ h => h) (Or.inl ⟨by kernel_rfl, ?hA6_10⟩) hS ?rA6_10
          case hA6_10 =>
            intro w1 hSw
            have z1 : w1.cell? ⟨b, 0, none⟩ = some (.bool false) := hSw.1
            have z2 : w1.cell? ⟨b, 1, none⟩ = some (.slice (some ⟨g, off, none⟩) i cap) := hSw.2.1
            have z3 : w1.cell? ⟨H, 0, none⟩ = some (.int .i64 t.need) := hSw.2.2
            clear hSw
            go_simp
            try with_reducible rfl
          (try go_frame)
          refine wpAnyH_take (i := 10) (v := ?vA6_11) rfl (by kernel_rfl) (by kernel_rfl) (by kernel_rfl) (fun _ _ _ h => h) (Or.inl ⟨by kernel_rfl, ?hA6_11⟩) hS ?rA6_11
          case hA6_11 =>
            intro w1 hSw
            have z1 : w1.cell? ⟨b, 0, none⟩ = some (.bool false) := hSw.1
            have z2 : w1.cell? ⟨b, 1, none⟩ = some (.slice (some ⟨g, off, none⟩) i cap) := hSw.2.1
            have z3 : w1.cell? ⟨H, 0, none⟩ = some (.int .i64 t.need) := hSw.2.2
            clear hSw
            go_simp
            try with_reducible rfl
          (try go_frame)
          refine wpAnyH_take (i := 11) (v := ?vA6_12) rfl (by kernel_rfl) (by kernel_rfl) (by kernel_rfl) (fun _ _ _ h => h) (Or.inl ⟨by kernel_rfl, ?hA6_12⟩) hS ?rA6_12
          case hA6_12 =>
            intro w1 hSw
            have z1 : w1.cell? ⟨b, 0, none⟩ = some (.bool false) := hSw.1
            have z2 : w1.cell? ⟨b, 1, none⟩ = some (.slice (some ⟨g, off, none⟩) i cap) := hSw.2.1
            have z3 : w1.cell? ⟨H, 0, none⟩ = some (.int .i64 t.need) := hSw.2.2
            clear hSw
            go_simp
            try with_reducible rfl
          (try go_frame)
          refine wpAnyH_take (i := 12) (v := ?vA6_13) rfl (by kernel_rfl) (by kernel_rfl) (by kernel_rfl) (fun _ _ _ h => h) (Or.inl ⟨by kernel_rfl, ?hA6_13⟩) hS ?rA6_13
          case hA6_13 =>
            intro w1 hSw
            have z1 : w1.cell? ⟨b, 0, none⟩ = some (.bool false) := hSw.1
            have z2 : w1.cell? ⟨b, 1, none⟩ = some (.slice (some ⟨g, off, none⟩) i cap) := hSw.2.1
            have z3 : w1.cell? ⟨H, 0, none⟩ = some (.int .i64 t.need) := hSw.2.2
            clear hSw
            go_simp
            try with_reducible rfl
          (try go_frame)
          refine wpAnyH_take (i := 13) (v := ?vA6_14) rfl (by kernel_rfl) (by kernel_rfl) (by kernel_rfl) (fun _ _ _ h => h) (Or.inl ⟨by kernel_rfl, ?hA6_14⟩) hS ?rA6_14
          case hA6_14 =>
            intro w1 hSw
            have z1 : w1.cell? ⟨b, 0, none⟩ = some (.bool false) := hSw.1
            have z2 : w1.cell? ⟨b, 1, none⟩ = some (.slice (some ⟨g, off, none⟩) i cap) := hSw.2.1
            have z3 : w1.cell? ⟨H, 0, none⟩ = some (.int .i64 t.need) := hSw.2.2
            clear hSw
            go_simp
            try with_reducible rfl
          (try go_frame)
          refine wpAnyH_take (i := 14) (v := ?vA6_15) rfl (by kernel_rfl) (by kernel_rfl) (by kernel_rfl) (fun _ _ _ h => h) (Or.inl ⟨by kernel_rfl, ?hA6_15⟩) hS ?rA6_15
          case hA6_15 =>
            intro w1 hSw
            have z1 : w1.cell? ⟨b, 0, none⟩ = some (.bool false) := hSw.1
            have z2 : w1.cell? ⟨b, 1, none⟩ = some (.slice (some ⟨g, off, none⟩) i cap) := hSw.2.1
            have z3 : w1.cell? ⟨H, 0, none⟩ = some (.int .i64 t.need) := hSw.2.2
            clear hSw
            go_simp
            try with_reducible rfl
          (try go_frame)
          refine wpAnyH_take (i := 15) (v := ?vA6_16) rfl (by kernel_rfl) (by kernel_rfl) (by kernel_rfl) (fun _ _ _ h => h) (Or.inl ⟨by kernel_rfl, ?hA6_16⟩) hS ?rA6_16
          case hA6_16 =>
            intro w1 hSw
            clear hSw
            go_simp
            try with_reducible rfl
          (try go_frame)
          refine wpAnyH_ready (rs := [16]) (by kernel_rfl) (by simp) (AllReadyH.cons rfl (fun K hK => ?_) AllReadyH.nil)
          go_simp
          refine (must_t _).mono ?_
          rintro e wm ⟨rfl, hw⟩
          rw [hw]
          clear hw wm
          refine hK.out _ _ (hS) (fun hS => ?_)
          clear hK K
          refine wpAnyH_done (by kernel_rfl) ?_ _
          go_wp2_with fail
          go_quiet (fail)
          cases q4 : decide (t.win ≤ t.now - c) with
          | false =>
            have HX : Hid (ChkT t x) := Lib.hid (HE.out.2 ⟨.inr (of_decide_eq_true q3), fun h => absurd h (of_decide_eq_false q4)⟩)
            go_wp2_with fail
            go_end0
            exact ⟨.inl ⟨HX.out, rfl⟩, (by first | exact (Below.refl _ _).drew | exact below_drewN (Below.refl _ _).drew _ | exact (below_drewN (Below.refl _ _).drew _).drew | exact below_drewN (Below.refl _ _) _)⟩
          | true =>
            have HX : Hid (¬ ChkT t x) := Lib.hid (fun h => absurd (HQ.out.symm.trans ((HE.out.1 h).2 (of_decide_eq_true q4)).1) (by decide))
            go_wp2_with fail
            refine wp_region_held_drew (S := fun w' => w'.cell? ⟨b, 0, none⟩ = some (.bool false) ∧ w'.cell? ⟨b, 1, none⟩ = some (.slice (some ⟨g, off, none⟩) i cap) ∧ w'.cell? ⟨H, 3, none⟩ = some (.int .i64 t.now) ∧ w'.cell? ⟨H, 2, none⟩ = some (.int .i64 t.keep) ∧ w'.cell? ⟨g, off, none⟩ = some (.int .i64 c)) (by kernel_rfl) (⟨e0, e1, k3, k2, c0⟩) (fun hS => ?_)
            refine wpAnyH_take (i := 0) (v := ?vB7_1) rfl (by kernel_rfl) (by kernel_rfl) (by kernel_rfl) (fun _ _ _ h => h) (Or.inl ⟨by rfl, ?hB7_1⟩) hS ?rB7_1
            case hB7_1 =>
              intro w1 hSw
              clear hSw
              go_simp
              try with_reducible rfl
            (try go_frame)
            refine wpAnyH_take (i := 1) (v := ?vB7_2) rfl (by kernel_rfl) (by kernel_rfl) (by kernel_rfl) (fun _ _ _ h => h) (Or.inl ⟨by rfl, ?hB7_2⟩) hS ?rB7_2
            case hB7_2 =>
              intro w1 hSw
              clear hSw
              go_simp
              try with_reducible rfl
            (try go_frame)
            refine wpAnyH_take (i := 2) (v := ?vB7_3) rfl (by kernel_rfl) (by kernel_rfl) (by kernel_rfl) (fun _ _ _ h => h) (Or.inl ⟨by rfl, ?hB7_3⟩) hS ?rB7_3
            case hB7_3 =>
              intro w1 hSw
              clear hSw
              go_simp
              try with_reducible rfl
            (try go_frame)
            refine wpAnyH_take (i := 3) (v := ?vB7_4) rfl (by kernel_rfl) (by kernel_rfl) (by kernel_rfl) (fun _ _ _ h => h) (Or.inl ⟨by rfl, ?hB7_4⟩) hS ?rB7_4
            case hB7_4 =>
              intro w1 hSw
              have z1 : w1.cell? ⟨b, 0, none⟩ = some (.bool false) := hSw.1
              have z2 : w1.cell? ⟨b, 1, none⟩ = some (.slice (some ⟨g, off, none⟩) i cap) := hSw.2.1
              have z3 : w1.cell? ⟨H, 3, none⟩ = some (.int .i64 t.now) := hSw.2.2.1
              have z4 : w1.cell? ⟨H, 2, none⟩ = some (.int .i64 t.keep) := hSw.2.2.2.1
              have z5 : w1.cell? ⟨g, off, none⟩ = some (.int .i64 c) := hSw.2.2.2.2
              clear hSw
              go_simp
              try with_reducible rfl
            (try go_frame)
            refine wpAnyH_take (i := 4) (v := ?vB7_5) rfl (by kernel_rfl) (by kernel_rfl) (by kernel_rfl) (fun _ _ _ h => h) (Or.inl ⟨by rfl, ?hB7_5⟩) hS ?rB7_5
            case hB7_5 =>
              intro w1 hSw
              clear hSw
              go_simp
              try with_reducible rfl
            (try go_frame)
            refine wpAnyH_take (i := 5) (v := undef) rfl (by kernel_rfl) (by kernel_rfl) (by kernel_rfl) (fun _ _ _ h => h) (Or.inr ⟨by kernel_rfl, rfl⟩) hS ?rB7_6
            (try go_frame)
            refine wpAnyH_take (i := 6) (v := undef) rfl (by kernel_rfl) (by kernel_rfl) (by kernel_rfl) (fun _ _ _ h => h) (Or.inr ⟨by kernel_rfl, rfl⟩) hS ?rB7_7
            (try go_frame)
            refine wpAnyH_take (i := 7) (v := undef) rfl (by kernel_rfl) (by kernel_rfl) (by kernel_rfl) (fun _ _ _ h => h) (Or.inr ⟨by kernel_rfl, rfl⟩) hS ?rB7_8
            (try go_frame)
            refine wpAnyH_take (i := 8) (v := undef) rfl (by kernel_rfl) (by kernel_rfl) (by kernel_rfl) (fun _ _ _ h => h) (Or.inr ⟨by kernel_rfl, rfl⟩) hS ?rB7_9
            (try go_frame)
            refine wpAnyH_take (i := 9) (v := undef) rfl (by kernel_rfl) (by kernel_rfl) (by kernel_rfl) (fun _ _ _ h => h) (Or.inr ⟨by kernel_rfl, rfl⟩) hS ?rB7_10
            (try go_frame)
            refine wpAnyH_take (i := 10) (v := undef) rfl (by kernel_rfl) (by kernel_rfl) (by kernel_rfl) (fun _ _ _ h => h) (Or.inr ⟨by kernel_rfl, rfl⟩) hS ?rB7_11
            (try go_frame)
            refine wpAnyH_take (i := 11) (v := ?vB7_12) rfl (by kernel_rfl) (by kernel_rfl) (by kernel_rfl) (fun _ _ _ h => h) (Or.inl ⟨by kernel_rfl, ?hB7_12⟩) hS ?rB7_12
            case hB7_12 =>
              intro w1 hSw
              clear hSw
              go_simp
              try with_reducible rfl
            (try go_frame)
            refine wpAnyH_take (i := 12) (v := ?vB7_13) rfl (by kernel_rfl) (by kernel_rfl) (by kernel_rfl) (fun _ _ _ h => h) (Or.inl ⟨by kernel_rfl, ?hB7_13⟩) hS ?rB7_13
            case hB7_13 =>
              intro w1 hSw
              clear hSw
              go_simp
              try with_reducible rfl
            (try go_frame)
            refine wpAnyH_take (i := 13) (v := undef) rfl (by kernel_rfl) (by kernel_rfl) (by kernel_rfl) (fun _ _ _ h => h) (Or.inr ⟨by kernel_rfl, rfl⟩) hS ?rB7_14
            (try go_frame)
            refine wpAnyH_take (i := 14) (v := undef) rfl (by kernel_rfl) (by kernel_rfl) (by kernel_rfl) (fun _ _ _ h => h) (Or.inr ⟨by kernel_rfl, rfl⟩) hS ?rB7_15
            (try go_frame)
            refine wpAnyH_take (i := 15) (v := undef) rfl (by kernel_rfl) (by kernel_rfl) (by kernel_rfl) (fun _ _ _ h => h) (Or.inr ⟨by kernel_rfl, rfl⟩) hS ?rB7_16
            (try go_frame)
            refine wpAnyH_take (i := 16) (v := undef) rfl (by kernel_rfl) (by kernel_rfl) (by kernel_rfl) (fun _ _ _ h => h) (Or.inr ⟨by kernel_rfl, rfl⟩) hS ?rB7_17
            (try go_frame)
            refine wpAnyH_take (i := 17) (v := undef) rfl (by kernel_rfl) (by kernel_rfl) (by kernel_rfl) (fun _ _ _ h => h) (Or.inr ⟨by kernel_rfl, rfl⟩) hS ?rB7_18
            (try go_frame)
            refine wpAnyH_take (i := 18) (v := undef) rfl (by kernel_rfl) (by kernel_rfl) (by kernel_rfl) (fun _ _ _ h => h) (Or.inr ⟨by kernel_rfl, rfl⟩) hS ?rB7_19
            (try go_frame)
            refine wpAnyH_take (i := 19) (v := undef) rfl (by kernel_rfl) (by kernel_rfl) (by kernel_rfl) (fun _ _ _ h => h) (Or.inr ⟨by kernel_rfl, rfl⟩) hS ?rB7_20
            (try go_frame)
            refine wpAnyH_take (i := 20) (v := undef) rfl (by kernel_rfl) (by kernel_rfl) (by kernel_rfl) (fun _ _ _ h => h) (Or.inr ⟨by kernel_rfl, rfl⟩) hS ?rB7_21
            (try go_frame)
            refine wpAnyH_take (i := 21) (v := undef) rfl (by kernel_rfl) (by kernel_rfl) (by kernel_rfl) (fun _ _ _ h => h) (Or.inr ⟨by kernel_rfl, rfl⟩) hS ?rB7_22
            (try go_frame)
            refine wpAnyH_take (i := 22) (v := undef) rfl (by kernel_rfl) (by kernel_rfl) (by kernel_rfl) (fun _ _ _ h => h) (Or.inr ⟨by kernel_rfl, rfl⟩) hS ?rB7_23
            (try go_frame)
            refine wpAnyH_take (i := 23) (v := undef) rfl (by kernel_rfl) (by kernel_rfl) (by kernel_rfl) (fun _ _ _ h => h) (Or.inr ⟨by kernel_rfl, rfl⟩) hS ?rB7_24
            (try go_frame)
            refine wpAnyH_take (i := 24) (v := undef) rfl (by kernel_rfl) (by kernel_rfl) (by kernel_rfl) (fun _ _ _ h => h) (Or.inr ⟨by kernel_rfl, rfl⟩) hS ?rB7_25
            (try go_frame)
            refine wpAnyH_take (i := 25) (v := undef) rfl (by kernel_rfl) (by kernel_rfl) (by kernel_rfl) (fun _ _ _ h => h) (Or.inr ⟨by kernel_rfl, rfl⟩) hS ?rB7_26
            (try go_frame)
            refine wpAnyH_take (i := 26) (v := undef) rfl (by kernel_rfl) (by kernel_rfl) (by kernel_rfl) (fun _ _ _ h => h) (Or.inr ⟨by kernel_rfl, rfl⟩) hS ?rB7_27
            (try go_frame)
            refine wpAnyH_take (i := 27) (v := undef) rfl (by kernel_rfl) (by kernel_rfl) (by kernel_rfl) (fun _ _ _ h => h) (Or.inr ⟨by kernel_rfl, rfl⟩) hS ?rB7_28
            (try go_frame)
            refine wpAnyH_take (i := 28) (v := undef) rfl (by kernel_rfl) (by kernel_rfl) (by kernel_rfl) (fun _ _ _ h => h) (Or.inr ⟨by kernel_rfl, rfl⟩) hS ?rB7_29
            (try go_frame)
            refine wpAnyH_take (i := 29) (v := ?vB7_30) rfl (by kernel_rfl) (by kernel_rfl) (by kernel_rfl) (fun _ _ _ h => h) (Or.inl ⟨by kernel_rfl, ?hB7_30⟩) hS ?rB7_30
            case hB7_30 =>
              intro w1 hSw
              clear hSw
              go_simp
              try with_reducible rfl
            (try go_frame)
            refine wpAnyH_ready (rs := [30]) (by kernel_rfl) (by simp) (AllReadyH.cons rfl (fun K hK => ?_) AllReadyH.nil)
            go_simp
            refine (must_f _).mono ?_
            rintro e wm ⟨rfl, hw⟩
            rw [hw]
            clear hw wm
            exact ⟨rfl, .inr ⟨HX.out, rfl⟩, (by first | exact (Below.refl _ _).drew | exact below_drewN (Below.refl _ _).drew _ | exact (below_drewN (Below.refl _ _).drew _).drew | exact below_drewN (Below.refl _ _) _)⟩
end Go.Proofs.YtkikokldijccnaaGreatDoor
