/- squitter: the law Runs. -/
import Derived.Test.YtkikokldijccnaaDoorRows
import Derived.WalkKit
import Derived.WalkLawsBesides
import Derived.WalkSpells
import Derived.ProofKit
import Derived.Below
import Derived.Outline
import Derived.Lib.Hide
import Derived.Deep.RegionWith
import Derived.Deep.RegionHeld3
import Derived.Deep.DrawnRows
import Derived.StillTailTactics
import Derived.BigQuiet
import Derived.Deep.QuietTactic
import Derived.Deep.LoopGhost
import Derived.IntWalk
import Derived.BigQuiet
import Derived.Deep.CutRange
import Derived.Deep.DeepCutAuto
import Derived.Test.YtkikokldijccnaaDoorSrG
namespace Go.Proofs.YtkikokldijccnaaDoor
open Go.RowKit Go.Maps
attribute [local go_sem ↓] Go.wp_at_zero Go.wp_at_succ
attribute [local go_sem] wrap_lit
set_option maxRecDepth 100000 in
set_option maxHeartbeats 4000000 in
theorem runs3 {K : Nat} {w : World} (E : Env K w) (hK : K ≤ w.heap.size) (need win keep : Int) (A : Option Addr) (ca : Nat) (l : List (Int × Int)) (hA : Is .i64 w w.heap.size A (flatS l)) :
    Calls Tryd.prog 3 #[.int .i64 need, .int .i64 win, .int .i64 keep, .slice A l.length ca] w fun e w' => e = .returned (.bool true) ∧ Below w.heap.size w w' := by
  have HE := Lib.hid E
  have HA := Lib.hid hA
  clear E hA
  have np : ∀ (H : Nat) (w : World), Sem.run Tryd.prog (binOp BinOp.eql 23 (Value.pointer (some ⟨H, 0, none⟩)) (Value.pointer none)) w = .ok (.bool false) w := fun H w => by kernel_rfl
  have nz : ∀ (w : World), Sem.run Tryd.prog (binOp BinOp.eql 23 (Value.pointer none) (Value.pointer none)) w = .ok (.bool true) w := fun w => by kernel_rfl
  by_cases hn : newE need win keep = 0
  · by_cases hg : 90 < l.length
    · have q1 : decide (90 < l.length) = true := decide_eq_true hg
      go_enter Tryd.func3, Tryd.ntmps3
      go_wp2_with fail
      refine (new8 need win keep w).mono ?_
      rintro e w0 (⟨hh, H1, mb1, bk1, gk1, O1, rfl, T1, n1, b1⟩ | ⟨hh, rfl, hw⟩)
      rotate_left
      · exact absurd (hn.symm.trans hh) (by decide)
      clear hh
      go_wp2_with fail
      refine (wrong9 need win keep _).mono ?_
      rintro e wz ⟨rfl, hw⟩
      rw [hw, hn]
      clear hw wz
      go_wp2_with fail
      refine (awake10 (HE.out.below (b1.mono hK)) (Nat.le_trans hK b1.size)).mono ?_
      rintro e w1 ⟨rfl, hb1⟩
      go_wp2_with fail
      go_ret
      exact ⟨rfl, b1.trans (hb1.mono b1.size)⟩
    · have q1 : decide (90 < l.length) = false := decide_eq_false hg
      go_enter Tryd.func3, Tryd.ntmps3
      go_wp2_with fail
      refine (new8 need win keep w).mono ?_
      rintro e w0 (⟨hh, H1, mb1, bk1, gk1, O1, rfl, T1, n1, b1⟩ | ⟨hh, rfl, hw⟩)
      rotate_left
      · exact absurd (hn.symm.trans hh) (by decide)
      clear hh
      go_wp2_with fail
      refine (wrong9 need win keep _).mono ?_
      rintro e wz ⟨rfl, hw⟩
      rw [hw, hn]
      clear hw wz
      have RR : Hid (RunS w.heap.size w (w0.alloc (.cells #[.int .i64 need, .int .i64 win, .int .i64 keep, .int .i64 0, .slice none 0 0] 31)) H1 w0.heap.size ⟨need, win, keep, 0, []⟩ ⟨need, win, keep, 0, []⟩ []) := Lib.hid (RunS.made (t := ⟨need, win, keep, 0, []⟩) ⟨_, _, _, T1⟩ n1 b1 (Ok.new hn) InvT.new)
      have hgl : l.length ≤ 90 := by omega
      clear T1 n1 b1
      go_wp2_with fail
      obtain ⟨W, hW⟩ : ∃ W, W = w0.alloc (.cells #[.int .i64 need, .int .i64 win, .int .i64 keep, .int .i64 0, .slice none 0 0] 31) := ⟨_, rfl⟩
      obtain ⟨R, hR⟩ : ∃ R, R = w0.heap.size := ⟨_, rfl⟩
      simp only [← hW] at RR ⊢
      simp only [← hR] at RR ⊢
      clear hW hR
      go_loopw [8, 12, 13, 14, 15] (fun r ii _ _ _ wr => ∃ (i : Nat) (t : Ts) (P : List (Int × Int)), i ≤ l.length ∧ r = .bool false ∧ ii = .int .i64 i ∧ P.length ≤ i ∧ RunS w.heap.size w wr H1 R t t P) (fun _ ii _ _ _ _ => l.length - (intOf ii).toNat)
      case atStart => exact ⟨0, _, [], Nat.zero_le _, rfl, rfl, Nat.le_refl _, RR.out⟩
      case round =>
        clear RR
        obtain ⟨i, t, P, hi, rfl, rfl, hPl, hS⟩ := hrel
        have RR := Lib.hid hS
        clear hS
        by_cases hlt : i < l.length
        · have hfl := flatS_len l
          obtain ⟨f1, f2⟩ := flatS_nth l i hlt
          obtain ⟨b, off, rfl, hbb, hc⟩ := HA.out (by omega)
          have y1 := hc (i * 2) (by omega)
          have y2 := hc (i * 2 + 1) (by omega)
          rw [f1] at y1
          rw [f2, ← Nat.add_assoc] at y2
          obtain ⟨a, ha⟩ : ∃ a, a = stl l i := ⟨_, rfl⟩
          obtain ⟨s, hs⟩ : ∃ s, s = sth l i := ⟨_, rfl⟩
          rw [← ha] at y1
          rw [← hs] at y2
          have x1 : wr.cell? ⟨b, off + i * 2, none⟩ = some (.int .i64 a) := (RR.out.bel.cell (p := ⟨b, off + i * 2, none⟩) hbb).trans y1
          have x2 : wr.cell? ⟨b, off + i * 2 + 1, none⟩ = some (.int .i64 s) := (RR.out.bel.cell (p := ⟨b, off + i * 2 + 1, none⟩) hbb).trans y2
          have hltI : (i : Int) < (l.length : Int) := by omega
          obtain ⟨kz, hkz⟩ : ∃ kz, (a == -1) = kz := ⟨_, rfl⟩
          clear hc f1 f2 hfl ha hs
          go_upto_if 60 with fail
          go_cut [13] from 61 to 73 (fun wv wx => wv = .int .i64 (stepE t a s) ∧ RunS w.heap.size w wx H1 R t (stepT t a s) (stepP2 t a s P))
          case first =>
            cases kz with
            | true =>
              obtain ⟨e1, e2, e3⟩ := step_tick (t := t) (a := a) (by simpa using hkz) s P
              have HEQ := Lib.hid (And.intro e1 (And.intro e2 e3))
              clear e1 e2 e3
              go_wp2_with fail
              refine (refTickS RR.out s).mono ?_
              rintro e w2 ⟨rfl, hr⟩
              have R2 := Lib.hid hr
              clear hr
              go_wp2_with fail
              go_meet
              case rel => exact ⟨by rw [HEQ.out.1], by rw [HEQ.out.2.1, HEQ.out.2.2]; exact R2.out⟩
            | false =>
              obtain ⟨e1, e2, e3⟩ := step_hear (t := t) (a := a) (by simpa using hkz) s P
              have HEQ := Lib.hid (And.intro e1 (And.intro e2 e3))
              clear e1 e2 e3
              go_wp2_with fail
              refine (refHearS RR.out (by omega) a s).mono ?_
              rintro e w2 ⟨rfl, hr⟩
              have R2 := Lib.hid hr
              clear hr
              go_wp2_with fail
              go_meet
              case rel => exact ⟨by rw [HEQ.out.1], by rw [HEQ.out.2.1, HEQ.out.2.2]; exact R2.out⟩
          case rest =>
            obtain ⟨rfl, hr⟩ := hcut
            have hpl2 := stepP2_len t a s P
            obtain ⟨ev, hev⟩ : ∃ ev, ev = stepE t a s := ⟨_, rfl⟩
            obtain ⟨t', ht'⟩ : ∃ t', t' = stepT t a s := ⟨_, rfl⟩
            obtain ⟨P', hP'⟩ : ∃ P', P' = stepP2 t a s P := ⟨_, rfl⟩
            rw [← ht', ← hP'] at hr
            rw [← hP'] at hpl2
            rw [← hev]
            obtain ⟨z, hz⟩ : ∃ z, z = wc := ⟨_, rfl⟩
            rw [← hz] at hr ⊢
            have RZ := Lib.hid hr
            have HST := Lib.hid hev.symm
            have HTT := Lib.hid ht'
            have HPL : Hid (P'.length ≤ i + 1) := Lib.hid (by omega)
            have x1 : z.cell? ⟨b, off + i * 2, none⟩ = some (.int .i64 a) := (hr.bel.cell (p := ⟨b, off + i * 2, none⟩) hbb).trans y1
            have x2 : z.cell? ⟨b, off + i * 2 + 1, none⟩ = some (.int .i64 s) := (hr.bel.cell (p := ⟨b, off + i * 2 + 1, none⟩) hbb).trans y2
            have x3 := hr.time.2
            have hRz := hr.time.1
            clear hr hev ht' hP' hz hpl2 RR
            go_wp2_with fail
            refine wp_region_held_drew (S := fun w' => w'.cell? ⟨b, off + i * 2, none⟩ = some (.int .i64 a) ∧ w'.cell? ⟨b, off + i * 2 + 1, none⟩ = some (.int .i64 s) ∧ w'.cell? ⟨R, 3, none⟩ = some (.int .i64 t'.now)) (by kernel_rfl) (⟨x1, x2, x3⟩) (fun hS => ?_)
            refine wpAnyH_take (i := 0) (v := ?vG1) rfl (by kernel_rfl) (by kernel_rfl) (by kernel_rfl) (fun _ _ _ h => h) (Or.inl ⟨by rfl, ?hG1⟩) hS ?rG1
            case hG1 =>
              intro w1 hSw
              clear hSw
              go_simp
              try with_reducible rfl
            (try go_frame)
            refine wpAnyH_take (i := 1) (v := ?vG2) rfl (by kernel_rfl) (by kernel_rfl) (by kernel_rfl) (fun _ _ _ h => h) (Or.inl ⟨by rfl, ?hG2⟩) hS ?rG2
            case hG2 =>
              intro w1 hSw
              clear hSw
              go_simp
              try with_reducible rfl
            (try go_frame)
            refine wpAnyH_take (i := 2) (v := ?vG3) rfl (by kernel_rfl) (by kernel_rfl) (by kernel_rfl) (fun _ _ _ h => h) (Or.inl ⟨by rfl, ?hG3⟩) hS ?rG3
            case hG3 =>
              intro w1 hSw
              clear hSw
              go_simp
              try with_reducible rfl
            (try go_frame)
            refine wpAnyH_take (i := 3) (v := ?vG4) rfl (by kernel_rfl) (by kernel_rfl) (by kernel_rfl) (fun _ _ _ h => h) (Or.inl ⟨by kernel_rfl, ?hG4⟩) hS ?rG4
            case hG4 =>
              intro w1 hSw
              have z1 : w1.cell? ⟨b, off + i * 2, none⟩ = some (.int .i64 a) := hSw.1
              have z2 : w1.cell? ⟨b, off + i * 2 + 1, none⟩ = some (.int .i64 s) := hSw.2.1
              have z3 : w1.cell? ⟨R, 3, none⟩ = some (.int .i64 t'.now) := hSw.2.2
              clear hSw
              go_simp
              try with_reducible rfl
            (try go_frame)
            refine wpAnyH_take (i := 4) (v := ?vG5) rfl (by kernel_rfl) (by kernel_rfl) (by kernel_rfl) (fun _ _ _ h => h) (Or.inl ⟨by kernel_rfl, ?hG5⟩) hS ?rG5
            case hG5 =>
              intro w1 hSw
              have z1 : w1.cell? ⟨b, off + i * 2, none⟩ = some (.int .i64 a) := hSw.1
              have z2 : w1.cell? ⟨b, off + i * 2 + 1, none⟩ = some (.int .i64 s) := hSw.2.1
              have z3 : w1.cell? ⟨R, 3, none⟩ = some (.int .i64 t'.now) := hSw.2.2
              clear hSw
              go_simp
              try with_reducible rfl
            (try go_frame)
            refine wpAnyH_take (i := 6) (v := ?vG6) rfl (by kernel_rfl) (by kernel_rfl) (by kernel_rfl) (fun _ _ _ h => h) (Or.inl ⟨by rfl, ?hG6⟩) hS ?rG6
            case hG6 =>
              intro w1 hSw
              clear hSw
              go_simp
              try with_reducible rfl
            (try go_frame)
            refine wpAnyH_ready (rs := [5]) (by kernel_rfl) (by simp) (AllReadyH.cons rfl (fun K hK => ?_) AllReadyH.nil)
            go_simp
            refine (stepS (RZ.out.below ((Below.refl _ z).drew)) a s).mono ?_
            rintro e w4 ⟨rfl, hr⟩
            rw [HST.out]
            have RZ4 := Lib.hid hr
            have HX4 := Lib.hid (And.intro ((RZ4.out.bel.cell (p := ⟨b, off + i * 2, none⟩) hbb).trans y1) (And.intro ((RZ4.out.bel.cell (p := ⟨b, off + i * 2 + 1, none⟩) hbb).trans y2) RZ4.out.time.2))
            clear hr
            refine hK.out _ _ (⟨HX4.out.1, HX4.out.2.1, HX4.out.2.2⟩) (fun hS => ?_)
            clear hK K
            (try go_frame)
            refine wpAnyH_take (i := 7) (v := ?vG7) rfl (by kernel_rfl) (by kernel_rfl) (by kernel_rfl) (fun _ _ _ h => h) (Or.inl ⟨by kernel_rfl, ?hG7⟩) hS ?rG7
            case hG7 =>
              intro w1 hSw
              clear hSw
              go_simp
              try with_reducible rfl
            (try go_frame)
            refine wpAnyH_take (i := 8) (v := ?vG8) rfl (by kernel_rfl) (by kernel_rfl) (by kernel_rfl) (fun _ _ _ h => h) (Or.inl ⟨by kernel_rfl, ?hG8⟩) hS ?rG8
            case hG8 =>
              intro w1 hSw
              clear hSw
              go_simp
              try with_reducible rfl
            (try go_frame)
            refine wpAnyH_take (i := 9) (v := ?vG9) rfl (by kernel_rfl) (by kernel_rfl) (by kernel_rfl) (fun _ _ _ h => h) (Or.inl ⟨by kernel_rfl, ?hG9⟩) hS ?rG9
            case hG9 =>
              intro w1 hSw
              clear hSw
              go_simp
              try with_reducible rfl
            (try go_frame)
            refine wpAnyH_take (i := 11) (v := ?vG10) rfl (by kernel_rfl) (by kernel_rfl) (by kernel_rfl) (fun _ _ _ h => h) (Or.inl ⟨by kernel_rfl, ?hG10⟩) hS ?rG10
            case hG10 =>
              intro w1 hSw
              have z1 : w1.cell? ⟨b, off + i * 2, none⟩ = some (.int .i64 a) := hSw.1
              have z2 : w1.cell? ⟨b, off + i * 2 + 1, none⟩ = some (.int .i64 s) := hSw.2.1
              have z3 : w1.cell? ⟨R, 3, none⟩ = some (.int .i64 t'.now) := hSw.2.2
              clear hSw
              go_simp
              try with_reducible rfl
            (try go_frame)
            refine wpAnyH_take (i := 12) (v := ?vG11) rfl (by kernel_rfl) (by kernel_rfl) (by kernel_rfl) (fun _ _ _ h => h) (Or.inl ⟨by kernel_rfl, ?hG11⟩) hS ?rG11
            case hG11 =>
              intro w1 hSw
              have z1 : w1.cell? ⟨b, off + i * 2, none⟩ = some (.int .i64 a) := hSw.1
              have z2 : w1.cell? ⟨b, off + i * 2 + 1, none⟩ = some (.int .i64 s) := hSw.2.1
              have z3 : w1.cell? ⟨R, 3, none⟩ = some (.int .i64 t'.now) := hSw.2.2
              clear hSw
              go_simp
              try with_reducible rfl
            (try go_frame)
            refine wpAnyH_take (i := 13) (v := ?vG12) rfl (by kernel_rfl) (by kernel_rfl) (by kernel_rfl) (fun _ _ _ h => h) (Or.inl ⟨by kernel_rfl, ?hG12⟩) hS ?rG12
            case hG12 =>
              intro w1 hSw
              have z1 : w1.cell? ⟨b, off + i * 2, none⟩ = some (.int .i64 a) := hSw.1
              have z2 : w1.cell? ⟨b, off + i * 2 + 1, none⟩ = some (.int .i64 s) := hSw.2.1
              have z3 : w1.cell? ⟨R, 3, none⟩ = some (.int .i64 t'.now) := hSw.2.2
              clear hSw
              go_simp
              try with_reducible rfl
            (try go_frame)
            refine wpAnyH_take (i := 14) (v := ?vG13) rfl (by kernel_rfl) (by kernel_rfl) (by kernel_rfl) (fun _ _ _ h => h) (Or.inl ⟨by kernel_rfl, ?hG13⟩) hS ?rG13
            case hG13 =>
              intro w1 hSw
              have z1 : w1.cell? ⟨b, off + i * 2, none⟩ = some (.int .i64 a) := hSw.1
              have z2 : w1.cell? ⟨b, off + i * 2 + 1, none⟩ = some (.int .i64 s) := hSw.2.1
              have z3 : w1.cell? ⟨R, 3, none⟩ = some (.int .i64 t'.now) := hSw.2.2
              clear hSw
              go_simp
              try with_reducible rfl
            (try go_frame)
            refine wpAnyH_ready (rs := [10]) (by kernel_rfl) (by simp) (AllReadyH.cons rfl (fun K hK => ?_) AllReadyH.nil)
            go_simp
            refine (nowS RZ4.out).mono ?_
            rintro e w5 ⟨rfl, hw⟩
            rw [hw]
            clear hw w5
            refine hK.out _ _ (hS) (fun hS => ?_)
            clear hK K
            refine wpAnyH_ready (rs := [15]) (by kernel_rfl) (by simp) (AllReadyH.cons rfl (fun K hK => ?_) AllReadyH.nil)
            go_simp
            refine hK.out _ _ (hS) (fun hS => ?_)
            clear hK K
            refine wpAnyH_ready (rs := [16]) (by kernel_rfl) (by simp) (AllReadyH.cons rfl (fun K hK => ?_) AllReadyH.nil)
            go_simp
            refine hK.out _ _ (hS) (fun hS => ?_)
            clear hK K
            refine wpAnyH_done (by kernel_rfl) ?_ _
            have RT : Hid (RunS w.heap.size w w4 H1 R t' t' P') := Lib.hid (by have h := RZ4.out; rw [← HTT.out] at h; exact h)
            have hnow : (stepT t a s).now = t'.now := by rw [HTT.out]
            have qn : ((stepT t a s).now != t'.now) = false := by rw [hnow]; simp
            clear RZ4 HX4 HST RZ x1 x2 x3 y1 y2 hnow
            have h1i : (i : Int) + 1 ≤ 91 := by omega
            cases q2 : ((i : Int) % 4 != 0) with
            | true =>
              cases q3 : decide ((i : Int) + 1 < (l.length : Int)) with
              | true =>
                go_wp2_with fail
                exact ⟨⟨i + 1, t', P', by omega, rfl, by go_num, HPL.out, RT.out⟩, by simp [intOf]; omega⟩
              | false =>
                obtain ⟨v, hv⟩ : ∃ v, v = w4 := ⟨_, rfl⟩
                rw [← hv] at RT ⊢
                clear hv
                go_wp2_with fail
                refine (knownS RT.out).mono ?_
                rintro e v1 ⟨A1, k1, rfl, hk1, -, hb1⟩
                have R1 := Lib.hid (RT.out.below hb1)
                have B1 := Lib.hid hb1
                have K1 := Lib.hid hk1
                have L1 : Hid (0 < (addrsT t' true).length → ∀ g, A1 = some ⟨g, 0, none⟩ → g < v1.heap.size) := Lib.hid (fun hn g e => by
                  obtain ⟨g', cs, e', _, hh, _⟩ := hk1 hn
                  rw [e] at e'
                  injection e' with e'
                  injection e' with e' _ _
                  rw [e']
                  exact heap_lt hh)
                have s1 := hb1.size
                clear hb1 hk1
                go_wp2_with fail
                refine (pendS R1.out).mono ?_
                rintro e v2 ⟨A2, k2, rfl, hk2, -, hb2⟩
                have R2 := Lib.hid (R1.out.below hb2)
                have B2 := Lib.hid (B1.out.trans (hb2.mono s1))
                have K1 := Lib.hid (K1.out.below hb2)
                have K2 := Lib.hid hk2
                have s2 : v.heap.size ≤ v2.heap.size := B2.out.size
                clear hb2 hk2 B1
                have la1 := addrs_len RT.out.okt true
                have la2 := addrs_len RT.out.okt false
                obtain ⟨KN, hKN⟩ : ∃ KN, KN = addrsT t' true := ⟨_, rfl⟩
                obtain ⟨PN, hPN⟩ : ∃ PN, PN = addrsT t' false := ⟨_, rfl⟩
                rw [← hKN] at K1 la1 L1 ⊢
                rw [← hPN] at K2 la2 ⊢
                have HAS := Lib.hid (And.intro hKN hPN)
                clear hKN hPN
                go_wp2_with fail
                refine (refKnownS R2.out).mono ?_
                rintro e v3 ⟨A3, k3, rfl, hk3, -, hb3⟩
                rw [← HAS.out.1] at hk3 ⊢
                have R3 := Lib.hid (R2.out.below hb3)
                have B3 := Lib.hid (B2.out.trans (hb3.mono s2))
                have K1 := Lib.hid (K1.out.below hb3)
                have K2 := Lib.hid (K2.out.below hb3)
                have K3 := Lib.hid hk3
                have s3 : v.heap.size ≤ v3.heap.size := B3.out.size
                clear hb3 hk3 B2
                go_wp2_with fail
                refine (equalInts A1 A3 k1 k3 KN KN v3.heap.size v3 K1.out.is K3.out.is (by omega)).mono ?_
                rintro e v4 ⟨rfl, n4, hw4⟩
                rw [decide_eq_true rfl]
                have hb4 : Below v3.heap.size v3 v4 := by rw [← hw4]; exact below_drewN (Below.refl _ v3) n4
                have R4 := Lib.hid (R3.out.below hb4)
                have B4 := Lib.hid (B3.out.trans (hb4.mono s3))
                have K1 := Lib.hid (K1.out.below hb4)
                have K2 := Lib.hid (K2.out.below hb4)
                have s4 : v.heap.size ≤ v4.heap.size := B4.out.size
                clear hb4 hw4 B3 K3
                go_wp2_with fail
                refine (refPendS R4.out).mono ?_
                rintro e v5 ⟨A5, k5, rfl, hk5, -, hb5⟩
                rw [← HAS.out.2] at hk5 ⊢
                have R5 := Lib.hid (R4.out.below hb5)
                have B5 := Lib.hid (B4.out.trans (hb5.mono s4))
                have K1 := Lib.hid (K1.out.below hb5)
                have K2 := Lib.hid (K2.out.below hb5)
                have K5 := Lib.hid hk5
                have s5 : v.heap.size ≤ v5.heap.size := B5.out.size
                clear hb5 hk5 B4
                go_wp2_with fail
                refine (equalInts A2 A5 k2 k5 PN PN v5.heap.size v5 K2.out.is K5.out.is (by omega)).mono ?_
                rintro e v6 ⟨rfl, n6, hw6⟩
                rw [decide_eq_true rfl]
                have hb6 : Below v5.heap.size v5 v6 := by rw [← hw6]; exact below_drewN (Below.refl _ v5) n6
                have R6 := Lib.hid (R5.out.below hb6)
                have B6 := Lib.hid (B5.out.trans (hb6.mono s5))
                have K1 := Lib.hid (K1.out.below hb6)
                have K2 := Lib.hid (K2.out.below hb6)
                have s6 : v.heap.size ≤ v6.heap.size := B6.out.size
                clear hb6 hw6 B5 K5
                go_wp2_with fail
                refine (saveS HE.out hK R6.out).mono ?_
                rintro e v7 ⟨rfl, hb7⟩
                have R7 := Lib.hid (R6.out.below hb7)
                have B7 := Lib.hid (B6.out.trans (hb7.mono s6))
                have K1 := Lib.hid (K1.out.below hb7)
                have K2 := Lib.hid (K2.out.below hb7)
                have s7 : v.heap.size ≤ v7.heap.size := B7.out.size
                clear hb7 B6
                go_wp2_with fail
                refine (refSaveS R7.out).mono ?_
                rintro e v8 ⟨rfl, hb8⟩
                have B8 := Lib.hid (B7.out.trans (hb8.mono s7))
                have K1 := Lib.hid (K1.out.below hb8)
                have K2 := Lib.hid (K2.out.below hb8)
                have s8 : v.heap.size ≤ v8.heap.size := B8.out.size
                clear hb8 B7 R1 R2 R3 R4 R5 R6 R7
                go_wp2_with fail
                refine (overT A1 k1 KN _ _ v8 K1.out (by omega)).mono ?_
                rintro e v9 ⟨rfl, hT9⟩
                have B9 : Hid (Below v.heap.size v v9) := Lib.hid (Turn.below B8.out s8 hT9 (fun i hi => by
                  obtain ⟨g, cs, e, hg, _⟩ := K1.out hi.1
                  rw [hi.2] at e
                  injection e with e
                  injection e with e _ _
                  omega))
                have K9 : Hid (Own .i64 v9 v.heap.size A2 3 PN) := Lib.hid (fun hn => by
                  obtain ⟨g, cs, e, hg, hh, hc⟩ := K2.out hn
                  refine ⟨g, cs, e, by omega, (hT9.block g (heap_lt hh) (fun hx => ?_)).trans hh, hc⟩
                  obtain ⟨g', cs', e', _, hh', _⟩ := K1.out hx.1
                  have hlt := L1.out hx.1 g hx.2
                  omega)
                have s9 : v.heap.size ≤ v9.heap.size := B9.out.size
                clear hT9
                go_wp2_with fail
                refine (overInts28 A2 k2 PN v.heap.size _ v9 K9.out (by omega)).mono ?_
                rintro e v10 ⟨rfl, hb10⟩
                have RN := Lib.hid (RT.out.below (B9.out.trans hb10))
                clear hb10
                go_wp2_with fail
                exact ⟨⟨i + 1, t', P', by omega, rfl, by go_num, HPL.out, RN.out⟩, by simp [intOf]; omega⟩
            | false =>
              obtain ⟨v, hv⟩ : ∃ v, v = w4 := ⟨_, rfl⟩
              rw [← hv] at RT ⊢
              clear hv
              go_wp2_with fail
              refine (knownS RT.out).mono ?_
              rintro e v1 ⟨A1, k1, rfl, hk1, -, hb1⟩
              have R1 := Lib.hid (RT.out.below hb1)
              have B1 := Lib.hid hb1
              have K1 := Lib.hid hk1
              have L1 : Hid (0 < (addrsT t' true).length → ∀ g, A1 = some ⟨g, 0, none⟩ → g < v1.heap.size) := Lib.hid (fun hn g e => by
                obtain ⟨g', cs, e', _, hh, _⟩ := hk1 hn
                rw [e] at e'
                injection e' with e'
                injection e' with e' _ _
                rw [e']
                exact heap_lt hh)
              have s1 := hb1.size
              clear hb1 hk1
              go_wp2_with fail
              refine (pendS R1.out).mono ?_
              rintro e v2 ⟨A2, k2, rfl, hk2, -, hb2⟩
              have R2 := Lib.hid (R1.out.below hb2)
              have B2 := Lib.hid (B1.out.trans (hb2.mono s1))
              have K1 := Lib.hid (K1.out.below hb2)
              have K2 := Lib.hid hk2
              have s2 : v.heap.size ≤ v2.heap.size := B2.out.size
              clear hb2 hk2 B1
              have la1 := addrs_len RT.out.okt true
              have la2 := addrs_len RT.out.okt false
              obtain ⟨KN, hKN⟩ : ∃ KN, KN = addrsT t' true := ⟨_, rfl⟩
              obtain ⟨PN, hPN⟩ : ∃ PN, PN = addrsT t' false := ⟨_, rfl⟩
              rw [← hKN] at K1 la1 L1 ⊢
              rw [← hPN] at K2 la2 ⊢
              have HAS := Lib.hid (And.intro hKN hPN)
              clear hKN hPN
              go_wp2_with fail
              refine (refKnownS R2.out).mono ?_
              rintro e v3 ⟨A3, k3, rfl, hk3, -, hb3⟩
              rw [← HAS.out.1] at hk3 ⊢
              have R3 := Lib.hid (R2.out.below hb3)
              have B3 := Lib.hid (B2.out.trans (hb3.mono s2))
              have K1 := Lib.hid (K1.out.below hb3)
              have K2 := Lib.hid (K2.out.below hb3)
              have K3 := Lib.hid hk3
              have s3 : v.heap.size ≤ v3.heap.size := B3.out.size
              clear hb3 hk3 B2
              go_wp2_with fail
              refine (equalInts A1 A3 k1 k3 KN KN v3.heap.size v3 K1.out.is K3.out.is (by omega)).mono ?_
              rintro e v4 ⟨rfl, n4, hw4⟩
              rw [decide_eq_true rfl]
              have hb4 : Below v3.heap.size v3 v4 := by rw [← hw4]; exact below_drewN (Below.refl _ v3) n4
              have R4 := Lib.hid (R3.out.below hb4)
              have B4 := Lib.hid (B3.out.trans (hb4.mono s3))
              have K1 := Lib.hid (K1.out.below hb4)
              have K2 := Lib.hid (K2.out.below hb4)
              have s4 : v.heap.size ≤ v4.heap.size := B4.out.size
              clear hb4 hw4 B3 K3
              go_wp2_with fail
              refine (refPendS R4.out).mono ?_
              rintro e v5 ⟨A5, k5, rfl, hk5, -, hb5⟩
              rw [← HAS.out.2] at hk5 ⊢
              have R5 := Lib.hid (R4.out.below hb5)
              have B5 := Lib.hid (B4.out.trans (hb5.mono s4))
              have K1 := Lib.hid (K1.out.below hb5)
              have K2 := Lib.hid (K2.out.below hb5)
              have K5 := Lib.hid hk5
              have s5 : v.heap.size ≤ v5.heap.size := B5.out.size
              clear hb5 hk5 B4
              go_wp2_with fail
              refine (equalInts A2 A5 k2 k5 PN PN v5.heap.size v5 K2.out.is K5.out.is (by omega)).mono ?_
              rintro e v6 ⟨rfl, n6, hw6⟩
              rw [decide_eq_true rfl]
              have hb6 : Below v5.heap.size v5 v6 := by rw [← hw6]; exact below_drewN (Below.refl _ v5) n6
              have R6 := Lib.hid (R5.out.below hb6)
              have B6 := Lib.hid (B5.out.trans (hb6.mono s5))
              have K1 := Lib.hid (K1.out.below hb6)
              have K2 := Lib.hid (K2.out.below hb6)
              have s6 : v.heap.size ≤ v6.heap.size := B6.out.size
              clear hb6 hw6 B5 K5
              go_wp2_with fail
              refine (saveS HE.out hK R6.out).mono ?_
              rintro e v7 ⟨rfl, hb7⟩
              have R7 := Lib.hid (R6.out.below hb7)
              have B7 := Lib.hid (B6.out.trans (hb7.mono s6))
              have K1 := Lib.hid (K1.out.below hb7)
              have K2 := Lib.hid (K2.out.below hb7)
              have s7 : v.heap.size ≤ v7.heap.size := B7.out.size
              clear hb7 B6
              go_wp2_with fail
              refine (refSaveS R7.out).mono ?_
              rintro e v8 ⟨rfl, hb8⟩
              have B8 := Lib.hid (B7.out.trans (hb8.mono s7))
              have K1 := Lib.hid (K1.out.below hb8)
              have K2 := Lib.hid (K2.out.below hb8)
              have s8 : v.heap.size ≤ v8.heap.size := B8.out.size
              clear hb8 B7 R1 R2 R3 R4 R5 R6 R7
              go_wp2_with fail
              refine (overT A1 k1 KN _ _ v8 K1.out (by omega)).mono ?_
              rintro e v9 ⟨rfl, hT9⟩
              have B9 : Hid (Below v.heap.size v v9) := Lib.hid (Turn.below B8.out s8 hT9 (fun i hi => by
                obtain ⟨g, cs, e, hg, _⟩ := K1.out hi.1
                rw [hi.2] at e
                injection e with e
                injection e with e _ _
                omega))
              have K9 : Hid (Own .i64 v9 v.heap.size A2 3 PN) := Lib.hid (fun hn => by
                obtain ⟨g, cs, e, hg, hh, hc⟩ := K2.out hn
                refine ⟨g, cs, e, by omega, (hT9.block g (heap_lt hh) (fun hx => ?_)).trans hh, hc⟩
                obtain ⟨g', cs', e', _, hh', _⟩ := K1.out hx.1
                have hlt := L1.out hx.1 g hx.2
                omega)
              have s9 : v.heap.size ≤ v9.heap.size := B9.out.size
              clear hT9
              go_wp2_with fail
              refine (overInts28 A2 k2 PN v.heap.size _ v9 K9.out (by omega)).mono ?_
              rintro e v10 ⟨rfl, hb10⟩
              have RN := Lib.hid (RT.out.below (B9.out.trans hb10))
              clear hb10
              go_wp2_with fail
              exact ⟨⟨i + 1, t', P', by omega, rfl, by go_num, HPL.out, RN.out⟩, by simp [intOf]; omega⟩
        · obtain rfl : i = l.length := by omega
          clear hlt
          go_wp2_with fail
          refine (awake10 (HE.out.below (RR.out.bel.mono hK)) (Nat.le_trans hK RR.out.hB)).mono ?_
          rintro e w2 ⟨rfl, hb2⟩
          have HB := Lib.hid (RR.out.bel.trans (hb2.mono RR.out.hB))
          clear hb2
          go_wp2_with fail
          go_ret
          exact ⟨rfl, HB.out⟩
  · go_enter Tryd.func3, Tryd.ntmps3
    go_wp2_with fail
    refine (new8 need win keep w).mono ?_
    rintro e w0 (⟨hh, H1, mb1, bk1, gk1, O1, rfl, T1, n1, b1⟩ | ⟨hh, rfl, hw⟩)
    · exact absurd hh hn
    rw [hw]
    clear hw w0
    go_wp2_with fail
    refine (wrong9 need win keep _).mono ?_
    rintro e wz ⟨rfl, hw⟩
    rw [hw, hh]
    clear hw wz
    go_wp2_with fail
    refine (awake10 HE.out hK).mono ?_
    rintro e w1 ⟨rfl, hb1⟩
    go_wp2_with fail
    go_ret
    exact ⟨rfl, hb1⟩
end Go.Proofs.YtkikokldijccnaaDoor
