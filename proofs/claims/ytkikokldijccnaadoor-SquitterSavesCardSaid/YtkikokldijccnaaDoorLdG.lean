/- squitter: the law Saves. -/
import Derived.Test.YtkikokldijccnaaDoorRows
import Derived.WalkKit
import Derived.WalkLawsBesides
import Derived.WalkSpells
import Derived.ProofKit
import Derived.Below
import Derived.Outline
import Derived.Lib.Hide
import Derived.Deep.RegionWith
import Derived.Deep.RegionHeld3
import Derived.Deep.DrawnRows
import Derived.StillTailTactics
import Derived.BigQuiet
import Derived.Deep.QuietTactic
import Derived.Deep.LoopGhost
import Derived.IntWalk
import Derived.OrdersHeld
import Derived.Test.YtkikokldijccnaaDoorLdE
import Derived.Test.YtkikokldijccnaaDoorSqAw
import Derived.Test.YtkikokldijccnaaDoorSqV
import Derived.Test.YtkikokldijccnaaDoorRC
namespace Go.Proofs.YtkikokldijccnaaDoor
open Go.RowKit Go.Maps
attribute [local go_sem ↓] Go.wp_at_zero Go.wp_at_succ
attribute [local go_sem] wrap_lit

theorem St2.fresh {B : Nat} {w0 w w' : World} {F : Nat → Prop} {Ha : Nat} {ta : Ts} {Hb : Nat} {tb : Ts} {Hc : Nat} {tc : Ts} {O : Nat → Prop} (h : St2 B w0 w F Ha ta Hb tb) (hb : Below w.heap.size w w') (hT : TabO w' Hc tc O) (hO : ∀ k, O k → w.heap.size ≤ k) (hok : Ok tc) : St2 B w0 w' (fun _ => False) Ha ta Hc tc := by
  obtain ⟨Oa, Ob, h⟩ := h
  exact ⟨Oa, O, h.oka, hok, h.taba.below hb, hT, h.newa, fun k hk => Nat.le_trans h.hB (hO k hk), fun k h1 h2 => by have := h.taba.lt k h1; have := hO k h2; omega, h.bel.trans (hb.mono h.hB), Nat.le_trans h.hB hb.size, fun k hk => hk.elim⟩
theorem save_len2 {t : Ts} (h : Ok t) : (saveT t).length ≤ 60000 := by rw [← textU_all]; exact textU_le h _
theorem addrs_len2 {t : Ts} (h : Ok t) (k : Bool) : (addrsT t k).length ≤ 64 := by
  have := List.length_filter_le (fun p : Int × Tk => p.2.kn == k) t.es
  have := h.len
  unfold addrsT
  rw [List.length_map]
  omega

set_option maxRecDepth 100000 in
set_option maxHeartbeats 4000000 in
theorem saves6 {K : Nat} {w : World} (E : LEnv K w) (hK : K ≤ w.heap.size) (need win keep : Int) (A : Option Addr) (ca : Nat) (l : List (Int × Int)) (hA : Is .i64 w w.heap.size A (flatS l)) :
    Calls Tryd.prog 6 #[.int .i64 need, .int .i64 win, .int .i64 keep, .slice A l.length ca] w fun e w' => e = .returned (.bool true) ∧ Below w.heap.size w w' := by
  have HE := Lib.hid E
  have HA := Lib.hid hA
  clear E hA
  have np : ∀ (H : Nat) (w : World), Sem.run Tryd.prog (binOp BinOp.eql 23 (Value.pointer (some ⟨H, 0, none⟩)) (Value.pointer none)) w = .ok (.bool false) w := fun H w => by kernel_rfl
  by_cases hn : newE need win keep = 0
  · by_cases hg : 90 < l.length
    · have q1 : decide (90 < l.length) = true := decide_eq_true hg
      have hgI : (90 : Int) < (l.length : Int) := by omega
      go_enter Tryd.func6, Tryd.ntmps6
      go_wp2_with fail
      refine (new8 need win keep w).mono ?_
      rintro e wa (⟨hh, H1, mb1, bk1, gk1, O1, rfl, T1, n1, b1⟩ | ⟨hh, rfl, hw⟩)
      rotate_left
      · exact absurd (hn.symm.trans hh) (by decide)
      clear hh
      have HT1 := Lib.hid T1
      have hsa := b1.size
      clear T1
      go_wp2_with fail
      refine (new8 need win keep wa).mono ?_
      rintro e w0 (⟨-, H2, mb2, bk2, gk2, O2, rfl, T2, n2, b2⟩ | ⟨hh, -, -⟩)
      rotate_left
      · exact absurd (hn.symm.trans hh) (by decide)
      have SS : Hid (St2 w.heap.size w w0 (fun _ => False) H1 ⟨need, win, keep, 0, []⟩ H2 ⟨need, win, keep, 0, []⟩) := Lib.hid (St2.made ⟨_, _, _, HT1.out⟩ n1 b1 (Ok.new hn) ⟨_, _, _, T2⟩ n2 b2 (Ok.new hn))
      clear T2 n1 n2 b1 b2 HT1
      go_wp2_with fail
      have hbw := SS.out.bel
      refine (awake10 (HE.out.env.below (hbw.mono hK)) (Nat.le_trans hK hbw.size)).mono ?_
      rintro e w1 ⟨rfl, hb1⟩
      have hB1 := hbw.trans (hb1.mono hbw.size)
      clear hbw
      go_wp2_with fail
      go_ret
      exact ⟨rfl, hB1⟩
    · have q1 : decide (90 < l.length) = false := decide_eq_false hg
      have hgI : (l.length : Int) ≤ 90 := by omega
      go_enter Tryd.func6, Tryd.ntmps6
      go_wp2_with fail
      refine (new8 need win keep w).mono ?_
      rintro e wa (⟨hh, H1, mb1, bk1, gk1, O1, rfl, T1, n1, b1⟩ | ⟨hh, rfl, hw⟩)
      rotate_left
      · exact absurd (hn.symm.trans hh) (by decide)
      clear hh
      have HT1 := Lib.hid T1
      have hsa := b1.size
      clear T1
      go_wp2_with fail
      refine (new8 need win keep wa).mono ?_
      rintro e w0 (⟨-, H2, mb2, bk2, gk2, O2, rfl, T2, n2, b2⟩ | ⟨hh, -, -⟩)
      rotate_left
      · exact absurd (hn.symm.trans hh) (by decide)
      have SS : Hid (St2 w.heap.size w w0 (fun _ => False) H1 ⟨need, win, keep, 0, []⟩ H2 ⟨need, win, keep, 0, []⟩) := Lib.hid (St2.made ⟨_, _, _, HT1.out⟩ n1 b1 (Ok.new hn) ⟨_, _, _, T2⟩ n2 b2 (Ok.new hn))
      clear T2 n1 n2 b1 b2 HT1
      go_wp2_with fail
      have hbw := SS.out.bel
      refine (awake10 (HE.out.env.below (hbw.mono hK)) (Nat.le_trans hK hbw.size)).mono ?_
      rintro e w1 ⟨rfl, hb1⟩
      have hB1 := hbw.trans (hb1.mono hbw.size)
      clear hbw
      have SS := Lib.hid (SS.out.below hb1)
      have hgl : l.length ≤ 90 := by omega
      clear hb1 hB1
      go_wp2_with fail
      go_loopw [8, 11, 13, 14, 15, 16] (fun r bb ii _ _ _ wr => ∃ (i : Nat) (t : Ts) (Hb : Nat) (F : Nat → Prop), i ≤ l.length ∧ r = .bool false ∧ bb = .pointer (some ⟨Hb, 0, none⟩) ∧ ii = .int .i64 i ∧ Hid (St2 w.heap.size w wr F H1 t Hb t)) (fun _ _ ii _ _ _ _ => l.length - (intOf ii).toNat)
      case atStart => exact ⟨0, _, _, _, Nat.zero_le _, rfl, rfl, rfl, SS⟩
      case round =>
        clear SS
        obtain ⟨i, t, Hb, F, hi, rfl, rfl, rfl, SS⟩ := hrel
        by_cases hlt : i < l.length
        · have hfl := flatS_len l
          obtain ⟨f1, f2⟩ := flatS_nth l i hlt
          obtain ⟨b, off, rfl, hbb, hc⟩ := HA.out (by omega)
          have y1 := hc (i * 2) (by omega)
          have y2 := hc (i * 2 + 1) (by omega)
          rw [f1] at y1
          rw [f2, ← Nat.add_assoc] at y2
          obtain ⟨a, ha⟩ : ∃ a, a = stl l i := ⟨_, rfl⟩
          obtain ⟨s, hs⟩ : ∃ s, s = sth l i := ⟨_, rfl⟩
          rw [← ha] at y1
          rw [← hs] at y2
          have x1 : wr.cell? ⟨b, off + i * 2, none⟩ = some (.int .i64 a) := (SS.out.bel.cell (p := ⟨b, off + i * 2, none⟩) hbb).trans y1
          have x2 : wr.cell? ⟨b, off + i * 2 + 1, none⟩ = some (.int .i64 s) := (SS.out.bel.cell (p := ⟨b, off + i * 2 + 1, none⟩) hbb).trans y2
          have hltI : (i : Int) < (l.length : Int) := by omega
          clear hc f1 f2 hfl ha hs
          go_wp2_with fail
          refine wp_region_held_drew (S := fun w' => w'.cell? ⟨b, off + i * 2, none⟩ = some (.int .i64 a) ∧ w'.cell? ⟨b, off + i * 2 + 1, none⟩ = some (.int .i64 s)) (by kernel_rfl) (⟨x1, x2⟩) (fun hS => ?_)
          refine wpAnyH_take (i := 0) (v := ?vG1) rfl (by kernel_rfl) (by kernel_rfl) (by kernel_rfl) (fun _ _ _ h => h) (Or.inl ⟨by rfl, ?hG1⟩) hS ?rG1
          case hG1 =>
            intro w1 hSw
            clear hSw
            go_simp
            try with_reducible rfl
          (try go_frame)
          refine wpAnyH_take (i := 1) (v := ?vG2) rfl (by kernel_rfl) (by kernel_rfl) (by kernel_rfl) (fun _ _ _ h => h) (Or.inl ⟨by rfl, ?hG2⟩) hS ?rG2
          case hG2 =>
            intro w1 hSw
            clear hSw
            go_simp
            try with_reducible rfl
          (try go_frame)
          refine wpAnyH_take (i := 2) (v := ?vG3) rfl (by kernel_rfl) (by kernel_rfl) (by kernel_rfl) (fun _ _ _ h => h) (Or.inl ⟨by rfl, ?hG3⟩) hS ?rG3
          case hG3 =>
            intro w1 hSw
            clear hSw
            go_simp
            try with_reducible rfl
          (try go_frame)
          refine wpAnyH_take (i := 3) (v := ?vG4) rfl (by kernel_rfl) (by kernel_rfl) (by kernel_rfl) (fun _ _ _ h => h) (Or.inl ⟨by kernel_rfl, ?hG4⟩) hS ?rG4
          case hG4 =>
            intro w1 hSw
            have z1 : w1.cell? ⟨b, off + i * 2, none⟩ = some (.int .i64 a) := hSw.1
            have z2 : w1.cell? ⟨b, off + i * 2 + 1, none⟩ = some (.int .i64 s) := hSw.2
            clear hSw
            go_simp
            try with_reducible rfl
          (try go_frame)
          refine wpAnyH_take (i := 4) (v := ?vG5) rfl (by kernel_rfl) (by kernel_rfl) (by kernel_rfl) (fun _ _ _ h => h) (Or.inl ⟨by kernel_rfl, ?hG5⟩) hS ?rG5
          case hG5 =>
            intro w1 hSw
            have z1 : w1.cell? ⟨b, off + i * 2, none⟩ = some (.int .i64 a) := hSw.1
            have z2 : w1.cell? ⟨b, off + i * 2 + 1, none⟩ = some (.int .i64 s) := hSw.2
            clear hSw
            go_simp
            try with_reducible rfl
          (try go_frame)
          refine wpAnyH_take (i := 6) (v := ?vG6) rfl (by kernel_rfl) (by kernel_rfl) (by kernel_rfl) (fun _ _ _ h => h) (Or.inl ⟨by rfl, ?hG6⟩) hS ?rG6
          case hG6 =>
            intro w1 hSw
            clear hSw
            go_simp
            try with_reducible rfl
          (try go_frame)
          refine wpAnyH_take (i := 7) (v := ?vG7) rfl (by kernel_rfl) (by kernel_rfl) (by kernel_rfl) (fun _ _ _ h => h) (Or.inl ⟨by rfl, ?hG7⟩) hS ?rG7
          case hG7 =>
            intro w1 hSw
            clear hSw
            go_simp
            try with_reducible rfl
          (try go_frame)
          refine wpAnyH_take (i := 8) (v := ?vG8) rfl (by kernel_rfl) (by kernel_rfl) (by kernel_rfl) (fun _ _ _ h => h) (Or.inl ⟨by rfl, ?hG8⟩) hS ?rG8
          case hG8 =>
            intro w1 hSw
            clear hSw
            go_simp
            try with_reducible rfl
          (try go_frame)
          refine wpAnyH_take (i := 9) (v := ?vG9) rfl (by kernel_rfl) (by kernel_rfl) (by kernel_rfl) (fun _ _ _ h => h) (Or.inl ⟨by kernel_rfl, ?hG9⟩) hS ?rG9
          case hG9 =>
            intro w1 hSw
            have z1 : w1.cell? ⟨b, off + i * 2, none⟩ = some (.int .i64 a) := hSw.1
            have z2 : w1.cell? ⟨b, off + i * 2 + 1, none⟩ = some (.int .i64 s) := hSw.2
            clear hSw
            go_simp
            try with_reducible rfl
          (try go_frame)
          refine wpAnyH_take (i := 10) (v := ?vG10) rfl (by kernel_rfl) (by kernel_rfl) (by kernel_rfl) (fun _ _ _ h => h) (Or.inl ⟨by kernel_rfl, ?hG10⟩) hS ?rG10
          case hG10 =>
            intro w1 hSw
            have z1 : w1.cell? ⟨b, off + i * 2, none⟩ = some (.int .i64 a) := hSw.1
            have z2 : w1.cell? ⟨b, off + i * 2 + 1, none⟩ = some (.int .i64 s) := hSw.2
            clear hSw
            go_simp
            try with_reducible rfl
          (try go_frame)
          refine wpAnyH_ready (rs := [5]) (by kernel_rfl) (by simp) (AllReadyH.cons rfl (fun K hK => ?_) AllReadyH.nil)
          go_simp
          refine (stepA (SS.out.below ((Below.refl _ wr).drew)) a s).mono ?_
          rintro e w2 ⟨rfl, hS2, -⟩
          have SS2 := Lib.hid hS2.swap
          have HX2 := Lib.hid (And.intro ((hS2.bel.cell (p := ⟨b, off + i * 2, none⟩) hbb).trans y1) ((hS2.bel.cell (p := ⟨b, off + i * 2 + 1, none⟩) hbb).trans y2))
          clear hS2
          refine hK.out _ _ (HX2.out) (fun hS => ?_)
          clear hK K
          (try go_frame)
          refine wpAnyH_ready (rs := [11]) (by kernel_rfl) (by simp) (AllReadyH.cons rfl (fun K hK => ?_) AllReadyH.nil)
          go_simp
          refine (stepA SS2.out a s).mono ?_
          rintro e w3 ⟨rfl, hS3, -⟩
          have SS3 := Lib.hid hS3.swap
          have HX3 := Lib.hid (And.intro ((hS3.bel.cell (p := ⟨b, off + i * 2, none⟩) hbb).trans y1) ((hS3.bel.cell (p := ⟨b, off + i * 2 + 1, none⟩) hbb).trans y2))
          clear hS3
          refine hK.out _ _ (HX3.out) (fun hS => ?_)
          clear hK K
          (try go_frame)
          refine wpAnyH_ready (rs := [12]) (by kernel_rfl) (by simp) (AllReadyH.cons rfl (fun K hK => ?_) AllReadyH.nil)
          go_simp
          refine hK.out _ _ (hS) (fun hS => ?_)
          clear hK K
          refine wpAnyH_done (by kernel_rfl) ?_ _
          obtain ⟨t', ht'⟩ : ∃ t', t' = stepT t a s := ⟨_, rfl⟩
          rw [← ht'] at SS3
          clear ht' SS2 HX2 HX3 x1 x2 y1 y2
          have hok := SS3.out.oka
          have HOK := Lib.hid hok
          have hsl := save_len2 hok
          have hla1 := addrs_len2 hok true
          have hla2 := addrs_len2 hok false
          clear hok
          go_wp2_with fail
          refine (saveA HE.out.env hK SS3.out.swap).mono ?_
          rintro e w4 ⟨rfl, hS4, -⟩
          have SS4 := Lib.hid hS4.swap
          have HE4 := Lib.hid (HE.out.below (hS4.bel.mono hK))
          have hk4 : K ≤ w4.heap.size := Nat.le_trans hK hS4.bel.size
          clear hS4
          go_wp2_with fail
          refine (load27 (saveT t') (by omega) HE4.out hk4).mono ?_
          rintro e w5 ⟨⟨t2, H3, O3, ht2, rfl, hT3, hO3⟩ | ⟨hno, rfl⟩, hb5⟩
          rotate_left
          · exact absurd (hno.symm.trans (load_save HOK.out)) (by simp)
          obtain rfl : t2 = t' := Option.some.inj (ht2.symm.trans (load_save HOK.out))
          have SS5 := Lib.hid (SS4.out.fresh hb5 hT3 hO3 HOK.out)
          clear hT3 hO3 hb5 ht2 HE4 SS4 SS3
          go_wp2_with fail
          refine (saveA HE.out.env hK SS5.out.swap).mono ?_
          rintro e w6 ⟨rfl, hS6, -⟩
          have SS6 := Lib.hid hS6.swap
          clear hS6 SS5
          go_wp2_with fail
          refine (saveA HE.out.env hK SS6.out).mono ?_
          rintro e w7 ⟨rfl, hS7, -⟩
          have SS7 := Lib.hid hS7
          clear hS7 SS6
          go_wp2_with fail
          refine (nowA SS7.out.swap).mono ?_
          rintro e wz ⟨rfl, hw⟩
          rw [hw]
          clear hw wz
          go_wp2_with fail
          refine (nowA SS7.out).mono ?_
          rintro e wz ⟨rfl, hw⟩
          rw [hw]
          clear hw wz
          obtain ⟨KN, hKN⟩ : ∃ KN, KN = addrsT t2 true := ⟨_, rfl⟩
          go_wp2_with fail
          refine (knownA SS7.out.swap).mono ?_
          rintro e v10 ⟨A10, k10, rfl, ho10, -, hS10, hb10⟩
          rw [← hKN] at ho10 ⊢
          have K10 := Lib.hid ho10.is
          have T10 := Lib.hid hS10.swap
          clear ho10 hS10 hb10 SS7
          go_wp2_with fail
          refine (knownA T10.out).mono ?_
          rintro e v11 ⟨A11, k11, rfl, ho11, -, hS11, hb11⟩
          rw [← hKN] at ho11 ⊢
          have K11 := Lib.hid ho11.is
          have J10 := Lib.hid ((K10.out.below hb11).mono hb11.size)
          have T11 := Lib.hid hS11
          have hlKN : KN.length ≤ 64 := by rw [hKN]; assumption
          have HKN := Lib.hid hKN
          clear ho11 hS11 hb11 T10 K10 hKN
          go_wp2_with fail
          refine (equalInts A10 A11 k10 k11 KN KN v11.heap.size v11 J10.out K11.out (by omega)).mono ?_
          rintro e v12 ⟨rfl, n10, hw10⟩
          rw [decide_eq_true rfl]
          have hx10 : Below v11.heap.size v11 v12 := by rw [← hw10]; exact below_drewN (Below.refl _ _) n10
          have T12 := Lib.hid (T11.out.below hx10)
          clear hw10 hx10 T11 J10 K11
          obtain ⟨PN, hPN⟩ : ∃ PN, PN = addrsT t2 false := ⟨_, rfl⟩
          go_wp2_with fail
          refine (pendA T12.out.swap).mono ?_
          rintro e v20 ⟨A20, k20, rfl, ho20, -, hS20, hb20⟩
          rw [← hPN] at ho20 ⊢
          have K20 := Lib.hid ho20.is
          have T20 := Lib.hid hS20.swap
          clear ho20 hS20 hb20 T12
          go_wp2_with fail
          refine (pendA T20.out).mono ?_
          rintro e v21 ⟨A21, k21, rfl, ho21, -, hS21, hb21⟩
          rw [← hPN] at ho21 ⊢
          have K21 := Lib.hid ho21.is
          have J20 := Lib.hid ((K20.out.below hb21).mono hb21.size)
          have T21 := Lib.hid hS21
          have hlPN : PN.length ≤ 64 := by rw [hPN]; assumption
          have HPN := Lib.hid hPN
          clear ho21 hS21 hb21 T20 K20 hPN
          go_wp2_with fail
          refine (equalInts A20 A21 k20 k21 PN PN v21.heap.size v21 J20.out K21.out (by omega)).mono ?_
          rintro e v22 ⟨rfl, n20, hw20⟩
          rw [decide_eq_true rfl]
          have hx20 : Below v21.heap.size v21 v22 := by rw [← hw20]; exact below_drewN (Below.refl _ _) n20
          have T22 := Lib.hid (T21.out.below hx20)
          clear hw20 hx20 T21 J20 K21
          go_wp2_with fail
          exact ⟨⟨i + 1, t2, H3, _, by omega, rfl, rfl, by go_num, T22⟩, by simp [intOf]; omega⟩
        · obtain rfl : i = l.length := by omega
          have hbel := SS.out.bel
          clear hlt
          go_wp2_with fail
          go_ret
          exact ⟨rfl, hbel⟩
  · go_enter Tryd.func6, Tryd.ntmps6
    have HN := Lib.hid hn
    go_wp2_with fail
    refine (new8 need win keep w).mono ?_
    rintro e wa (⟨hh, H1, mb1, bk1, gk1, O1, rfl, T1, n1, b1⟩ | ⟨hh, rfl, hw⟩)
    · exact absurd hh hn
    rw [hw]
    clear hw wa
    go_wp2_with fail
    refine (new8 need win keep w).mono ?_
    rintro e wa (⟨hh2, H1, mb1, bk1, gk1, O1, rfl, T1, n1, b1⟩ | ⟨hh2, rfl, hw⟩)
    · exact absurd hh2 hn
    rw [hw]
    clear hw wa
    go_wp2_with fail
    refine (awake10 HE.out.env hK).mono ?_
    rintro e w1 ⟨rfl, hb1⟩
    go_wp2_with fail
    go_ret
    exact ⟨rfl, hb1⟩
end Go.Proofs.YtkikokldijccnaaDoor
