/- squitter: the law Order. -/
import Derived.Test.YtkikokldijccnaaDoorRows
import Derived.WalkKit
import Derived.WalkLawsBesides
import Derived.WalkSpells
import Derived.ProofKit
import Derived.Below
import Derived.Outline
import Derived.Lib.Hide
import Derived.Deep.RegionWith
import Derived.Deep.RegionHeld3
import Derived.Deep.DrawnRows
import Derived.StillTailTactics
import Derived.BigQuiet
import Derived.Deep.QuietTactic
import Derived.Deep.LoopGhost
import Derived.IntWalk
import Derived.BigQuiet
import Derived.Deep.CutRange
import Derived.Deep.DeepCutAuto
import Derived.Lib.MinMax
import Derived.Test.YtkikokldijccnaaDoorSqAw
import Derived.Test.YtkikokldijccnaaDoorSqW
namespace Go.Proofs.YtkikokldijccnaaDoor
open Go.RowKit Go.Maps
attribute [local go_sem ↓] Go.wp_at_zero Go.wp_at_succ
attribute [local go_sem] wrap_lit
set_option maxRecDepth 100000 in
set_option maxHeartbeats 4000000 in
theorem order5 {K : Nat} {w : World} (E : Env K w) (hK : K ≤ w.heap.size) (need win keep : Int) (A A' : Option Addr) (ca ca' : Nat) (U G : List Int) (hA : Is .u8 w w.heap.size A U) (hA' : Is .u8 w w.heap.size A' G) (hU : ∀ a ∈ U, 0 ≤ a ∧ a ≤ 255) (hG : ∀ a ∈ G, 0 ≤ a ∧ a ≤ 255) (hcU : U.length ≤ ca) :
    Calls Tryd.prog 5 #[.int .i64 need, .int .i64 win, .int .i64 keep, .slice A U.length ca, .slice A' G.length ca'] w fun e w' => e = .returned (.bool true) ∧ Below w.heap.size w w' := by
  have HE := Lib.hid E
  have HA := Lib.hid hA
  have HA' := Lib.hid hA'
  have HU := Lib.hid hU
  have HG := Lib.hid hG
  clear E hA hA' hU hG
  by_cases hn : newE need win keep = 0
  · by_cases hg : 30 < G.length
    · have q1 : decide (30 < G.length) = true := decide_eq_true hg
      go_enter Tryd.func5, Tryd.ntmps5
      go_wp2_with fail
      refine (new8 need win keep w).mono ?_
      rintro e wa (⟨-, H1, mb1, bk1, gk1, O1, rfl, T1, n1, b1⟩ | ⟨hh, -, -⟩)
      rotate_left
      · exact absurd (hn.symm.trans hh) (by decide)
      have HT1 := Lib.hid T1
      have hsa := b1.size
      clear T1
      go_wp2_with fail
      refine (new8 need win keep wa).mono ?_
      rintro e w0 (⟨-, H2, mb2, bk2, gk2, O2, rfl, T2, n2, b2⟩ | ⟨hh, -, -⟩)
      rotate_left
      · exact absurd (hn.symm.trans hh) (by decide)
      have SS : Hid (St2 w.heap.size w w0 (fun _ => False) H1 ⟨need, win, keep, 0, []⟩ H2 ⟨need, win, keep, 0, []⟩) := Lib.hid (St2.made ⟨_, _, _, HT1.out⟩ n1 b1 (Ok.new hn) ⟨_, _, _, T2⟩ n2 b2 (Ok.new hn))
      clear T2 n1 n2 b1 b2 HT1
      go_wp2_with fail
      have hbw := SS.out.bel
      refine (awake10 (HE.out.below (hbw.mono hK)) (Nat.le_trans hK hbw.size)).mono ?_
      rintro e w1 ⟨rfl, hb1⟩
      have hB1 := hbw.trans (hb1.mono hbw.size)
      clear hbw
      go_wp2_with fail
      go_ret
      exact ⟨rfl, hB1⟩
    · have q1 : decide (30 < G.length) = false := decide_eq_false hg
      by_cases hu : 60 < U.length
      · have q2 : decide (60 < U.length) = true := decide_eq_true hu
        go_enter Tryd.func5, Tryd.ntmps5
        go_wp2_with fail
        refine (new8 need win keep w).mono ?_
        rintro e wa (⟨-, H1, mb1, bk1, gk1, O1, rfl, T1, n1, b1⟩ | ⟨hh, -, -⟩)
        rotate_left
        · exact absurd (hn.symm.trans hh) (by decide)
        have HT1 := Lib.hid T1
        have hsa := b1.size
        clear T1
        go_wp2_with fail
        refine (new8 need win keep wa).mono ?_
        rintro e w0 (⟨-, H2, mb2, bk2, gk2, O2, rfl, T2, n2, b2⟩ | ⟨hh, -, -⟩)
        rotate_left
        · exact absurd (hn.symm.trans hh) (by decide)
        have SS : Hid (St2 w.heap.size w w0 (fun _ => False) H1 ⟨need, win, keep, 0, []⟩ H2 ⟨need, win, keep, 0, []⟩) := Lib.hid (St2.made ⟨_, _, _, HT1.out⟩ n1 b1 (Ok.new hn) ⟨_, _, _, T2⟩ n2 b2 (Ok.new hn))
        clear T2 n1 n2 b1 b2 HT1
        go_wp2_with fail
        have hbw := SS.out.bel
        refine (awake10 (HE.out.below (hbw.mono hK)) (Nat.le_trans hK hbw.size)).mono ?_
        rintro e w1 ⟨rfl, hb1⟩
        have hB1 := hbw.trans (hb1.mono hbw.size)
        clear hbw
        go_wp2_with fail
        go_ret
        exact ⟨rfl, hB1⟩
      · have q2 : decide (60 < U.length) = false := decide_eq_false hu
        go_enter Tryd.func5, Tryd.ntmps5
        go_wp2_with fail
        refine (new8 need win keep w).mono ?_
        rintro e wa (⟨-, H1, mb1, bk1, gk1, O1, rfl, T1, n1, b1⟩ | ⟨hh, -, -⟩)
        rotate_left
        · exact absurd (hn.symm.trans hh) (by decide)
        have HT1 := Lib.hid T1
        have hsa := b1.size
        clear T1
        go_wp2_with fail
        refine (new8 need win keep wa).mono ?_
        rintro e w0 (⟨-, H2, mb2, bk2, gk2, O2, rfl, T2, n2, b2⟩ | ⟨hh, -, -⟩)
        rotate_left
        · exact absurd (hn.symm.trans hh) (by decide)
        have SS : Hid (St2 w.heap.size w w0 (fun _ => False) H1 ⟨need, win, keep, 0, []⟩ H2 ⟨need, win, keep, 0, []⟩) := Lib.hid (St2.made ⟨_, _, _, HT1.out⟩ n1 b1 (Ok.new hn) ⟨_, _, _, T2⟩ n2 b2 (Ok.new hn))
        clear T2 n1 n2 b1 b2 HT1
        go_wp2_with fail
        have hbw := SS.out.bel
        refine (awake10 (HE.out.below (hbw.mono hK)) (Nat.le_trans hK hbw.size)).mono ?_
        rintro e w1 ⟨rfl, hb1⟩
        have hB1 := hbw.trans (hb1.mono hbw.size)
        clear hbw
        have SS := Lib.hid (SS.out.below hb1)
        clear hb1 hB1
        go_wp2_with fail
        have hgl : G.length ≤ 30 := by omega
        have hul : U.length ≤ 60 := by omega
        go_loopw [10, 15, 16, 17, 18, 19] (fun r tm ii _ _ _ wr => ∃ (i : Nat) (T : Int) (ta tb : Ts) (F : Nat → Prop), i ≤ G.length ∧ r = .bool false ∧ ii = .int .i64 i ∧ tm = .int .i64 T ∧ 0 ≤ T ∧ T ≤ 255 * (i : Int) ∧ Rl U T ta tb ∧ St2 w.heap.size w wr F H1 ta H2 tb) (fun _ _ ii _ _ _ _ => G.length - (intOf ii).toNat)
        case atStart => exact ⟨0, 0, _, _, _, Nat.zero_le _, rfl, rfl, rfl, Int.le_refl _, by omega, Rl.new hn, SS.out⟩
        case round =>
          obtain ⟨i, T, ta, tb, F, hi, rfl, rfl, rfl, hT0, hT1, hR, hS⟩ := hrel
          have HR := Lib.hid hR
          have SS := Lib.hid hS
          have hbr := hS.bel
          clear hR hS
          by_cases hlt : i < G.length
          · obtain ⟨b', off', rfl, hbb', hc'⟩ := (HA'.out.below hbr) (by omega)
            have hci := hc' i hlt
            obtain ⟨hg0, hg1⟩ := HG.out (nth G i) (by simp [nth, List.getD_eq_getElem?_getD, hlt])
            have hltI : (i : Int) < (G.length : Int) := by omega
            clear hc'
            go_upto_region 11 with fail
            obtain ⟨f, hf⟩ : ∃ f : Nat, f = min (2 * i) U.length := ⟨_, rfl⟩
            have hfU : f ≤ U.length := by omega
            have hfI : min (2 * (i : Int)) (U.length : Int) = (f : Int) := by omega
            rw [hfI]
            obtain ⟨l, hl⟩ : ∃ l : List Int, l = (U.drop f).take 3 := ⟨_, rfl⟩
            have hlN : l.length = min (f + 3) U.length - f := by rw [hl, List.length_take, List.length_drop]; omega
            have hmI : min ((f : Int) + 3) (U.length : Int) = ((min (f + 3) U.length : Nat) : Int) := by omega
            go_cut [18] from 60 to 153 (fun v wx => ∃ (B : Option Addr) (cm : Nat), v = .slice B l.length cm ∧ l.length ≤ cm ∧ wx = wr ∧ (0 < l.length → ∃ b off, B = some ⟨b, off, none⟩ ∧ b < w.heap.size ∧ ∀ j, j < l.length → wr.cell? ⟨b, off + j, none⟩ = some (.int .u8 (nth l j))))
            case first =>
              have HLN := Lib.hid hlN
              have HF := Lib.hid hf
              clear hlN hf
              have hh1 : f ≤ min (f + 3) U.length := by omega
              have hh2 : min (f + 3) U.length ≤ ca := by omega
              have HMI := Lib.hid hmI
              generalize hM : min (f + 3) U.length = M at hmI hh1 hh2
              have hml : M - f = l.length := by have := HLN.out; omega
              have HML := Lib.hid hml
              clear hml
              have hvals : ∀ (b off : Nat) (sp : Option Nat), A = some ⟨b, off, sp⟩ → 0 < l.length → sp = none ∧ b < w.heap.size ∧ ∀ j, j < l.length → wr.cell? ⟨b, off + f + j, none⟩ = some (.int .u8 (nth l j)) := fun b off sp hA hlp => by
                have hln := HLN.out
                obtain ⟨b2, off2, e, hb2, hc2⟩ := (HA.out.below hbr) (by omega)
                rw [hA] at e
                injection e with e
                injection e with e1 e2 e3
                subst e1 e2 e3
                refine ⟨rfl, hb2, fun j hj => ?_⟩
                rw [Nat.add_assoc, hc2 (f + j) (by omega)]
                have hj' := hj
                rw [hl, List.length_take, List.length_drop] at hj'
                have : nth l j = nth U (f + j) := by
                  rw [hl]
                  simp only [nth, List.getD_eq_getElem?_getD]
                  rw [List.getElem?_take_of_lt (by omega), List.getElem?_drop]
                rw [this]
              have HVA := Lib.hid hvals
              clear hvals
              rcases A with _ | ⟨b, off, sp⟩
              · have hno : ¬ 0 < l.length := fun h => by
                  have hln := HLN.out
                  obtain ⟨b2, off2, e, _⟩ := (HA.out.below hbr) (by omega)
                  cases e
                have HNO := Lib.hid hno
                clear hno
                go_wp2_with fail
                all_goals
                  rw [HML.out]
                  go_meet
                  exact ⟨_, _, rfl, by have := HML.out; omega, rfl, fun h => absurd h HNO.out⟩
              · have HV := Lib.hid (HVA.out b off sp rfl)
                by_cases hfc : f = ca
                · subst hfc
                  go_wp2_with fail
                  have hl0 : l.length = 0 := by have := HML.out; omega
                  go_meet
                  exact ⟨_, 0, by rw [hl0], by omega, rfl, fun h => by omega⟩
                · go_wp2_with fail
                  all_goals
                    rw [HML.out]
                    go_meet
                    refine ⟨_, _, rfl, by have := HML.out; omega, rfl, fun h => ?_⟩
                    obtain ⟨e1, e2, e3⟩ := HV.out h
                    subst e1
                    exact ⟨b, off + f, by rw [Addr.add_lit], e2, e3⟩
            case rest =>
              obtain ⟨B, cm, rfl, hlc, hw, hB⟩ := hcut
              rw [hw]
              clear hw wc
              obtain ⟨s, hs⟩ : ∃ s : Int, s = T + nth G i := ⟨_, rfl⟩
              rw [← hs]
              have hs0 : 0 ≤ s := by omega
              have hs1 : s ≤ 1073741824 := by omega
              have hs2 : s ≤ 255 * ((i : Int) + 1) := by omega
              have HST := Lib.hid (HR.out.start (s := s) (by omega))
              obtain ⟨base, hbase⟩ : ∃ base : Ts, base = advT ta s := ⟨_, rfl⟩
              have hbn : base.now = s := by rw [hbase]; rfl
              rw [← hbase] at HST
              have hlU : ∀ a ∈ l, a ∈ U := fun a ha => by rw [hl] at ha; exact List.mem_of_mem_drop (List.mem_of_mem_take ha)
              have HLU := Lib.hid hlU
              have hBw : 0 < l.length → ∃ b off, B = some ⟨b, off, none⟩ ∧ b < w.heap.size ∧ ∀ j, j < l.length → w.cell? ⟨b, off + j, none⟩ = some (.int .u8 (nth l j)) := fun h => by
                obtain ⟨b, off, e1, e2, e3⟩ := hB h
                exact ⟨b, off, e1, e2, fun j hj => (hbr.cell (p := ⟨b, off + j, none⟩) e2).symm.trans (e3 j hj)⟩
              have HBW := Lib.hid hBw
              have HS' := Lib.hid hs
              have hl3 : l.length ≤ 3 := by rw [hl, List.length_take]; omega
              clear hB hBw hlU hbase hs hf hl hlN hfI hmI hci
              go_wp2_with fail
              go_loopw [10, 19] (fun r kk wq => ∃ (k : Nat) (xa xb : Ts) (F : Nat → Prop) (M : List Int), k ≤ l.length ∧ r = .bool false ∧ kk = .int .i64 k ∧ Half base s (l.take k) xa ∧ Half base s M xb ∧ (∀ a ∈ M, a ∈ l) ∧ (∀ j, j < k → nth l (l.length - 1 - j) ∈ M) ∧ St2 w.heap.size w wq F H1 xa H2 xb) (fun _ kk _ => l.length - (intOf kk).toNat)
              case atStart => exact ⟨0, ta, tb, _, [], Nat.zero_le _, rfl, rfl, HST.out.1, HST.out.2.1, fun a ha => (by cases ha), fun j hj => absurd hj (by omega), SS.out⟩
              case round =>
                obtain ⟨k, xa, xb, F2, M, hk, rfl, rfl, hHa, hHb, hM1, hM2, hS⟩ := hrel
                have SQ := Lib.hid hS
                have hbq := hS.bel
                have HHA := Lib.hid hHa
                have HHB := Lib.hid hHb
                have HM1 := Lib.hid hM1
                have HM2 := Lib.hid hM2
                clear hHa hHb hM1 hM2 hS
                by_cases hkl : k < l.length
                · obtain ⟨b, off, rfl, hbl, hc⟩ := HBW.out (by omega)
                  have hmem : ∀ j, j < l.length → nth l j ∈ l := fun j hj => by simp [nth, List.getD_eq_getElem?_getD, hj]
                  have hran : ∀ j, j < l.length → 0 ≤ nth l j ∧ nth l j ≤ 255 := fun j hj => HU.out _ (HLU.out _ (hmem j hj))
                  obtain ⟨a10, a11⟩ := hran k hkl
                  obtain ⟨a20, a21⟩ := hran (l.length - 1 - k) (by omega)
                  obtain ⟨a30, a31⟩ := hran 0 (by omega)
                  have HME := Lib.hid hmem
                  clear hran hmem
                  obtain ⟨E1, N1⟩ := HHA.out.hear HST.out.2.2.2 hs0 hs1 HST.out.2.2.1 (fun a ha => HLU.out a (List.mem_of_mem_take ha)) (by omega) (a := nth l k) a10 (by omega)
                  obtain ⟨E2, N2⟩ := HHB.out.hear HST.out.2.2.2 hs0 hs1 HST.out.2.2.1 (fun a ha => HLU.out a (HM1.out a ha)) (by omega) (a := nth l (l.length - 1 - k)) a20 (by omega)
                  obtain ⟨E3, N3⟩ := N2.hear HST.out.2.2.2 hs0 hs1 HST.out.2.2.1 (fun a ha => HLU.out a (by
                    rcases List.mem_append.1 ha with ha | ha
                    · exact HM1.out a ha
                    · simp at ha; subst ha; exact HME.out _ (by omega))) (by omega) (a := nth l 0) a30 (by omega)
                  have HN1 := Lib.hid N1
                  have HN3 := Lib.hid N3
                  have HE1 := Lib.hid E1
                  have HE2 := Lib.hid E2
                  have HE3 := Lib.hid E3
                  have c1 : wr.cell? ⟨b, off + k, none⟩ = some (.int .u8 (nth l k)) := (hbq.cell (p := ⟨b, off + k, none⟩) hbl).trans (hc k hkl)
                  have HC2 := Lib.hid (hc (l.length - 1 - k) (by omega))
                  have HC3 := Lib.hid (hc 0 (by omega))
                  have hklI : (k : Int) < (l.length : Int) := by omega
                  clear N1 N2 N3 E1 E2 E3 hc
                  go_wp2_with fail
                  refine (heardA SQ.out (nth l k) s).mono ?_
                  rintro e w2 ⟨rfl, hS, -⟩
                  rw [HE1.out]
                  have SQ := Lib.hid hS.swap
                  have c2 : w2.cell? ⟨b, off + (l.length - 1 - k), none⟩ = some (.int .u8 (nth l (l.length - 1 - k))) := (hS.bel.cell (p := ⟨b, off + (l.length - 1 - k), none⟩) hbl).trans HC2.out
                  have t2 : ((l.length : Int) - 1 - (k : Int)).toNat = l.length - 1 - k := by omega
                  have t20 : (0 : Int) ≤ (l.length : Int) - 1 - (k : Int) := by omega
                  have t21 : (l.length : Int) - 1 - (k : Int) < (l.length : Int) := by omega
                  clear hS
                  go_wp2_with fail
                  refine (heardA SQ.out (nth l (l.length - 1 - k)) s).mono ?_
                  rintro e w3 ⟨rfl, hS, -⟩
                  rw [HE2.out]
                  have SQ := Lib.hid hS
                  have c3 : w3.cell? ⟨b, off, none⟩ = some (.int .u8 (nth l 0)) := (hS.bel.cell (p := ⟨b, off, none⟩) hbl).trans HC3.out
                  clear hS
                  go_wp2_with fail
                  refine (heardA SQ.out (nth l 0) s).mono ?_
                  rintro e w4 ⟨rfl, hS, -⟩
                  rw [HE3.out]
                  go_wp2_with fail
                  refine ⟨⟨k + 1, _, _, _, _, by omega, rfl, by go_num, ?_, HN3.out, fun a ha => ?_, fun j hj => ?_, hS.swap⟩, by simp [intOf]; omega⟩
                  · rw [take_nth l k hkl]; exact HN1.out
                  · rcases List.mem_append.1 ha with ha | ha
                    · rcases List.mem_append.1 ha with ha | ha
                      · exact HM1.out a ha
                      · simp at ha; subst ha; exact HME.out _ (by omega)
                    · simp at ha; subst ha; exact HME.out _ (by omega)
                  · by_cases hjk : j = k
                    · subst hjk; simp
                    · have := HM2.out j (by omega)
                      simp [this]
                · obtain rfl : k = l.length := by omega
                  rw [List.take_length] at HHA
                  have hLM : ∀ a, a ∈ l ↔ a ∈ M := fun a => ⟨fun ha => by
                    obtain ⟨j, hj, e⟩ := List.getElem_of_mem ha
                    have := HM2.out (l.length - 1 - j) (by omega)
                    rw [show l.length - 1 - (l.length - 1 - j) = j by omega] at this
                    rw [← e]
                    simpa [nth, List.getD_eq_getElem?_getD, hj] using this, HM1.out a⟩
                  have NX := fun tb' ht => Rl.next HHA.out HHB.out HST.out.2.2.2 hbn HST.out.2.2.1 HLU.out hLM hs0 hs1 (tb' := tb') ht
                  have HNX := Lib.hid NX
                  obtain ⟨ta1, -⟩ := HHA.out.tick hs0 hs1
                  obtain ⟨tb1, -⟩ := HHB.out.tick hs0 hs1
                  have HTA := Lib.hid ta1
                  have HTB := Lib.hid tb1
                  have hi30 : (i : Int) ≤ 30 := by omega
                  clear hLM NX ta1 tb1
                  go_wp2_with fail
                  refine (tickA SQ.out s).mono ?_
                  rintro e w2 ⟨rfl, hS, -⟩
                  rw [HTA.out]
                  have SS := Lib.hid hS
                  clear hS SQ
                  cases hev : ((i : Int) % 2 == 0) with
                  | true =>
                    go_wp2_with fail
                    refine (tickA SS.out.swap s).mono ?_
                    rintro e w3 ⟨rfl, hS, -⟩
                    rw [HTB.out]
                    have SS := Lib.hid hS.swap
                    clear hS
                    have hnow : (tickT xb s).now = s := by unfold tickT; rw [if_pos HTB.out]; rfl
                    have HRL := Lib.hid (HNX.out _ (.inr rfl)).1
                    have HEQ := Lib.hid ((HNX.out _ (.inr rfl)).2 hnow)
                    have qn : ((tickT xb s).now == s) = true := by simpa using hnow
                    clear hnow
                    go_wp2_with fail
                    refine (nowA SS.out.swap).mono ?_
                    rintro e w4 ⟨rfl, hw⟩
                    rw [hw]
                    clear hw w4
                    go_wp2_with fail
                    refine (saveA HE.out hK SS.out).mono ?_
                    rintro e w5 ⟨rfl, hS, -⟩
                    have SS := Lib.hid hS
                    clear hS
                    go_wp2_with fail
                    refine (saveA HE.out hK SS.out.swap).mono ?_
                    rintro e w6 ⟨rfl, hS, -⟩
                    have SS := Lib.hid hS.swap
                    clear hS
                    rw [HEQ.out]
                    go_wp2_with fail
                    exact ⟨⟨i + 1, s, _, _, _, by omega, rfl, by go_num, rfl, hs0, by omega, HRL.out, SS.out⟩, by simp [intOf]; omega⟩
                  | false =>
                    have HRL := Lib.hid (HNX.out _ (.inl rfl)).1
                    by_cases hnow : xb.now = s
                    · have HEQ := Lib.hid ((HNX.out _ (.inl rfl)).2 hnow)
                      have qn : (xb.now == s) = true := by simpa using hnow
                      clear hnow
                      go_wp2_with fail
                      refine (nowA SS.out.swap).mono ?_
                      rintro e w4 ⟨rfl, hw⟩
                      rw [hw]
                      clear hw w4
                      go_wp2_with fail
                      refine (saveA HE.out hK SS.out).mono ?_
                      rintro e w5 ⟨rfl, hS, -⟩
                      have SS := Lib.hid hS
                      clear hS
                      go_wp2_with fail
                      refine (saveA HE.out hK SS.out.swap).mono ?_
                      rintro e w6 ⟨rfl, hS, -⟩
                      have SS := Lib.hid hS.swap
                      clear hS
                      rw [show saveT xb = saveT (tickT xa s) from congrArg saveT HEQ.out]
                      go_wp2_with fail
                      exact ⟨⟨i + 1, s, _, _, _, by omega, rfl, by go_num, rfl, hs0, by omega, HRL.out, SS.out⟩, by simp [intOf]; omega⟩
                    · have qn : (xb.now == s) = false := by simpa using hnow
                      clear hnow
                      go_wp2_with fail
                      refine (nowA SS.out.swap).mono ?_
                      rintro e w4 ⟨rfl, hw⟩
                      rw [hw]
                      clear hw w4
                      go_wp2_with fail
                      exact ⟨⟨i + 1, s, _, _, _, by omega, rfl, by go_num, rfl, hs0, by omega, HRL.out, SS.out⟩, by simp [intOf]; omega⟩
          · obtain rfl : i = G.length := by omega
            have hlenA : ∀ k, (addrsT ta k).length ≤ 1000000 := fun k => by
              have h1 := HR.out.oka.len
              have h2 := List.length_filter_le (fun p : Int × Tk => p.2.kn == k) ta.es
              unfold addrsT
              rw [List.length_map]
              omega
            have hte : tickE tb T = 0 ∧ tickT tb T = ta := by
              have h1 := HR.out.le
              have e : tickE tb T = 0 := by unfold tickE; rw [if_neg (by omega), if_neg (by omega)]
              exact ⟨e, by unfold tickT; rw [if_pos e]; exact HR.out.eq⟩
            go_wp2_with fail
            refine (tickA SS.out.swap T).mono ?_
            rintro e w2 ⟨rfl, hS, -⟩
            rw [hte.1]
            rw [hte.2] at hS
            have SS := Lib.hid hS.swap
            clear hS
            go_wp2_with fail
            refine (knownA SS.out).mono ?_
            rintro e w3 ⟨A1, c1, rfl, h1, -, hS, hb⟩
            have F1 := Lib.hid h1
            have SS := Lib.hid hS.swap
            clear h1 hS hb
            go_wp2_with fail
            refine (knownA SS.out).mono ?_
            rintro e w4 ⟨A2, c2, rfl, h2, -, hS, hb⟩
            have F1 := Lib.hid (F1.out.below SS.out.lt hb)
            have F2 := Lib.hid h2
            have SS := Lib.hid hS.swap
            clear h2 hS hb
            go_wp2_with fail
            refine (equalA F1.out F2.out (hlenA true) c1 c2).mono ?_
            rintro e w5 ⟨rfl, hb⟩
            rw [show decide (addrsT ta true = addrsT ta true) = true from decide_eq_true rfl]
            have SS := Lib.hid (SS.out.below hb)
            clear hb
            go_wp2_with fail
            refine (pendA SS.out).mono ?_
            rintro e w3 ⟨A1, c1, rfl, h1, -, hS, hb⟩
            have F1 := Lib.hid h1
            have SS := Lib.hid hS.swap
            clear h1 hS hb
            go_wp2_with fail
            refine (pendA SS.out).mono ?_
            rintro e w4 ⟨A2, c2, rfl, h2, -, hS, hb⟩
            have F1 := Lib.hid (F1.out.below SS.out.lt hb)
            have F2 := Lib.hid h2
            have SS := Lib.hid hS.swap
            clear h2 hS hb
            go_wp2_with fail
            refine (equalA F1.out F2.out (hlenA false) c1 c2).mono ?_
            rintro e w5 ⟨rfl, hb⟩
            rw [show decide (addrsT ta false = addrsT ta false) = true from decide_eq_true rfl]
            have SS := Lib.hid (SS.out.below hb)
            clear hb
            go_wp2_with fail
            go_ret
            exact ⟨rfl, SS.out.bel⟩
  · have hn1 : newE need win keep = 1 := by
      unfold newE at hn ⊢
      split
      · rfl
      · rename_i h; rw [if_neg h] at hn; exact absurd rfl hn
    go_enter Tryd.func5, Tryd.ntmps5
    go_wp2_with fail
    refine (new8 need win keep w).mono ?_
    rintro e wa (⟨hh, -⟩ | ⟨-, rfl, hw⟩)
    · exact absurd (hn1.symm.trans hh) (by decide)
    rw [hw]
    clear hw wa
    go_wp2_with fail
    refine (new8 need win keep w).mono ?_
    rintro e wa (⟨hh, -⟩ | ⟨-, rfl, hw⟩)
    · exact absurd (hn1.symm.trans hh) (by decide)
    rw [hw]
    clear hw wa
    go_wp2_with fail
    refine (awake10 HE.out hK).mono ?_
    rintro e w1 ⟨rfl, hb1⟩
    go_wp2_with fail
    go_ret
    exact ⟨rfl, hb1⟩
end Go.Proofs.YtkikokldijccnaaDoor
