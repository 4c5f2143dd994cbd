/- WhisperPlans returns true for every input. -/
import Derived.Test.YtlbchidgadcmpaaRows
import Derived.WalkKit
import Derived.WalkLawsBesides
import Derived.WalkSpells
import Derived.ProofKit
import Derived.Below
import Derived.Outline
import Derived.Lib.Hide
import Derived.Deep.RegionWith
import Derived.Deep.RegionHeld3
import Derived.Deep.DrawnRows
import Derived.StillTailTactics
import Derived.BigQuiet
import Derived.Deep.QuietTactic
import Derived.Deep.LoopGhost
import Derived.IntWalk
import Derived.Test.YtlbchidgadcmpaaWhG
import Derived.Test.YtlbchidgadcmpaaKS
import Derived.Deep.DeepCutAuto
import Derived.WalkKit
import Derived.ProofKit
import Derived.OpenShut
import Derived.ShutString
import Derived.ChangeOld
import Derived.Below
import Derived.Lib.SmallJoins
namespace Go.Proofs.Ytlbchidgadcmpaa
open Go.RowKit
attribute [local go_sem ↓] Go.wp_at_zero Go.wp_at_succ
attribute [local go_sem] wrap_lit

set_option maxRecDepth 100000 in
set_option maxHeartbeats 8000000 in
theorem whPlans (A : Option Addr) (cap : Nat) (xs : List Int) (most : Int) (w : World) (hA : Is .i64 w w.heap.size A xs) (hm : xs.length ≤ maxLen) :
    Calls Try.prog 4 #[.slice A xs.length cap, .int .i64 most] w fun e w' => e = .returned (.bool true) ∧ Below w.heap.size w w' := by
  have L := long9 none A 0 cap 0 xs.length w (by unfold maxLen; decide) hm
  by_cases hl : 80 < xs.length
  · rw [decide_eq_true (.inr hl)] at L
    have L := Lib.hid L
    clear hA hm hl
    go_enter Try.func4, Try.ntmps4
    go_wp2_with fail
    refine L.out.mono ?_
    rintro e w1 ⟨rfl, rfl⟩
    go_wp2_with fail
    refine (awake10 _).mono ?_
    rintro e w2 ⟨rfl, hb2⟩
    go_wp2_with fail
    go_ret
    exact ⟨rfl, hb2⟩
  · rw [decide_eq_false (by omega)] at L
    have L := Lib.hid L
    have l2 : xs.length ≤ 80 := by omega
    have Cw := Lib.hid hA
    have q1 : (plE xs most != plE xs most) = false := by simp
    have pl : (plL xs most).length ≤ 255 := by
      by_cases h : plE xs most = 0
      · rw [plL_ok h, List.length_map, Pl_len (fits_pl h) _ 0 (Nat.le_refl _) (by omega)]
        exact F_bd _ _ _ (Nat.le_refl _)
      · rw [plL_bad h]; simp
    clear hA hm hl
    go_enter Try.func4, Try.ntmps4
    go_wp2_with fail
    refine L.out.mono ?_
    rintro e w1 ⟨rfl, rfl⟩
    clear L
    go_wp2_with fail
    have Bw := Lib.hid (Below.refl w.heap.size w)
    refine (copyInts A cap xs w Cw.out (by omega)).mono ?_
    rintro e w1 ⟨v1, rfl, hv1, hb1⟩
    have Bw1 := Lib.hid (Bw.out.trans ((hb1).mono Bw.out.size))
    have Sw1 := (hb1).size
    have Cw1 := Lib.hid (Cw.out.nxt (hb1))
    clear Bw Cw
    clear hb1
    obtain ⟨A1, C1, rfl, own1⟩ := hv1.own
    have Qw1 := Lib.hid (own1.is)
    clear hv1 own1
    go_wp2_with fail
    have LKw1 : w1.heap.size ≤ w1.heap.size := by omega
    have Ckw1 := Cw1
    have Qkw1 := Qw1
    refine (plan25 A1 C1 xs most w1.heap.size w1 (Nat.le_refl _) Qw1.out (by omega)).mono ?_
    rintro e w2 ⟨v2, rfl, hv2, hb2⟩
    have Bw2 := Lib.hid (Bw1.out.trans ((hb2).mono Bw1.out.size))
    have Sw2 := (hb2).size
    have Cw2 := Lib.hid (Cw1.out.nxt (hb2))
    have Qw2 := Lib.hid (Qw1.out.nxt (hb2))
    have Ckw2 := Lib.hid (Ckw1.out.below ((hb2).mono LKw1))
    have Qkw2 := Lib.hid (Qkw1.out.below ((hb2).mono LKw1))
    have LKw2 : w1.heap.size ≤ w2.heap.size := by omega
    clear Bw1 Cw1 Qw1 Ckw1 Qkw1
    clear hb2
    obtain ⟨A2, C2, rfl, own2⟩ := hv2.own
    have Ow2 := Lib.hid (own2)
    clear hv2 own2
    go_wp2_with fail
    refine (plan26 A cap xs most w2.heap.size w2 (Nat.le_refl _) Cw2.out (by omega)).mono ?_
    rintro e w3 ⟨v3, rfl, hv3, hb3⟩
    have Bw3 := Lib.hid (Bw2.out.trans ((hb3).mono Bw2.out.size))
    have Sw3 := (hb3).size
    have Cw3 := Lib.hid (Cw2.out.nxt (hb3))
    have Qw3 := Lib.hid (Qw2.out.nxt (hb3))
    have Ckw3 := Lib.hid (Ckw2.out.below ((hb3).mono LKw2))
    have Qkw3 := Lib.hid (Qkw2.out.below ((hb3).mono LKw2))
    have Ow3 := Lib.hid (Ow2.out.below (hb3))
    have LKw3 : w1.heap.size ≤ w3.heap.size := by omega
    clear Bw2 Cw2 Qw2 Ckw2 Qkw2 Ow2
    clear hb3
    obtain ⟨A3, C3, rfl, own3⟩ := hv3.own
    have Rw3 := Lib.hid (own3.is)
    clear hv3 own3
    go_wp2_with fail
    refine (equalSteps A2 A3 C2 C3 (plL xs most) (plL xs most) w3.heap.size w3 Ow3.out.is Rw3.out (by omega)).mono ?_
    rintro e w4 ⟨rfl, hd4⟩
    have Bw4 := Lib.hid (Bw3.out.trans ((hd4.below).mono Bw3.out.size))
    have Sw4 := (hd4.below).size
    have Cw4 := Lib.hid (Cw3.out.nxt (hd4.below))
    have Qw4 := Lib.hid (Qw3.out.nxt (hd4.below))
    have Ckw4 := Lib.hid (Ckw3.out.below ((hd4.below).mono LKw3))
    have Qkw4 := Lib.hid (Qkw3.out.below ((hd4.below).mono LKw3))
    have Ow4 := Lib.hid (Ow3.out.below (hd4.below))
    have Rw4 := Lib.hid (Rw3.out.nxt (hd4.below))
    have LKw4 : w1.heap.size ≤ w4.heap.size := by omega
    clear Bw3 Cw3 Qw3 Ckw3 Qkw3 Ow3 Rw3
    clear hd4
    have d1 : decide (plL xs most = plL xs most) = true := by simp
    go_wp2_with fail
    obtain ⟨l, hl⟩ : ∃ l, l = plL xs most := ⟨_, rfl⟩
    rw [← hl] at Ow4 pl ⊢
    have hfl := flatS_len l
    clear hl d1 Rw4
    go_loopw [10] (fun i wr => ∃ k : Nat, k ≤ l.length ∧ i = .int .i64 k ∧ Below w1.heap.size w4 wr ∧ (0 < l.length → ∃ g cs, A2 = some ⟨g, 0, none⟩ ∧ w1.heap.size ≤ g ∧ wr.heap[g]? = some (.cells cs 44 (0, 0)) ∧ l.length * 2 ≤ cs.size)) (fun i _ => l.length - (intOf i).toNat)
    case atStart =>
      refine ⟨0, Nat.zero_le _, rfl, Below.refl _ _, fun hn => ?_⟩
      obtain ⟨g, cs, e1, e2, e3, e4⟩ := Ow4.out (by omega)
      have := (Array.getElem?_eq_some_iff.1 (e4 ((flatS l).length - 1) (by omega))).1
      exact ⟨g, cs, e1, e2, e3, by omega⟩
    case round =>
      clear Ow4
      obtain ⟨k, hk, rfl, hb, hg⟩ := hrel
      have HB := Lib.hid hb
      by_cases hlt : k < l.length
      · obtain ⟨g, cs, rfl, h1, h2, h3⟩ := hg (by omega)
        obtain ⟨⟨u, c0⟩, p0⟩ := cell_in h2 (i := k * 2) (by omega)
        obtain ⟨⟨u', c1⟩, p1⟩ := cell_in h2 (i := k * 2 + 1) (by omega)
        have H2 := Lib.hid h2
        clear hg h2 hb hfl
        have hlI : (k : Int) < (l.length : Int) := by omega
        have hk0 : (0 : Int) ≤ (k : Int) := by omega
        go_wp2_with fail
        exact ⟨⟨k + 1, by omega, by go_num, (HB.out.setCell (p := ⟨g, k * 2, none⟩) h1 _).setCell (p := ⟨g, k * 2 + 1, none⟩) h1 _, fun _ => ⟨g, _, rfl, h1, setH (setH H2.out), by simpa using h3⟩⟩, by simp [intOf]; omega⟩
      · have hlI : (l.length : Int) ≤ (k : Int) := by omega
        have sR := hb.size
        have Cr := Lib.hid (Ckw4.out.below hb)
        have Qr := Lib.hid (Qkw4.out.below hb)
        have Br := Lib.hid (Bw4.out.trans (hb.mono (by omega)))
        clear hg hb hfl
        go_wp2_with fail
        refine (equalInts A1 A C1 cap xs xs w1.heap.size wr Qr.out Cr.out (by omega)).mono ?_
        rintro e w6 ⟨rfl, hd6⟩
        have B6 := Lib.hid (Br.out.trans (((show DrN wr w6 from hd6).below).mono Br.out.size))
        have d2 : decide (xs = xs) = true := by simp
        clear hd6
        go_wp2_with fail
        refine (awake10 _).mono ?_
        rintro e w7 ⟨rfl, hb7⟩
        have B7 := Lib.hid (B6.out.trans (hb7.mono B6.out.size))
        clear hb7
        go_wp2_with fail
        go_ret
        exact ⟨rfl, B7.out⟩
theorem whWhisperPlansL (A : Option Addr) (len cap : Nat) (zs : List Int) (most : Int) (w : World) (h2 : IsRow .i64 w A len cap zs) :
    Calls Try.prog 4 #[.slice A len cap, .int .i64 most] w fun e w' => e = .returned (.bool true) ∧ Below w.heap.size w w' := by
  obtain ⟨k1, k2, k3, -⟩ := Is.of_row h2
  generalize zs.take len = xs at k1 k2
  subst k2
  exact whPlans A cap xs most w k1 k3

namespace whisperPlansRow
open Go.ChangeShapes Go.WideShapes Go.ChangeAt Go.RowKit
open Go.ChangeMaps (open_string shut_string)
set_option linter.unusedVariables false
theorem own : ownKnob Try.prog.godebug = none := by kernel_rfl
theorem laidOut : laidOutB Try.prog = true := by kernel_rfl
set_option maxRecDepth 100000 in
theorem lifted (os : Os) (started : os.Started) (H : Type) (enc : TypeId × Value → H) :
    ReturnsInHanded {} Try.checked os 4 .any (Rows.whisperPlansSpec.pre6 enc Try.prog Try.f4 Rows.whisperPlansRow.domain false) (Rows.whisperPlansSpec.post enc Try.prog Try.f4 false true false false) := by
  refine returnsInHanded_of_change (C := Try.checked) own started (by kernel_rfl) Try.func4
    (ChangeSpec.witness6 (enc := enc) (C := Try.checked) false ⟨#[], #[.slice none 0 0, .int .i64 0], []⟩ 8 (by kernel_rfl) (by kernel_rfl) (by kernel_rfl) (by kernel_rfl)) ?_
  intro W base args ds gs before hval0 hW hcnd _hsz
  have hval : ∀ (j : Nat) t v, Try.f4.params[j]? = some t → args[j]? = some v → Value.okWide Try.prog W .any base t v := hval0
  have hW' := hW
  obtain ⟨p, q, hA0, hV, rfl, hfz, hnd⟩ := hW
  have hA : DataW.TrodAll enc Try.prog W 0 (fun _ => true) true Try.f4.params.toList args.toList ds p := hA0
  rw [Try.params4] at hA hval
  obtain ⟨v0, vs0, d0, ds0, p0, q0, hargs, rfl, rfl, h0, r0⟩ := trodAll_cons hA
  obtain ⟨v1, vs1, d1, ds1, p1, q1, rfl, rfl, rfl, h1, r1⟩ := trodAll_cons r0
  obtain ⟨rfl, rfl, rfl⟩ := trodAll_nil r1
  obtain rfl : args = #[v0, v1] := by cases args; simp_all
  obtain ⟨rfl, rfl⟩ := trodVars_none hV
  have k0 := h0
  have lt0 : ∀ x ∈ p0, x.block < W.heap.size := by obtain ⟨m, hm⟩ := k0; exact DataW.trod_lt m _ _ _ hm
  have k1 := h1
  have lt1 : ∀ x ∈ p1, x.block < W.heap.size := by obtain ⟨m, hm⟩ := k1; exact DataW.trod_lt m _ _ _ hm
  obtain ⟨a0, len0, cap0, rfl⟩ := okWide_slice Try.underlying23 (hval 0 23 v0 rfl rfl)
  obtain ⟨z0, w0⟩ : ∃ zs, IsRow .i64 W a0 len0 cap0 zs := by
    obtain ⟨fuel, hf⟩ := h0
    rcases open_ints Try.underlying23 Try.underlying3 (by kernel_rfl) hf with ⟨hcs, _⟩ | ⟨x, l, c, zs, hcs, _, hl, hm, hz, _, hcell, hwz⟩
    · simp [Value.cells] at hcs
      obtain ⟨rfl, rfl, rfl⟩ := hcs
      exact ⟨[], .inl ⟨rfl, rfl, rfl, rfl⟩⟩
    · simp [Value.cells] at hcs
      obtain ⟨rfl, rfl, rfl⟩ := hcs
      exact ⟨zs, .inr ⟨_, rfl, hl, hm, by simpa using hz, hcell, hwz⟩⟩
  obtain ⟨a1, rfl, -, -, w1⟩ := open_int Try.underlying3 (hval 1 3 v1 rfl rfl) h1
  clear hA0 hval0
  refine (whWhisperPlansL a0 len0 cap0 z0 a1 W w0).mono fun e W' ⟨he, bel⟩ => ?_
  subst he
  exact ⟨_, rfl, _, _, _, [], _, [], hW', trodAll_mk1 (shut_bool Try.underlying4 _), (trodAll_cons_mk (Below.trod laidOut (by kernel_rfl) (of_decide_eq_true (by kernel_rfl)) k0 bel lt0) (trodAll_cons_mk (Below.trod laidOut (by kernel_rfl) (of_decide_eq_true (by kernel_rfl)) k1 bel lt1) trodAll_mk0)), rfl, bel.frame _, fun h => by cases h⟩

theorem over : Rows.whisperPlansRow.holds Try.pinned (OpenSpec.ofChange Rows.whisperPlansSpec) :=
  OpenClaim.holds_of_wide 4 Try.f4 rfl rfl rfl rfl rfl rfl rfl ⟨rfl, rfl, rfl, rfl, rfl⟩ rfl rfl rfl rfl rfl (by kernel_rfl) Try.func4 (by kernel_rfl)
    (of_decide_eq_true (by kernel_rfl)) (by unfold Func.isWrapper; first | (rw [if_pos (by decide +kernel)]; kernel_rfl) | (rw [if_neg (by decide +kernel)]; exact ⟨rfl, rfl⟩))
    (fun os started H enc _ => lifted os started H enc)
theorem proved : Rows.WhisperPlansSaid := over
end whisperPlansRow
end Go.Proofs.Ytlbchidgadcmpaa
