/- RangingRuns returns true for every input: Run of package ranging returns what the reference's Run returns, leaves its argument alone, and its result may be overwritten. -/
import Derived.Test.YtephkhaebkajkaaRgW
import Derived.Test.YtephkhaebkajkaaRgD
import Derived.WalkKit
import Derived.ProofKit
import Derived.OpenShut
import Derived.ShutString
import Derived.ChangeOld
import Derived.Below
import Derived.Lib.SmallJoins
namespace Go.Proofs.Ytephkhaebkajkaa
open Go.RowKit
attribute [local go_sem ↓] Go.wp_at_zero Go.wp_at_succ
attribute [local go_sem] wrap_lit

theorem runsL (A : Option Addr) (cap : Nat) (l : List Int) (w : World) (hl : 300 < l.length) : Calls Try.prog 5 #[.slice A l.length cap] w fun e w' => e = .returned (.bool true) ∧ Below w.heap.size w w' := by
  have h : (300 : Int) < (l.length : Int) := by omega
  go_enter Try.func5, Try.ntmps5
  go_wp2_with fail
  refine (awake19 _).mono ?_
  rintro e w1 ⟨rfl, hb1⟩
  go_wp2_with fail
  go_ret
  exact ⟨rfl, hb1⟩

set_option maxHeartbeats 2000000 in
theorem runs5 (A : Option Addr) (cap : Nat) (l : List Int) (w : World) (hA : Is .i64 w w.heap.size A l) (hl : l.length ≤ 300) : Calls Try.prog 5 #[.slice A l.length cap] w fun e w' => e = .returned (.bool true) ∧ Below w.heap.size w w' := by
  go_enter Try.func5, Try.ntmps5
  go_wp2_with fail
  refine (copyInts A cap l w hA (by omega)).mono ?_
  rintro e w1 ⟨v1, rfl, hacc, hb1⟩
  obtain ⟨A1, cap1, rfl, ho1⟩ := hacc.own
  clear hacc
  go_wp2_with fail
  refine (run21a A1 cap1 l w1 ho1.is).mono ?_
  rintro e w2 ⟨A2, cap2, rfl, ho2, hb2⟩
  go_wp2_with fail
  have hA2 := (hA.below (hb1.trans (hb2.mono hb1.size))).mono (Nat.le_trans hb1.size hb2.size)
  refine (run22a A cap l w2 hA2).mono ?_
  rintro e w3 ⟨A3, cap3, rfl, ho3, hb3⟩
  have ho2' := ho2.below hb3
  go_wp2_with fail
  refine (equal23 A2 A3 cap2 cap3 (runN l) (runN l) (runO l) (runO l) w3.heap.size w3 ho2'.is ho3.is (runO_len l) (runO_len l) (by have := runN_le l; omega)).mono ?_
  rintro e w4 ⟨rfl, nd, rfl⟩
  have hdt : decide (runO l = runO l) = true := by simp
  have hb13 : Below w1.heap.size w1 (w3.drewN nd) := below_drewN (hb2.trans (hb3.mono hb2.size)) nd
  have hG : 0 < runN l → ∃ g cs, A2 = some ⟨g, 0, none⟩ ∧ w1.heap.size ≤ g ∧ (w3.drewN nd).heap[g]? = some (.cells cs 23 (0, 0)) ∧ 3 * runN l ≤ cs.size := fun hn => by
    obtain ⟨g, cs, e1, e2, e3, e4⟩ := ho2' (by rw [runO_len]; omega)
    refine ⟨g, cs, e1, e2, e3, ?_⟩
    have := e4 (3 * runN l - 1) (by rw [runO_len]; omega)
    have := (Array.getElem?_eq_some_iff.1 this).1
    omega
  have HG := Lib.hid hG; clear hG
  go_wp2_with fail
  go_loopw [8] (fun i wr => ∃ k : Nat, k ≤ runN l ∧ i = .int .i64 k ∧ Below w1.heap.size w1 wr ∧ (0 < runN l → ∃ g cs, A2 = some ⟨g, 0, none⟩ ∧ w1.heap.size ≤ g ∧ wr.heap[g]? = some (.cells cs 23 (0, 0)) ∧ 3 * runN l ≤ cs.size)) (fun i _ => runN l - (intOf i).toNat)
  case atStart => exact ⟨0, Nat.zero_le _, rfl, hb13, HG.out⟩
  case round =>
    obtain ⟨k, hk, rfl, hbr, hgr⟩ := hrel
    by_cases hlt : k < runN l
    · obtain ⟨g, cs, rfl, hg, hcs, hsz⟩ := hgr (by omega)
      obtain ⟨⟨u0, c0⟩, p0⟩ := cell_in hcs (i := k * 3) (by omega)
      obtain ⟨⟨u1, c1⟩, p1⟩ := cell_in hcs (i := k * 3 + 1) (by omega)
      obtain ⟨⟨u2, c2⟩, p2⟩ := cell_in hcs (i := k * 3 + 2) (by omega)
      have Hgr := Lib.hid hgr; clear hgr
      have hlI : (k : Int) < (runN l : Int) := by omega
      have hsm := runN_le l
      go_wp2_with fail
      refine ⟨⟨k + 1, by omega, by go_num, ((hbr.setCell hg _).setCell hg _).setCell hg _, fun _ => ⟨g, _, rfl, hg, set3 hcs, by simp [hsz]⟩⟩, by simp [intOf]; omega⟩
    · obtain rfl : k = runN l := by omega
      clear hgr
      go_wp2_with fail
      refine (equalInts A1 A cap1 cap l l w1.heap.size wr (ho1.is.below hbr) ((hA.below (hb1.trans (hbr.mono hb1.size))).mono hb1.size) (by omega)).mono ?_
      rintro e w5 ⟨rfl, nd5, rfl⟩
      have hdt2 : decide (l = l) = true := by simp
      go_wp2_with fail
      refine (awake19 _).mono ?_
      rintro e w6 ⟨rfl, hb6⟩
      go_wp2_with fail
      go_ret
      exact ⟨rfl, (below_drewN (hb1.trans (hbr.mono hb1.size)) nd5).trans (hb6.mono (by have := hbr.size; have := hb1.size; simp; omega))⟩

theorem runs_ (a : Option Addr) (len cap : Nat) (zs : List Int) {w : World} (h : IsRow .i64 w a len cap zs) : Calls Try.prog 5 #[.slice a len cap] w fun e w' => e = .returned (.bool true) ∧ Below w.heap.size w w' := by
  obtain ⟨h1, h2, _, _⟩ := Is.of_row h
  rw [← h2]
  by_cases hl : (zs.take len).length ≤ 300
  · exact runs5 a cap _ w h1 hl
  · exact runsL a cap _ w (by omega)

namespace rangingRunsRow
open Go.ChangeShapes Go.WideShapes Go.ChangeAt Go.RowKit
open Go.ChangeMaps (open_string shut_string)
set_option linter.unusedVariables false
theorem own : ownKnob Try.prog.godebug = none := by kernel_rfl
theorem laidOut : laidOutB Try.prog = true := by kernel_rfl
set_option maxRecDepth 100000 in
theorem lifted (os : Os) (started : os.Started) (H : Type) (enc : TypeId × Value → H) :
    ReturnsInHanded {} Try.checked os 5 .any (Rows.rangingRunsSpec.pre6 enc Try.prog Try.f5 Rows.rangingRunsRow.domain false) (Rows.rangingRunsSpec.post enc Try.prog Try.f5 false true false false) := by
  refine returnsInHanded_of_change (C := Try.checked) own started (by kernel_rfl) Try.func5
    (ChangeSpec.witness6 (enc := enc) (C := Try.checked) false ⟨#[], #[.slice none 0 0], []⟩ 8 (by kernel_rfl) (by kernel_rfl) (by kernel_rfl) (by kernel_rfl)) ?_
  intro W base args ds gs before hval0 hW hcnd _hsz
  have hval : ∀ (j : Nat) t v, Try.f5.params[j]? = some t → args[j]? = some v → Value.okWide Try.prog W .any base t v := hval0
  have hW' := hW
  obtain ⟨p, q, hA0, hV, rfl, hfz, hnd⟩ := hW
  have hA : DataW.TrodAll enc Try.prog W 0 (fun _ => true) true Try.f5.params.toList args.toList ds p := hA0
  rw [Try.params5] at hA hval
  obtain ⟨v0, vs0, d0, ds0, p0, q0, hargs, rfl, rfl, h0, r0⟩ := trodAll_cons hA
  obtain ⟨rfl, rfl, rfl⟩ := trodAll_nil r0
  obtain rfl : args = #[v0] := by cases args; simp_all
  obtain ⟨rfl, rfl⟩ := trodVars_none hV
  have k0 := h0
  have lt0 : ∀ x ∈ p0, x.block < W.heap.size := by obtain ⟨m, hm⟩ := k0; exact DataW.trod_lt m _ _ _ hm
  obtain ⟨a0, len0, cap0, rfl⟩ := okWide_slice Try.underlying36 (hval 0 36 v0 rfl rfl)
  obtain ⟨z0, w0⟩ : ∃ zs, IsRow .i64 W a0 len0 cap0 zs := by
    obtain ⟨fuel, hf⟩ := h0
    rcases open_ints Try.underlying36 Try.underlying3 (by kernel_rfl) hf with ⟨hcs, _⟩ | ⟨x, l, c, zs, hcs, _, hl, hm, hz, _, hcell, hwz⟩
    · simp [Value.cells] at hcs
      obtain ⟨rfl, rfl, rfl⟩ := hcs
      exact ⟨[], .inl ⟨rfl, rfl, rfl, rfl⟩⟩
    · simp [Value.cells] at hcs
      obtain ⟨rfl, rfl, rfl⟩ := hcs
      exact ⟨zs, .inr ⟨_, rfl, hl, hm, by simpa using hz, hcell, hwz⟩⟩
  clear hA0 hval0
  refine (runs_ a0 len0 cap0 z0 w0).mono fun e W' ⟨he, bel⟩ => ?_
  subst he
  exact ⟨_, rfl, _, _, _, [], _, [], hW', trodAll_mk1 (shut_bool Try.underlying4 _), (trodAll_cons_mk (Below.trod laidOut (by kernel_rfl) (of_decide_eq_true (by kernel_rfl)) k0 bel lt0) trodAll_mk0), rfl, bel.frame _, fun h => by cases h⟩

theorem over : Rows.rangingRunsRow.holds Try.pinned (OpenSpec.ofChange Rows.rangingRunsSpec) :=
  OpenClaim.holds_of_wide 5 Try.f5 rfl rfl rfl rfl rfl rfl rfl ⟨rfl, rfl, rfl, rfl, rfl⟩ rfl rfl rfl rfl rfl (by kernel_rfl) Try.func5 (by kernel_rfl)
    (of_decide_eq_true (by kernel_rfl)) (by unfold Func.isWrapper; first | (rw [if_pos (by decide +kernel)]; kernel_rfl) | (rw [if_neg (by decide +kernel)]; exact ⟨rfl, rfl⟩))
    (fun os started H enc _ => lifted os started H enc)
theorem proved : Rows.RangingRunsSaid := over
end rangingRunsRow
end Go.Proofs.Ytephkhaebkajkaa
