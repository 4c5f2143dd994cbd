/- FruitLeast returns true for every input. -/
import Derived.Test.YtmkpblfacnnnoaaRows
import Derived.WalkKit
import Derived.WalkLawsBesides
import Derived.WalkSpells
import Derived.ProofKit
import Derived.Below
import Derived.Outline
import Derived.Lib.Hide
import Derived.Deep.RegionWith
import Derived.Deep.RegionHeld3
import Derived.Deep.DrawnRows
import Derived.StillTailTactics
import Derived.BigQuiet
import Derived.Deep.QuietTactic
import Derived.Deep.LoopGhost
import Derived.IntWalk
import Derived.Test.YtmkpblfacnnnoaaFrT
import Derived.Test.YtmkpblfacnnnoaaKO
import Derived.WalkKit
import Derived.ProofKit
import Derived.OpenShut
import Derived.ShutString
import Derived.ChangeOld
import Derived.Below
import Derived.Lib.SmallJoins
namespace Go.Proofs.Ytmkpblfacnnnoaa
open Go.RowKit
attribute [local go_sem ↓] Go.wp_at_zero Go.wp_at_succ
attribute [local go_sem] wrap_lit

theorem bool_info : (Try.prog.info? 4).map (fun i => (i.zero, i.size, i.bytes)) = some (some (.bool false), 1, 1) := by kernel_rfl
theorem made_marks (n : Nat) : madeCells #[Value.bool false] n = ((List.replicate n false).map Value.bool).toArray := by
  apply Array.ext
  · rw [size_madeCells]; simp
  · intro i h1 h2; simp [madeCells, Nat.mod_one]
set_option maxRecDepth 100000 in
set_option maxHeartbeats 4000000 in
theorem frLeast (A A' : Option Addr) (cap cap' : Nat) (a b : List Int) (u : Int) (w : World) (hA : Is .i64 w w.heap.size A a) (hA' : Is .i64 w w.heap.size A' b) (hl : a.length ≤ maxLen) (hl' : b.length ≤ maxLen) : Calls Try.prog 5 #[.slice A a.length cap, .slice A' b.length cap', .int .i64 u] w fun e w' => e = .returned (.bool true) ∧ Below w.heap.size w w' := by
  unfold maxLen at hl hl'
  by_cases h5 : 5 < a.length
  · have hI : (5 : Int) < (a.length : Int) := by omega
    clear hA hA'
    go_enter Try.func5, Try.ntmps5
    go_wp2_with fail
    refine (awake11 _).mono ?_
    rintro e w2 ⟨rfl, hb2⟩
    go_wp2_with fail
    go_ret
    exact ⟨rfl, hb2⟩
  · have hI : (a.length : Int) ≤ 5 := by omega
    by_cases h5' : 5 < b.length
    · have hI' : (5 : Int) < (b.length : Int) := by omega
      clear hA hA'
      go_enter Try.func5, Try.ntmps5
      go_wp2_with fail
      refine (awake11 _).mono ?_
      rintro e w2 ⟨rfl, hb2⟩
      go_wp2_with fail
      go_ret
      exact ⟨rfl, hb2⟩
    · have hI' : (b.length : Int) ≤ 5 := by omega
      have ha5 : a.length ≤ 5 := by omega
      have hb5 : b.length ≤ 5 := by omega
      have HA := Lib.hid hA
      have HA' := Lib.hid hA'
      obtain ⟨i0, hi0, hz0, hz1, hz2⟩ := info_parts bool_info
      have hmk : ∀ W : World, (Instr.makeSlice 44 (.int .i64 (b.length : Int)) (.int .i64 (b.length : Int))).run Try.prog W = .ok (.slice (some ⟨W.heap.size, 0, none⟩) b.length b.length) (W.alloc (.cells (madeCells #[.bool false] b.length) 4)) := fun W => by
        have h := run_makeN (P := Try.prog) 44 4 i0 _ Try.underlying44 hi0 hz0 b.length (by omega) (by omega) W
        rw [hz1, Nat.mul_one] at h
        simpa [Value.cells] using h
      clear hA hA' h5 h5'
      go_enter Try.func5, Try.ntmps5
      go_wp2_with fail
      refine (awake11 _).mono ?_
      rintro e w1 ⟨rfl, hb1⟩
      have s1 := hb1.size
      have HB1 := Lib.hid hb1
      clear hb1
      go_wp2_with fail
      refine (match13 A A' cap cap' a b u w.heap.size w1 s1 (HA.out.below HB1.out) (HA'.out.below HB1.out) (by omega) (by omega)).mono ?_
      rintro e w2 ⟨v2, rfl, hv2, hb2⟩
      obtain ⟨A2, cap2, rfl, own2⟩ := hv2.own
      have s2 := hb2.size
      have HB2 := Lib.hid (HB1.out.trans (hb2.mono s1))
      have O2 := Lib.hid own2
      clear hv2 own2 hb2
      have l64 := mtL_64 a b u
      by_cases hE : mtE a b u = 0
      · have hL : mtL a b u = gr u a b 0 0 := by unfold mtL; rw [if_pos hE]
        obtain ⟨ca, cb, -⟩ := mtE_ok.1 hE
        have oa := (ckS_ok.1 ca).2
        have ob := (ckS_ok.1 cb).2
        have hT := tr_gr (w := u) oa ob
        rw [hL] at O2 l64 ⊢
        rw [hE]
        obtain ⟨G, hG⟩ : ∃ G, G = gr u a b 0 0 := ⟨_, rfl⟩
        rw [← hG] at O2 l64 hT ⊢
        have HT := Lib.hid hT
        have Hoa := Lib.hid oa
        have Hob := Lib.hid ob
        clear hE hL ca cb oa ob hT hG
        go_wp2_with fail
        obtain ⟨X, hX⟩ : ∃ X, X = w2.alloc (.cells (madeCells #[.bool false] b.length) 4) := ⟨_, rfl⟩
        have hXs : X.heap.size = w2.heap.size + 1 := by rw [hX]; simp
        have hXB : Below w2.heap.size w2 X := by rw [hX]; exact (Below.refl _ _).alloc (Nat.le_refl _) _
        have hXg : BX X (some ⟨w2.heap.size, 0, none⟩) (List.replicate b.length false) := fun _ => ⟨w2.heap.size, rfl, by rw [hX, made_marks]; exact Array.getElem?_push_size⟩
        rw [← hX]
        clear hX hmk
        have BX2 : Below w.heap.size w X := HB2.out.trans (hXB.mono (by omega))
        have O3 := Lib.hid (O2.out.below hXB)
        have C := Lib.hid (tried27 A A' cap cap' a b u Hoa.out Hob.out ha5 hb5 a.length [] (List.replicate b.length false) none (some ⟨w2.heap.size, 0, none⟩) 0 b.length 0 0 0 X (by omega) rfl rfl (by simp) (Nat.le_refl _) (fun _ => ⟨rfl, rfl⟩) ((HA.out.below BX2).mono (by omega)) ((HA'.out.below BX2).mono (by omega)) Is.none_ hXg)
        have HBX := Lib.hid BX2
        clear hXB hXg BX2 O2
        refine C.out.mono ?_
        rintro e w3 ⟨A3, cap3, rfl, his3, hb3⟩
        rw [HT.out] at his3 ⊢
        have s3 := hb3.size
        have HB3 := Lib.hid (HBX.out.trans (hb3.mono (by omega)))
        have O4 := Lib.hid (O3.out.below hb3)
        have H3 := Lib.hid his3
        clear his3 hb3 C O3
        go_wp2_with fail
        refine (equalPairs A2 A3 cap2 cap3 G G w3.heap.size w3 O4.out.is H3.out (by omega)).mono ?_
        rintro e w4 ⟨rfl, n4, rfl⟩
        have hd : decide (G = G) = true := decide_eq_true rfl
        go_wp2_with fail
        go_ret
        exact ⟨rfl, below_drewN HB3.out n4⟩
      · have hL : mtL a b u = [] := by unfold mtL; rw [if_neg hE]
        have hq : ((mtE a b u) != 0) = true := by simp [hE]
        have hq2 : ((mtE a b u) == 0) = false := by simp [hE]
        rw [hL]
        obtain ⟨E, hEe⟩ : ∃ E, E = mtE a b u := ⟨_, rfl⟩
        rw [← hEe] at hq hq2 hE ⊢
        clear hEe hL O2 l64 hmk
        go_wp2_with fail
        go_ret
        exact ⟨rfl, HB2.out⟩
theorem frFruitLeastL (A0 : Option Addr) (len0 cap0 : Nat) (z0 : List Int) (A1 : Option Addr) (len1 cap1 : Nat) (z1 : List Int) (u : Int) (w : World) (h0 : IsRow .i64 w A0 len0 cap0 z0) (h1 : IsRow .i64 w A1 len1 cap1 z1) :
    Calls Try.prog 5 #[.slice A0 len0 cap0, .slice A1 len1 cap1, .int .i64 u] w fun e w' => e = .returned (.bool true) ∧ Below w.heap.size w w' := by
  obtain ⟨k1, k2, k3, -⟩ := Is.of_row h0
  obtain ⟨m1, m2, m3, -⟩ := Is.of_row h1
  have H := frLeast A0 A1 cap0 cap1 (z0.take len0) (z1.take len1) u w k1 m1 (by rw [k2]; exact k3) (by rw [m2]; exact m3)
  rw [k2, m2] at H
  exact H

namespace fruitLeastRow
open Go.ChangeShapes Go.WideShapes Go.ChangeAt Go.RowKit
open Go.ChangeMaps (open_string shut_string)
set_option linter.unusedVariables false
theorem own : ownKnob Try.prog.godebug = none := by kernel_rfl
theorem laidOut : laidOutB Try.prog = true := by kernel_rfl
set_option maxRecDepth 100000 in
theorem lifted (os : Os) (started : os.Started) (H : Type) (enc : TypeId × Value → H) :
    ReturnsInHanded {} Try.checked os 5 .any (Rows.fruitLeastSpec.pre6 enc Try.prog Try.f5 Rows.fruitLeastRow.domain false) (Rows.fruitLeastSpec.post enc Try.prog Try.f5 false true false false) := by
  refine returnsInHanded_of_change (C := Try.checked) own started (by kernel_rfl) Try.func5
    (ChangeSpec.witness6 (enc := enc) (C := Try.checked) false ⟨#[], #[.slice none 0 0, .slice none 0 0, .int .i64 0], []⟩ 8 (by kernel_rfl) (by kernel_rfl) (by kernel_rfl) (by kernel_rfl)) ?_
  intro W base args ds gs before hval0 hW hcnd _hsz
  have hval : ∀ (j : Nat) t v, Try.f5.params[j]? = some t → args[j]? = some v → Value.okWide Try.prog W .any base t v := hval0
  have hW' := hW
  obtain ⟨p, q, hA0, hV, rfl, hfz, hnd⟩ := hW
  have hA : DataW.TrodAll enc Try.prog W 0 (fun _ => true) true Try.f5.params.toList args.toList ds p := hA0
  rw [Try.params5] at hA hval
  obtain ⟨v0, vs0, d0, ds0, p0, q0, hargs, rfl, rfl, h0, r0⟩ := trodAll_cons hA
  obtain ⟨v1, vs1, d1, ds1, p1, q1, rfl, rfl, rfl, h1, r1⟩ := trodAll_cons r0
  obtain ⟨v2, vs2, d2, ds2, p2, q2, rfl, rfl, rfl, h2, r2⟩ := trodAll_cons r1
  obtain ⟨rfl, rfl, rfl⟩ := trodAll_nil r2
  obtain rfl : args = #[v0, v1, v2] := by cases args; simp_all
  obtain ⟨rfl, rfl⟩ := trodVars_none hV
  have k0 := h0
  have lt0 : ∀ x ∈ p0, x.block < W.heap.size := by obtain ⟨m, hm⟩ := k0; exact DataW.trod_lt m _ _ _ hm
  have k1 := h1
  have lt1 : ∀ x ∈ p1, x.block < W.heap.size := by obtain ⟨m, hm⟩ := k1; exact DataW.trod_lt m _ _ _ hm
  have k2 := h2
  have lt2 : ∀ x ∈ p2, x.block < W.heap.size := by obtain ⟨m, hm⟩ := k2; exact DataW.trod_lt m _ _ _ hm
  obtain ⟨a0, len0, cap0, rfl⟩ := okWide_slice Try.underlying22 (hval 0 22 v0 rfl rfl)
  obtain ⟨z0, w0⟩ : ∃ zs, IsRow .i64 W a0 len0 cap0 zs := by
    obtain ⟨fuel, hf⟩ := h0
    rcases open_ints Try.underlying22 Try.underlying3 (by kernel_rfl) hf with ⟨hcs, _⟩ | ⟨x, l, c, zs, hcs, _, hl, hm, hz, _, hcell, hwz⟩
    · simp [Value.cells] at hcs
      obtain ⟨rfl, rfl, rfl⟩ := hcs
      exact ⟨[], .inl ⟨rfl, rfl, rfl, rfl⟩⟩
    · simp [Value.cells] at hcs
      obtain ⟨rfl, rfl, rfl⟩ := hcs
      exact ⟨zs, .inr ⟨_, rfl, hl, hm, by simpa using hz, hcell, hwz⟩⟩
  obtain ⟨a1, len1, cap1, rfl⟩ := okWide_slice Try.underlying22 (hval 1 22 v1 rfl rfl)
  obtain ⟨z1, w1⟩ : ∃ zs, IsRow .i64 W a1 len1 cap1 zs := by
    obtain ⟨fuel, hf⟩ := h1
    rcases open_ints Try.underlying22 Try.underlying3 (by kernel_rfl) hf with ⟨hcs, _⟩ | ⟨x, l, c, zs, hcs, _, hl, hm, hz, _, hcell, hwz⟩
    · simp [Value.cells] at hcs
      obtain ⟨rfl, rfl, rfl⟩ := hcs
      exact ⟨[], .inl ⟨rfl, rfl, rfl, rfl⟩⟩
    · simp [Value.cells] at hcs
      obtain ⟨rfl, rfl, rfl⟩ := hcs
      exact ⟨zs, .inr ⟨_, rfl, hl, hm, by simpa using hz, hcell, hwz⟩⟩
  obtain ⟨a2, rfl, -, -, w2⟩ := open_int Try.underlying3 (hval 2 3 v2 rfl rfl) h2
  clear hA0 hval0
  refine (frFruitLeastL a0 len0 cap0 z0 a1 len1 cap1 z1 a2 W w0 w1).mono fun e W' ⟨he, bel⟩ => ?_
  subst he
  exact ⟨_, rfl, _, _, _, [], _, [], hW', trodAll_mk1 (shut_bool Try.underlying4 _), (trodAll_cons_mk (Below.trod laidOut (by kernel_rfl) (of_decide_eq_true (by kernel_rfl)) k0 bel lt0) (trodAll_cons_mk (Below.trod laidOut (by kernel_rfl) (of_decide_eq_true (by kernel_rfl)) k1 bel lt1) (trodAll_cons_mk (Below.trod laidOut (by kernel_rfl) (of_decide_eq_true (by kernel_rfl)) k2 bel lt2) trodAll_mk0))), rfl, bel.frame _, fun h => by cases h⟩

theorem over : Rows.fruitLeastRow.holds Try.pinned (OpenSpec.ofChange Rows.fruitLeastSpec) :=
  OpenClaim.holds_of_wide 5 Try.f5 rfl rfl rfl rfl rfl rfl rfl ⟨rfl, rfl, rfl, rfl, rfl⟩ rfl rfl rfl rfl rfl (by kernel_rfl) Try.func5 (by kernel_rfl)
    (of_decide_eq_true (by kernel_rfl)) (by unfold Func.isWrapper; first | (rw [if_pos (by decide +kernel)]; kernel_rfl) | (rw [if_neg (by decide +kernel)]; exact ⟨rfl, rfl⟩))
    (fun os started H enc _ => lifted os started H enc)
theorem proved : Rows.FruitLeastSaid := over
end fruitLeastRow
end Go.Proofs.Ytmkpblfacnnnoaa
