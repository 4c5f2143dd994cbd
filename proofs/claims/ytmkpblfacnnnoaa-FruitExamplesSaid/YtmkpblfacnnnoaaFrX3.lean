/- FruitLives returns true for every input. -/
import Derived.Test.YtmkpblfacnnnoaaRows
import Derived.WalkKit
import Derived.WalkLawsBesides
import Derived.WalkSpells
import Derived.ProofKit
import Derived.Below
import Derived.Outline
import Derived.Lib.Hide
import Derived.Deep.RegionWith
import Derived.Deep.RegionHeld3
import Derived.Deep.DrawnRows
import Derived.StillTailTactics
import Derived.BigQuiet
import Derived.Deep.QuietTactic
import Derived.Deep.LoopGhost
import Derived.IntWalk
import Derived.Test.YtmkpblfacnnnoaaFrR
import Derived.Test.YtmkpblfacnnnoaaKO
import Derived.WalkKit
import Derived.ProofKit
import Derived.OpenShut
import Derived.ShutString
import Derived.ChangeOld
import Derived.Below
import Derived.Lib.SmallJoins
namespace Go.Proofs.Ytmkpblfacnnnoaa
open Go.RowKit
attribute [local go_sem ↓] Go.wp_at_zero Go.wp_at_succ
attribute [local go_sem] wrap_lit

theorem overInts28s (A : Option Addr) (cap : Nat) (xs : List Int) (B : Nat) (T : TypeId) (w : World) (hA : Own .i64 w B A T xs) (hl : xs.length ≤ 1000000) :
    Calls Try.prog 25 #[.slice A xs.length cap] w fun e w' => e = .returned (.tuple #[]) ∧ Below B w w' ∧ ∀ g', (0 < xs.length → A ≠ some ⟨g', 0, none⟩) → w'.heap[g']? = w.heap[g']? := by
  go_enter Try.func25, Try.ntmps25
  go_wp2_with fail
  go_loopw [2] (fun i wr => ∃ k : Nat, k ≤ xs.length ∧ i = .int .i64 k ∧ Below B w wr ∧ (0 < xs.length → ∃ g cs, A = some ⟨g, 0, none⟩ ∧ B ≤ g ∧ wr.heap[g]? = some (.cells cs T (0, 0)) ∧ xs.length ≤ cs.size) ∧ ∀ g', (0 < xs.length → A ≠ some ⟨g', 0, none⟩) → wr.heap[g']? = w.heap[g']?) (fun i _ => xs.length - (intOf i).toNat)
  case atStart =>
    refine ⟨0, Nat.zero_le _, rfl, Below.refl _ _, fun hn => ?_, fun _ _ => rfl⟩
    obtain ⟨g, cs, e1, e2, e3, e4⟩ := hA hn
    have := (Array.getElem?_eq_some_iff.1 (e4 (xs.length - 1) (by omega))).1
    exact ⟨g, cs, e1, e2, e3, by omega⟩
  case round =>
    obtain ⟨k, hk, rfl, hb, hg, hf⟩ := hrel
    have Hf := Lib.hid hf
    clear hf
    by_cases hlt : k < xs.length
    · obtain ⟨g, cs, rfl, h1, h2, h3⟩ := hg (by omega)
      obtain ⟨⟨u, c0⟩, p0⟩ := cell_in h2 (i := k) (by omega)
      have Hg := Lib.hid hg; clear hg
      have hlI : (k : Int) < (xs.length : Int) := by omega
      go_wp2_with fail
      exact ⟨⟨k + 1, by omega, by go_num, hb.setCell h1 _, fun _ => ⟨g, _, rfl, h1, setH h2, by simpa using h3⟩, fun g' hn => (Below.heap_setCell _ _ _ _ (fun e => hn (by omega) (by rw [e]))).trans (Hf.out g' hn)⟩, by simp [intOf]; omega⟩
    · obtain rfl : k = xs.length := by omega
      clear hg
      go_wp2_with fail
      go_end0
      exact ⟨rfl, hb, Hf.out⟩
theorem Own.lt {k : IntKind} {w : World} {B : Nat} {A : Option Addr} {T : TypeId} {xs : List Int} (h : Own k w B A T xs) : 0 < xs.length → ∀ g, A = some ⟨g, 0, none⟩ → g < w.heap.size := fun hn g e => by
  obtain ⟨g', cs, e1, e2, e3, -⟩ := h hn
  rw [e1] at e
  cases e
  exact heap_lt e3
theorem own_other {k : IntKind} {w w1 : World} {B B' n : Nat} {A A2 : Option Addr} {T : TypeId} {xs : List Int} (h : Own k w B' A T xs) (hf : ∀ g', (0 < n → A2 ≠ some ⟨g', 0, none⟩) → w1.heap[g']? = w.heap[g']?) (hb : B ≤ B') (hlt : 0 < n → ∀ g, A2 = some ⟨g, 0, none⟩ → g < B') : Own k w1 B A T xs := fun hn => by
  obtain ⟨g, cs, e1, e2, e3, e4⟩ := h hn
  exact ⟨g, cs, e1, by omega, (hf g (fun h0 e => absurd (hlt h0 g e) (by omega))).trans e3, e4⟩
theorem lng_not {xss : List (List Int)} (h : ¬ lngP xss) : xss.length ≤ 20 ∧ ∀ r, r < xss.length → (row xss r).length ≤ 70 := by
  refine ⟨?_, fun r hr => ?_⟩
  · rcases Nat.lt_or_ge 20 xss.length with g | g
    · exact absurd (.inl g) h
    · exact g
  · rcases Nat.lt_or_ge 70 (row xss r).length with g | g
    · exact absurd (.inr ⟨r, hr, g⟩) h
    · exact g
theorem stL_len (xss : List (List Int)) (u need : Int) : (stL xss u need).length ≤ 64 := by
  have h1 := lfL_len xss u
  have h2 := stI_len need (lfL xss u) (lfL xss u).length
  unfold stL
  split
  · omega
  · simp
set_option maxRecDepth 100000 in
set_option maxHeartbeats 4000000 in
theorem frLives (A : Option Addr) (cap : Nat) (xss : List (List Int)) (u need : Int) (w : World) (hR : RIs .i64 w w.heap.size A xss) (hlm : xss.length ≤ maxLen) : Calls Try.prog 4 #[.slice A xss.length cap, .int .i64 u, .int .i64 need] w fun e w' => e = .returned (.bool true) ∧ Below w.heap.size w w' := by
  by_cases hl : lngP xss
  · have L := Lib.hid (long_t A cap xss _ _ hR hlm hl)
    clear hR
    go_enter Try.func4, Try.ntmps4
    go_wp2_with fail
    refine L.out.mono ?_
    rintro e w' ⟨rfl, rfl⟩
    go_wp2_with fail
    refine (awake11 _).mono ?_
    rintro e w2 ⟨rfl, hb2⟩
    go_wp2_with fail
    go_ret
    exact ⟨rfl, hb2⟩
  · have L := Lib.hid (long_f A cap xss _ _ hR hl)
    obtain ⟨h20, h70⟩ := lng_not hl
    have H70 := Lib.hid (show ∀ r, r < xss.length → (row xss r).length ≤ 1000000 from fun r hr => Nat.le_trans (h70 r hr) (by decide))
    have HR := Lib.hid hR
    clear hR h70 hl
    go_enter Try.func4, Try.ntmps4
    go_wp2_with fail
    refine L.out.mono ?_
    rintro e w' ⟨rfl, rfl⟩
    clear L
    go_wp2_with fail
    refine (copyRows A cap xss w HR.out (by omega) H70.out).mono ?_
    rintro e w1 ⟨A1, cap1, rfl, hR1, hb1⟩
    have s1 := hb1.size
    have HR1 := Lib.hid hR1
    have HB1 := Lib.hid hb1
    clear hR1 hb1
    go_wp2_with fail
    refine (life21 A1 cap1 xss u w1.heap.size w1 (Nat.le_refl _) HR1.out (by omega) H70.out).mono ?_
    rintro e w2 ⟨A2, cap2, rfl, own2, hb2⟩
    have s2 := hb2.size
    have HB2 := Lib.hid (HB1.out.trans (hb2.mono s1))
    have HR2 := Lib.hid (HR1.out.below hb2)
    have O2 := Lib.hid own2
    have T2 := Lib.hid (show 0 < (lfL xss u).length → ∀ g, A2 = some ⟨g, 0, none⟩ → g < w2.heap.size from own2.lt)
    clear own2 hb2 HR1
    go_wp2_with fail
    refine (life22 A cap xss u w.heap.size w2 (by omega) (HR.out.below HB2.out) (by omega) H70.out).mono ?_
    rintro e w3 ⟨A3, cap3, rfl, own3, hb3⟩
    have s3 := hb3.size
    have HB3 := Lib.hid (HB2.out.trans (hb3.mono (by omega)))
    have HR3 := Lib.hid (HR2.out.below (hb3.mono s2))
    have O3 := Lib.hid (O2.out.below hb3)
    have P3 := Lib.hid own3
    clear own3 hb3 HR2 O2
    go_wp2_with fail
    refine (steady23 A1 cap1 xss u need w1.heap.size w3 (by omega) HR3.out (by omega) H70.out).mono ?_
    rintro e w4 ⟨v4, rfl, hv4, hb4⟩
    obtain ⟨A4, cap4, rfl, own4⟩ := hv4.own
    have s4 := hb4.size
    have HB4 := Lib.hid (HB3.out.trans (hb4.mono (by omega)))
    have HR4 := Lib.hid (HR3.out.below (hb4.mono (by omega)))
    have O4 := Lib.hid (O3.out.below hb4)
    have P4 := Lib.hid (P3.out.below hb4)
    have Q4 := Lib.hid own4
    clear hv4 own4 hb4 HR3 O3 P3
    go_wp2_with fail
    refine (steady24 A cap xss u need w.heap.size w4 (by omega) (HR.out.below HB4.out) (by omega) H70.out).mono ?_
    rintro e w5 ⟨v5, rfl, hv5, hb5⟩
    obtain ⟨A5, cap5, rfl, own5⟩ := hv5.own
    have s5 := hb5.size
    have HB5 := Lib.hid (HB4.out.trans (hb5.mono (by omega)))
    have HR5 := Lib.hid (HR4.out.below (hb5.mono (by omega)))
    have O5 := Lib.hid (O4.out.below hb5)
    have P5 := Lib.hid (P4.out.below hb5)
    have Q5 := Lib.hid (Q4.out.below hb5)
    have R5 := Lib.hid own5
    clear hv5 own5 hb5 HR4 O4 P4 Q4
    have q1 : (lfE xss u != lfE xss u) = false := by simp
    have q2 : (stE xss u need != stE xss u need) = false := by simp
    have l1 := lfL_len xss u
    have l2 := stL_len xss u need
    go_wp2_with fail
    refine (equalInts A2 A3 cap2 cap3 (lfL xss u) (lfL xss u) w5.heap.size w5 (O5.out.is.mono (Nat.le_refl _)) (P5.out.is.mono (Nat.le_refl _)) (by omega)).mono ?_
    rintro e w6 ⟨rfl, n6, rfl⟩
    have q3 : decide (lfL xss u = lfL xss u) = true := by simp
    have q4 : decide (stL xss u need = stL xss u need) = true := by simp
    go_wp2_with fail
    obtain ⟨W6, hW6⟩ : ∃ W6, W6 = w5.drewN n6 := ⟨_, rfl⟩
    have B6 : Below w.heap.size w W6 := by rw [hW6]; exact below_drewN HB5.out n6
    have s6 : W6.heap.size = w5.heap.size := by rw [hW6]; rfl
    have O6 : Own .i64 W6 w1.heap.size A2 3 (lfL xss u) := by rw [hW6]; exact O5.out
    have Q6 : Own .i64 W6 w3.heap.size A4 3 (stL xss u need) := by rw [hW6]; exact Q5.out
    have R6 : Own .i64 W6 w4.heap.size A5 3 (stL xss u need) := by rw [hW6]; exact R5.out
    have HR6 : RIs .i64 W6 w1.heap.size A1 xss := by rw [hW6]; exact HR5.out.below (below_drewN (Below.refl _ _) _)
    rw [← hW6]
    have HB6 := Lib.hid B6
    have HO6 := Lib.hid O6
    have HQ6 := Lib.hid Q6
    have HS6 := Lib.hid R6
    have HR6 := Lib.hid HR6
    clear hW6 B6 O6 Q6 R6 HB5 HR5 O5 P5 Q5 R5
    refine (equalInts A4 A5 cap4 cap5 (stL xss u need) (stL xss u need) W6.heap.size W6 HQ6.out.is HS6.out.is (by omega)).mono ?_
    rintro e w7 ⟨rfl, n7, rfl⟩
    go_wp2_with fail
    obtain ⟨W7, hW7⟩ : ∃ W7, W7 = W6.drewN n7 := ⟨_, rfl⟩
    have B7 : Below w.heap.size w W7 := by rw [hW7]; exact below_drewN HB6.out n7
    have s7 : W7.heap.size = W6.heap.size := by rw [hW7]; rfl
    have O7 : Own .i64 W7 w1.heap.size A2 3 (lfL xss u) := by rw [hW7]; exact HO6.out
    have Q7 : Own .i64 W7 w3.heap.size A4 3 (stL xss u need) := by rw [hW7]; exact HQ6.out
    have R7 : RIs .i64 W7 w1.heap.size A1 xss := by rw [hW7]; exact HR6.out.below (below_drewN (Below.refl _ _) _)
    rw [← hW7]
    have HB7 := Lib.hid B7
    have HO7 := Lib.hid O7
    have HQ7 := Lib.hid Q7
    have HR7 := Lib.hid R7
    clear hW7 B7 O7 Q7 R7 HB6 HO6 HQ6 HS6 HR6
    refine (overInts28s A2 cap2 (lfL xss u) w1.heap.size _ W7 HO7.out (by omega)).mono ?_
    rintro e w8 ⟨rfl, hb8, hf8⟩
    have s8 := hb8.size
    have HB8 := Lib.hid (HB7.out.trans (hb8.mono s1))
    have HR8 := Lib.hid (HR7.out.below hb8)
    have HQ8 := Lib.hid (show Own .i64 w8 w1.heap.size A4 3 (stL xss u need) from own_other (B' := w3.heap.size) HQ7.out hf8 (by omega) (fun h0 g hg => Nat.lt_of_lt_of_le (T2.out h0 g hg) s3))
    clear hb8 hf8 HR7
    go_wp2_with fail
    refine (overInts28 A4 cap4 (stL xss u need) w1.heap.size _ w8 HQ8.out (by omega)).mono ?_
    rintro e w9 ⟨rfl, hb9⟩
    have s9 := hb9.size
    have HB9 := Lib.hid (HB8.out.trans (hb9.mono s1))
    have HR9 := Lib.hid (HR8.out.below hb9)
    clear hb9 HR8
    go_wp2_with fail
    refine (equalRows A1 A cap1 cap xss w1.heap.size w9 HR9.out ((HR.out.below HB9.out).mono s1) (by omega) H70.out).mono ?_
    rintro e w10 ⟨rfl, n10, rfl⟩
    go_wp2_with fail
    refine (awake11 _).mono ?_
    rintro e w11 ⟨rfl, hb11⟩
    go_wp2_with fail
    go_ret
    have hb12 : Below w.heap.size w (w9.drewN n10) := below_drewN HB9.out _
    exact ⟨rfl, hb12.trans (hb11.mono hb12.size)⟩

theorem frFruitLivesL (A : Option Addr) (len cap : Nat) (xss : List (List Int)) (u need : Int) (w : World) (hR : RIs .i64 w w.heap.size A xss) (hl : xss.length = len) (hm : xss.length ≤ maxLen) :
    Calls Try.prog 4 #[.slice A len cap, .int .i64 u, .int .i64 need] w fun e w' => e = .returned (.bool true) ∧ Below w.heap.size w w' := by
  subst hl
  exact frLives A cap xss u need w hR hm

namespace fruitLivesRow
open Go.ChangeShapes Go.WideShapes Go.ChangeAt Go.RowKit
open Go.ChangeMaps (open_string shut_string)
set_option linter.unusedVariables false
theorem own : ownKnob Try.prog.godebug = none := by kernel_rfl
theorem laidOut : laidOutB Try.prog = true := by kernel_rfl
set_option maxRecDepth 100000 in
theorem lifted (os : Os) (started : os.Started) (H : Type) (enc : TypeId × Value → H) :
    ReturnsInHanded {} Try.checked os 4 .any (Rows.fruitLivesSpec.pre6 enc Try.prog Try.f4 Rows.fruitLivesRow.domain false) (Rows.fruitLivesSpec.post enc Try.prog Try.f4 false true false false) := by
  refine returnsInHanded_of_change (C := Try.checked) own started (by kernel_rfl) Try.func4
    (ChangeSpec.witness6 (enc := enc) (C := Try.checked) false ⟨#[], #[.slice none 0 0, .int .i64 0, .int .i64 0], []⟩ 8 (by kernel_rfl) (by kernel_rfl) (by kernel_rfl) (by kernel_rfl)) ?_
  intro W base args ds gs before hval0 hW hcnd _hsz
  have hval : ∀ (j : Nat) t v, Try.f4.params[j]? = some t → args[j]? = some v → Value.okWide Try.prog W .any base t v := hval0
  have hW' := hW
  obtain ⟨p, q, hA0, hV, rfl, hfz, hnd⟩ := hW
  have hA : DataW.TrodAll enc Try.prog W 0 (fun _ => true) true Try.f4.params.toList args.toList ds p := hA0
  rw [Try.params4] at hA hval
  obtain ⟨v0, vs0, d0, ds0, p0, q0, hargs, rfl, rfl, h0, r0⟩ := trodAll_cons hA
  obtain ⟨v1, vs1, d1, ds1, p1, q1, rfl, rfl, rfl, h1, r1⟩ := trodAll_cons r0
  obtain ⟨v2, vs2, d2, ds2, p2, q2, rfl, rfl, rfl, h2, r2⟩ := trodAll_cons r1
  obtain ⟨rfl, rfl, rfl⟩ := trodAll_nil r2
  obtain rfl : args = #[v0, v1, v2] := by cases args; simp_all
  obtain ⟨rfl, rfl⟩ := trodVars_none hV
  have k0 := h0
  have lt0 : ∀ x ∈ p0, x.block < W.heap.size := by obtain ⟨m, hm⟩ := k0; exact DataW.trod_lt m _ _ _ hm
  have k1 := h1
  have lt1 : ∀ x ∈ p1, x.block < W.heap.size := by obtain ⟨m, hm⟩ := k1; exact DataW.trod_lt m _ _ _ hm
  have k2 := h2
  have lt2 : ∀ x ∈ p2, x.block < W.heap.size := by obtain ⟨m, hm⟩ := k2; exact DataW.trod_lt m _ _ _ hm
  obtain ⟨a0, len0, cap0, rfl⟩ := okWide_slice Try.underlying35 (hval 0 35 v0 rfl rfl)
  obtain ⟨m0, w0, l0, x0⟩ : ∃ xss : List (List Int), RIs .i64 W W.heap.size a0 xss ∧ xss.length = len0 ∧ xss.length ≤ maxLen := by
    obtain ⟨fuel, hf⟩ := h0
    rcases Go.Deep.open_int_rows Try.underlying35 Try.underlying22 Try.underlying3 (by kernel_rfl) (by kernel_rfl) hf with ⟨hcs, _⟩ | ⟨x, l, c, A, L, C, Z, hcs, _, hl, hm, _, hcell⟩
    · simp [Value.cells] at hcs
      obtain ⟨rfl, rfl, rfl⟩ := hcs
      exact ⟨[], fun h => by simp at h, rfl, Nat.zero_le _⟩
    · simp [Value.cells] at hcs
      obtain ⟨rfl, rfl, rfl⟩ := hcs
      obtain ⟨xss, h1, h2, -⟩ := RIs.of hl hcell
      exact ⟨xss, h1, h2, by omega⟩
  obtain ⟨a1, rfl, -, -, w1⟩ := open_int Try.underlying3 (hval 1 3 v1 rfl rfl) h1
  obtain ⟨a2, rfl, -, -, w2⟩ := open_int Try.underlying3 (hval 2 3 v2 rfl rfl) h2
  clear hA0 hval0
  refine (frFruitLivesL a0 len0 cap0 m0 a1 a2 W w0 l0 x0).mono fun e W' ⟨he, bel⟩ => ?_
  subst he
  exact ⟨_, rfl, _, _, _, [], _, [], hW', trodAll_mk1 (shut_bool Try.underlying4 _), (trodAll_cons_mk (Below.trod laidOut (by kernel_rfl) (of_decide_eq_true (by kernel_rfl)) k0 bel lt0) (trodAll_cons_mk (Below.trod laidOut (by kernel_rfl) (of_decide_eq_true (by kernel_rfl)) k1 bel lt1) (trodAll_cons_mk (Below.trod laidOut (by kernel_rfl) (of_decide_eq_true (by kernel_rfl)) k2 bel lt2) trodAll_mk0))), rfl, bel.frame _, fun h => by cases h⟩

theorem over : Rows.fruitLivesRow.holds Try.pinned (OpenSpec.ofChange Rows.fruitLivesSpec) :=
  OpenClaim.holds_of_wide 4 Try.f4 rfl rfl rfl rfl rfl rfl rfl ⟨rfl, rfl, rfl, rfl, rfl⟩ rfl rfl rfl rfl rfl (by kernel_rfl) Try.func4 (by kernel_rfl)
    (of_decide_eq_true (by kernel_rfl)) (by unfold Func.isWrapper; first | (rw [if_pos (by decide +kernel)]; kernel_rfl) | (rw [if_neg (by decide +kernel)]; exact ⟨rfl, rfl⟩))
    (fun os started H enc _ => lifted os started H enc)
theorem proved : Rows.FruitLivesSaid := over
end fruitLivesRow
end Go.Proofs.Ytmkpblfacnnnoaa
