/- RangingClose returns true for every input: the predicted range is at most the given one from the time that Close returns on. -/
import Derived.Test.YtephkhaebkajkaaRgD
import Derived.WalkKit
import Derived.ProofKit
import Derived.OpenShut
import Derived.ShutString
import Derived.ChangeOld
import Derived.Below
import Derived.Lib.SmallJoins
namespace Go.Proofs.Ytephkhaebkajkaa
open Go.RowKit
attribute [local go_sem ↓] Go.wp_at_zero Go.wp_at_succ
attribute [local go_sem] wrap_lit

set_option maxHeartbeats 1000000 in
theorem close4a (R V N k : Int) (c : Int) (hc0 : 0 ≤ c) (hc1 : c ≤ 255) (e : Int) (he : (e != 0) = true) (h1 : cE R V N k = e) (w : World) : Calls Try.prog 4 #[.agg #[.int .i64 R, .int .i64 V, .int .i64 N], .int .i64 k, .int .u8 c] w fun e w' => e = .returned (.bool true) ∧ Below w.heap.size w w' := by
  have H := clo15 R V N k
  have G := prd11 R V N c
  rw [h1] at H; clear h1
  have H' := Lib.hid H; clear H
  have G' := Lib.hid G; clear G
  go_enter Try.func4, Try.ntmps4
  go_wp2_with fail
  refine (H'.out _).mono ?_
  rintro e w1 ⟨rfl, hb1⟩
  have hc1 := (bcell hb1).1
  have hz1 : w.heap.size < w1.heap.size := by have := hb1.size; simp at this; omega
  go_wp2_with fail
  refine (G'.out _).mono ?_
  rintro e w2 ⟨rfl, hb2⟩
  have hc2 := (bcell hb2).1
  have hz2 : w.heap.size < w2.heap.size := by have := hb2.size; omega

  go_wp2_with fail
  refine (awake19 _).mono ?_
  rintro e w3 ⟨rfl, hb3⟩
  go_wp2_with fail
  go_ret
  exact ⟨rfl, by repeat' (first | exact Below.refl _ _ | refine Below.trans ?_ (Below.mono hb3 ?_) | refine Below.trans ?_ (Below.mono hb2 ?_) | refine Below.trans ?_ (Below.mono hb1 ?_) | refine Below.drew ?_ | refine below_drewN ?_ _ | refine Below.alloc ?_ ?_ _ | refine Below.setCell ?_ ?_ _ | (simp <;> omega) | omega)⟩

set_option maxHeartbeats 1000000 in
theorem close4b (R V N k : Int) (c : Int) (hc0 : 0 ≤ c) (hc1 : c ≤ 255) (h1 : cE R V N k = 0) (h2 : pdE R V N c = 1) (w : World) : Calls Try.prog 4 #[.agg #[.int .i64 R, .int .i64 V, .int .i64 N], .int .i64 k, .int .u8 c] w fun e w' => e = .returned (.bool true) ∧ Below w.heap.size w w' := by
  have H := clo15 R V N k
  have G := prd11 R V N c
  rw [h1] at H; rw [h2] at G; clear h1 h2
  have H' := Lib.hid H; clear H
  have G' := Lib.hid G; clear G
  go_enter Try.func4, Try.ntmps4
  go_wp2_with fail
  refine (H'.out _).mono ?_
  rintro e w1 ⟨rfl, hb1⟩
  have hc1 := (bcell hb1).1
  have hz1 : w.heap.size < w1.heap.size := by have := hb1.size; simp at this; omega
  go_wp2_with fail
  refine (G'.out _).mono ?_
  rintro e w2 ⟨rfl, hb2⟩
  have hc2 := (bcell hb2).1
  have hz2 : w.heap.size < w2.heap.size := by have := hb2.size; omega

  go_wp2_with fail
  refine (awake19 _).mono ?_
  rintro e w3 ⟨rfl, hb3⟩
  go_wp2_with fail
  go_ret
  exact ⟨rfl, by repeat' (first | exact Below.refl _ _ | refine Below.trans ?_ (Below.mono hb3 ?_) | refine Below.trans ?_ (Below.mono hb2 ?_) | refine Below.trans ?_ (Below.mono hb1 ?_) | refine Below.drew ?_ | refine below_drewN ?_ _ | refine Below.alloc ?_ ?_ _ | refine Below.setCell ?_ ?_ _ | (simp <;> omega) | omega)⟩

set_option maxHeartbeats 1000000 in
theorem close4c (R V N k : Int) (c : Int) (hc0 : 0 ≤ c) (hc1 : c ≤ 255) (h1 : cE R V N k = 0) (h2 : pdE R V N c = 0) (h3 : cN R V N k = 0) (h4 : cD R V N k = 1) (h5 : R ≤ 256 * k) (h6 : 0 ≤ k) (h7 : k ≤ 8192) (w : World) : Calls Try.prog 4 #[.agg #[.int .i64 R, .int .i64 V, .int .i64 N], .int .i64 k, .int .u8 c] w fun e w' => e = .returned (.bool true) ∧ Below w.heap.size w w' := by
  have H := clo15 R V N k
  have G := prd11 R V N c
  rw [h1, h3, h4] at H; rw [h2] at G; clear h1 h2 h3 h4
  have H' := Lib.hid H; clear H
  have G' := Lib.hid G; clear G
  go_enter Try.func4, Try.ntmps4
  go_wp2_with fail
  refine (H'.out _).mono ?_
  rintro e w1 ⟨rfl, hb1⟩
  have hc1 := (bcell hb1).1
  have hz1 : w.heap.size < w1.heap.size := by have := hb1.size; simp at this; omega
  go_wp2_with fail
  refine (G'.out _).mono ?_
  rintro e w2 ⟨rfl, hb2⟩
  have hc2 := (bcell hb2).1
  have hz2 : w.heap.size < w2.heap.size := by have := hb2.size; omega

  go_wp2_with fail
  refine (awake19 _).mono ?_
  rintro e w3 ⟨rfl, hb3⟩
  have hc3 := (bcell hb3).1
  go_wp2_with fail
  go_ret
  exact ⟨rfl, by repeat' (first | exact Below.refl _ _ | refine Below.trans ?_ (Below.mono hb3 ?_) | refine Below.trans ?_ (Below.mono hb2 ?_) | refine Below.trans ?_ (Below.mono hb1 ?_) | refine Below.drew ?_ | refine below_drewN ?_ _ | refine Below.alloc ?_ ?_ _ | refine Below.setCell ?_ ?_ _ | (simp <;> omega) | omega)⟩

set_option maxHeartbeats 1000000 in
theorem close4d (R V N k : Int) (c : Int) (hc0 : 0 ≤ c) (hc1 : c ≤ 255) (p n d : Int) (h1 : cE R V N k = 0) (h2 : pdE R V N c = 0) (h3 : cN R V N k = n) (h4 : cD R V N k = d) (h0 : pdP R V N c = p) (h6 : 0 ≤ k) (h7 : k ≤ 8192) (hn : 1 ≤ n) (hd : 1 ≤ d) (hd2 : d ≤ 16384) (hiff : decide (p ≤ 256 * k) = decide (n ≤ c * d)) (w : World) : Calls Try.prog 4 #[.agg #[.int .i64 R, .int .i64 V, .int .i64 N], .int .i64 k, .int .u8 c] w fun e w' => e = .returned (.bool true) ∧ Below w.heap.size w w' := by
  have H := clo15 R V N k
  have G := prd11 R V N c
  rw [h1, h3, h4] at H; rw [h2, h0] at G; clear h1 h2 h3 h4 h0
  obtain ⟨m1, m2⟩ := mul_bd (a := c) (b := d) (A := 255) (B := 16384) (by omega) (by omega) (by omega) (by omega)
  have hn0 : (n == 0) = false := by rw [beq_eq_false_iff_ne]; omega
  have hiff2 : (decide (p ≤ 256 * k) == decide (n ≤ c * d)) = true := by rw [hiff]; simp
  have HI := Lib.hid hiff2; clear hiff hiff2
  have H' := Lib.hid H; clear H
  have G' := Lib.hid G; clear G
  go_enter Try.func4, Try.ntmps4
  go_wp2_with fail
  refine (H'.out _).mono ?_
  rintro e w1 ⟨rfl, hb1⟩
  have hc1 := (bcell hb1).1
  have hz1 : w.heap.size < w1.heap.size := by have := hb1.size; simp at this; omega
  go_wp2_with fail
  refine (G'.out _).mono ?_
  rintro e w2 ⟨rfl, hb2⟩
  have hc2 := (bcell hb2).1
  have hz2 : w.heap.size < w2.heap.size := by have := hb2.size; omega

  go_wp2_with fail
  refine (awake19 _).mono ?_
  rintro e w3 ⟨rfl, hb3⟩
  have hc3 := (bcell hb3).1
  have hiff := HI.out
  go_wp2_with fail

  go_ret
  exact ⟨rfl, by repeat' (first | exact Below.refl _ _ | refine Below.trans ?_ (Below.mono hb3 ?_) | refine Below.trans ?_ (Below.mono hb2 ?_) | refine Below.trans ?_ (Below.mono hb1 ?_) | refine Below.drew ?_ | refine below_drewN ?_ _ | refine Below.alloc ?_ ?_ _ | refine Below.setCell ?_ ?_ _ | (simp <;> omega) | omega)⟩

theorem law_plain (R V N k c : Int) (hX : okK R V N k) (hc : c ≤ 16) (hc0 : 0 ≤ c) (hd : 256 * k < R) (hv : V < 0) :
    1 ≤ cN R V N k ∧ 1 ≤ cD R V N k ∧ cD R V N k ≤ 16384 ∧ decide (pdP R V N c ≤ 256 * k) = decide (cN R V N k ≤ c * cD R V N k) := by
  have hP : okP R V N c := ⟨hX.1, hc0, hc⟩
  have e1 : cN R V N k = (R - 256 * k) / gK R V k := by unfold cN; rw [if_pos hX, if_neg (by omega), if_neg (by omega)]
  have e2 : cD R V N k = -V / gK R V k := by unfold cD; rw [if_pos hX, if_neg (by omega), if_neg (by omega)]
  have e3 : pdP R V N c = lim (R + c * V) 0 2097152 := by unfold pdP; rw [if_pos hP]
  rw [e1, e2, e3]
  obtain ⟨⟨x1, x2, x3, x4, x5, x6⟩, k1, k2⟩ := hX
  clear e1 e2 e3 hP
  have hg1 : 0 < gK R V k := by
    unfold gK
    have := Nat.gcd_pos_of_pos_left (-V).toNat (show 0 < (R - 256 * k).toNat by omega)
    omega
  have d1 : gK R V k ∣ R - 256 * k := by
    have h := Int.natCast_dvd_natCast.2 (Nat.gcd_dvd_left (R - 256 * k).toNat (-V).toNat)
    rw [Int.toNat_of_nonneg (by omega)] at h
    exact h
  have d2 : gK R V k ∣ -V := by
    have h := Int.natCast_dvd_natCast.2 (Nat.gcd_dvd_right (R - 256 * k).toNat (-V).toNat)
    rw [Int.toNat_of_nonneg (show 0 ≤ -V by omega)] at h
    exact h
  generalize gK R V k = g at hg1 d1 d2 ⊢
  obtain ⟨a, ha⟩ := d1
  obtain ⟨b, hb⟩ := d2
  have qa : (R - 256 * k) / g = a := by rw [ha]; exact Int.mul_ediv_cancel_left _ (by omega)
  have qb : -V / g = b := by rw [hb]; exact Int.mul_ediv_cancel_left _ (by omega)
  rw [qa, qb]
  have pa : 1 ≤ a := by
    rcases Int.lt_or_le a 1 with h | h
    · have : g * a ≤ 0 := Int.mul_nonpos_of_nonneg_of_nonpos (by omega) (by omega)
      omega
    · exact h
  have pb : 1 ≤ b := by
    rcases Int.lt_or_le b 1 with h | h
    · have : g * b ≤ 0 := Int.mul_nonpos_of_nonneg_of_nonpos (by omega) (by omega)
      omega
    · exact h
  have pb2 : b ≤ 16384 := by
    have : b ≤ g * b := by
      have := Int.mul_le_mul_of_nonneg_right (show 1 ≤ g by omega) (show 0 ≤ b by omega)
      omega
    omega
  refine ⟨pa, pb, pb2, ?_⟩
  have hcV : c * V = -(g * (c * b)) := by
    have : V = -(g * b) := by omega
    rw [this, Int.mul_neg, Int.mul_left_comm]
  have hcV0 : c * V ≤ 0 := Int.mul_nonpos_of_nonneg_of_nonpos hc0 (by omega)
  have key : R + c * V ≤ 256 * k ↔ a ≤ c * b := by
    constructor
    · intro h
      rcases Int.lt_or_le (c * b) a with h2 | h2
      · have := Int.mul_le_mul_of_nonneg_left (show c * b + 1 ≤ a by omega) (show 0 ≤ g by omega)
        rw [Int.mul_add, Int.mul_one] at this
        omega
      · exact h2
    · intro h
      have := Int.mul_le_mul_of_nonneg_left h (show 0 ≤ g by omega)
      omega
  have hl : lim (R + c * V) 0 2097152 ≤ 256 * k ↔ R + c * V ≤ 256 * k := by unfold lim; omega
  simp only [hl, key]

theorem close_ (R V N k : Int) (c : Int) (_w0 : (Lit.int .i64 R).wf = true) (_w1 : (Lit.int .i64 V).wf = true) (_w2 : (Lit.int .i64 N).wf = true) (_w3 : (Lit.int .i64 k).wf = true) (w4 : (Lit.int .u8 c).wf = true) (w : World) : Calls Try.prog 4 #[.agg #[.int .i64 R, .int .i64 V, .int .i64 N], .int .i64 k, .int .u8 c] w fun e w' => e = .returned (.bool true) ∧ Below w.heap.size w w' := by
  have hc : 0 ≤ c ∧ c ≤ 255 := by simpa [Lit.wf, IntKind.min, IntKind.max, IntKind.signed, IntKind.bits] using w4
  by_cases hX : okK R V N k
  · by_cases hd : R ≤ 256 * k
    · have e1 : cE R V N k = 0 := by unfold cE; rw [if_pos hX, if_pos hd]
      have e2 : cN R V N k = 0 := by unfold cN; rw [if_pos hX, if_pos hd]
      have e3 : cD R V N k = 1 := by unfold cD; rw [if_pos hX, if_pos hd]
      by_cases hp : okP R V N c
      · exact close4c R V N k c hc.1 hc.2 e1 (by unfold pdE; rw [if_pos hp]) e2 e3 hd hX.2.1 hX.2.2 w
      · exact close4b R V N k c hc.1 hc.2 e1 (by unfold pdE; rw [if_neg hp]) w
    · by_cases hv : 0 ≤ V
      · exact close4a R V N k c hc.1 hc.2 9 (by decide) (by unfold cE; rw [if_pos hX, if_neg hd, if_pos hv]) w
      · have e1 : cE R V N k = 0 := by unfold cE; rw [if_pos hX, if_neg hd, if_neg hv]
        by_cases hp : okP R V N c
        · obtain ⟨l1, l2, l3, l4⟩ := law_plain R V N k c hX hp.2.2 hp.2.1 (by omega) (by omega)
          exact close4d R V N k c hc.1 hc.2 _ _ _ e1 (by unfold pdE; rw [if_pos hp]) rfl rfl rfl hX.2.1 hX.2.2 l1 l2 l3 l4 w
        · exact close4b R V N k c hc.1 hc.2 e1 (by unfold pdE; rw [if_neg hp]) w
  · exact close4a R V N k c hc.1 hc.2 1 (by decide) (by unfold cE; rw [if_neg hX]) w

namespace rangingCloseRow
open Go.ChangeShapes Go.WideShapes Go.ChangeAt Go.RowKit
open Go.ChangeMaps (open_string shut_string)
set_option linter.unusedVariables false
theorem own : ownKnob Try.prog.godebug = none := by kernel_rfl
theorem laidOut : laidOutB Try.prog = true := by kernel_rfl
set_option maxRecDepth 100000 in
theorem lifted (os : Os) (started : os.Started) (H : Type) (enc : TypeId × Value → H) :
    ReturnsInHanded {} Try.checked os 4 .any (Rows.rangingCloseSpec.pre6 enc Try.prog Try.f4 Rows.rangingCloseRow.domain false) (Rows.rangingCloseSpec.post enc Try.prog Try.f4 false true false false) := by
  refine returnsInHanded_of_change (C := Try.checked) own started (by kernel_rfl) Try.func4
    (ChangeSpec.witness6 (enc := enc) (C := Try.checked) false ⟨#[], #[.agg #[.int .i64 0, .int .i64 0, .int .i64 0], .int .i64 0, .int .u8 0], []⟩ 8 (by kernel_rfl) (by kernel_rfl) (by kernel_rfl) (by kernel_rfl)) ?_
  intro W base args ds gs before hval0 hW hcnd _hsz
  have hval : ∀ (j : Nat) t v, Try.f4.params[j]? = some t → args[j]? = some v → Value.okWide Try.prog W .any base t v := hval0
  have hW' := hW
  obtain ⟨p, q, hA0, hV, rfl, hfz, hnd⟩ := hW
  have hA : DataW.TrodAll enc Try.prog W 0 (fun _ => true) true Try.f4.params.toList args.toList ds p := hA0
  rw [Try.params4] at hA hval
  obtain ⟨v0, vs0, d0, ds0, p0, q0, hargs, rfl, rfl, h0, r0⟩ := trodAll_cons hA
  obtain ⟨v1, vs1, d1, ds1, p1, q1, rfl, rfl, rfl, h1, r1⟩ := trodAll_cons r0
  obtain ⟨v2, vs2, d2, ds2, p2, q2, rfl, rfl, rfl, h2, r2⟩ := trodAll_cons r1
  obtain ⟨rfl, rfl, rfl⟩ := trodAll_nil r2
  obtain rfl : args = #[v0, v1, v2] := by cases args; simp_all
  obtain ⟨rfl, rfl⟩ := trodVars_none hV
  have k0 := h0
  have lt0 : ∀ x ∈ p0, x.block < W.heap.size := by obtain ⟨m, hm⟩ := k0; exact DataW.trod_lt m _ _ _ hm
  have k1 := h1
  have lt1 : ∀ x ∈ p1, x.block < W.heap.size := by obtain ⟨m, hm⟩ := k1; exact DataW.trod_lt m _ _ _ hm
  have k2 := h2
  have lt2 : ∀ x ∈ p2, x.block < W.heap.size := by obtain ⟨m, hm⟩ := k2; exact DataW.trod_lt m _ _ _ hm
  obtain ⟨c0_0, c0_1, c0_2, y0_0, y0_1, y0_2, _, rfl, -, -, z0_0, z0_1, z0_2⟩ := Go.Joins.open_agg3 Try.underlying23 (by kernel_rfl) (by kernel_rfl) (hval 0 23 v0 rfl rfl) h0
  obtain ⟨a0_0, e0_0, -, w0_0⟩ := DataW.trod_int Try.underlying3 z0_0
  simp only [List.cons.injEq, and_true] at e0_0; subst e0_0
  obtain ⟨a0_1, e0_1, -, w0_1⟩ := DataW.trod_int Try.underlying3 z0_1
  simp only [List.cons.injEq, and_true] at e0_1; subst e0_1
  obtain ⟨a0_2, e0_2, -, w0_2⟩ := DataW.trod_int Try.underlying3 z0_2
  simp only [List.cons.injEq, and_true] at e0_2; subst e0_2
  obtain ⟨a1, rfl, -, -, w1⟩ := open_int Try.underlying3 (hval 1 3 v1 rfl rfl) h1
  obtain ⟨a2, rfl, -, -, w2⟩ := open_int Try.underlying5 (hval 2 5 v2 rfl rfl) h2
  clear hA0 hval0
  refine (close_ a0_0 a0_1 a0_2 a1 a2 w0_0 w0_1 w0_2 w1 w2 W).mono fun e W' ⟨he, bel⟩ => ?_
  subst he
  exact ⟨_, rfl, _, _, _, [], _, [], hW', trodAll_mk1 (shut_bool Try.underlying4 _), (trodAll_cons_mk (Below.trod laidOut (by kernel_rfl) (of_decide_eq_true (by kernel_rfl)) k0 bel lt0) (trodAll_cons_mk (Below.trod laidOut (by kernel_rfl) (of_decide_eq_true (by kernel_rfl)) k1 bel lt1) (trodAll_cons_mk (Below.trod laidOut (by kernel_rfl) (of_decide_eq_true (by kernel_rfl)) k2 bel lt2) trodAll_mk0))), rfl, bel.frame _, fun h => by cases h⟩

theorem over : Rows.rangingCloseRow.holds Try.pinned (OpenSpec.ofChange Rows.rangingCloseSpec) :=
  OpenClaim.holds_of_wide 4 Try.f4 rfl rfl rfl rfl rfl rfl rfl ⟨rfl, rfl, rfl, rfl, rfl⟩ rfl rfl rfl rfl rfl (by kernel_rfl) Try.func4 (by kernel_rfl)
    (of_decide_eq_true (by kernel_rfl)) (by unfold Func.isWrapper; first | (rw [if_pos (by decide +kernel)]; kernel_rfl) | (rw [if_neg (by decide +kernel)]; exact ⟨rfl, rfl⟩))
    (fun os started H enc _ => lifted os started H enc)
theorem proved : Rows.RangingCloseSaid := over
end rangingCloseRow
end Go.Proofs.Ytephkhaebkajkaa
