/- near and Miss of the reference of package geometry. -/
import Derived.Test.YtdflamblbhpngaaRows
import Derived.WalkKit
import Derived.WalkLawsBesides
import Derived.WalkSpells
import Derived.ProofKit
import Derived.Below
import Derived.Outline
import Derived.Lib.Hide
import Derived.Deep.RegionWith
import Derived.Deep.RegionHeld3
import Derived.Deep.DrawnRows
import Derived.StillTailTactics
import Derived.BigQuiet
import Derived.Deep.QuietTactic
import Derived.Deep.LoopGhost
import Derived.IntWalk
import Derived.Test.YtdflamblbhpngaaGeS
import Derived.Test.YtdflamblbhpngaaGeL
namespace Go.Proofs.Ytdflamblbhpngaa
open Go.RowKit
attribute [local go_sem ↓] Go.wp_at_zero Go.wp_at_succ
attribute [local go_sem] wrap_lit

set_option maxHeartbeats 2000000 in
theorem near42 (A B : Option Addr) (a b : V3) (f d pp pv vv : Int) (N M : Nat) (w : World) (hA : Is .i64 w N A [a.x, a.y, a.z]) (hB : Is .i64 w M B [b.x, b.y, b.z]) (ha : sm a) (hb : sm b) (k1 : dot a a = pp) (k2 : dot a b = pv) (k3 : dot b b = vv) (h : okM pp pv vv d) (hf : f = 95 * d) :
    Calls Try.prog 42 #[.slice A 3 3, .slice B 3 3, .int .i64 f] w fun e w' => e = .returned (.bool (nearB pp pv vv d)) ∧ Below w.heap.size w w' := by
  obtain ⟨h1, h2, h3, h4, h5, h6, h7, h8⟩ := h
  obtain ⟨m1, m2⟩ := mul_bd (a := d) (A := 100000) (b := d) (B := 100000) (by omega) (by omega) (by omega) (by omega)
  have m3 : 0 ≤ d * d := Int.mul_nonneg h7 h7
  have e9 : f * f = 9025 * (d * d) := by rw [hf]; grind
  have e8 : 9025 * d * d = 9025 * (d * d) := Int.mul_assoc ..
  have m4 : 0 ≤ f * f := by omega
  have m5 : f * f ≤ 90250000000000 := by omega
  have hq : IntKind.i64.wrap (f * f) = f * f := IntWalk.i64_in _ (by omega)
  have hN : nearB pp pv vv d = decide (pp < f * f ∨ (pv < 0 ∧ (pp - f * f) * vv < -pv * -pv)) := by
    unfold nearB; rw [e9, e8]
  rw [hN]
  clear hN m1 m2 m3 e9 e8 hf
  by_cases c2 : pv < 0
  · have hd : decide (pv < 0) = true := by simpa using c2
    have hge : decide (0 ≤ pv) = false := by simpa using c2
    have hge' : ¬ 0 ≤ pv := by omega
    by_cases c1 : pp < f * f
    · have hr : decide (pp < f * f ∨ (pv < 0 ∧ (pp - f * f) * vv < -pv * -pv)) = true := decide_eq_true (.inl c1)
      rw [hr]; clear hr
      go_enter Try.func42, Try.ntmps42
      go_wp2_with fail
      refine (dot38 A A 3 3 a a _ _ _ hA hA ha ha).mono ?_
      rintro e w1 ⟨h1, n1, rfl⟩
      rw [k1] at h1
      subst h1
      go_wp2_with fail
      refine (dot38 A B 3 3 a b _ _ (w.drewN n1) hA hB ha hb).mono ?_
      rintro e w2 ⟨h2, n2, rfl⟩
      rw [k2] at h2
      subst h2
      go_wp2_with fail
      refine (dot38 B B 3 3 b b _ _ (w.drewN (n1 + n2)) hB hB hb hb).mono ?_
      rintro e w3 ⟨h3, n3, rfl⟩
      rw [k3] at h3
      subst h3
      go_wp2_with fail
      go_ret
      exact ⟨rfl, below_drewN (Below.refl _ _) _⟩
    · have c1' : f * f ≤ pp := by omega
      have hr : decide (pp < f * f ∨ (pv < 0 ∧ (pp - f * f) * vv < -pv * -pv)) = decide ((pp - f * f) * vv < -pv * -pv) := by
        rw [decide_eq_decide]
        constructor
        · rintro (h | h)
          · exact absurd h c1
          · exact h.2
        · exact fun h => .inr ⟨c2, h⟩
      rw [hr]; clear hr c1
      have P1 := Lib.hid (fun w => prod50 (pp - f * f) vv w (by omega) (by omega) (by omega) (by omega))
      have P2 := Lib.hid (fun w => prod50 (-pv) (-pv) w (by omega) (by omega) (by omega) (by omega))
      have q1 : IntKind.i64.wrap (pp - f * f) = pp - f * f := IntWalk.i64_in _ (by omega)
      have q2 : IntKind.i64.wrap (-pv) = -pv := IntWalk.i64_in _ (by omega)
      go_enter Try.func42, Try.ntmps42
      go_wp2_with fail
      refine (dot38 A A 3 3 a a _ _ _ hA hA ha ha).mono ?_
      rintro e w1 ⟨h1, n1, rfl⟩
      rw [k1] at h1
      subst h1
      go_wp2_with fail
      refine (dot38 A B 3 3 a b _ _ (w.drewN n1) hA hB ha hb).mono ?_
      rintro e w2 ⟨h2, n2, rfl⟩
      rw [k2] at h2
      subst h2
      go_wp2_with fail
      refine (dot38 B B 3 3 b b _ _ (w.drewN (n1 + n2)) hB hB hb hb).mono ?_
      rintro e w3 ⟨h3, n3, rfl⟩
      rw [k3] at h3
      subst h3
      go_wp2_with fail
      refine (P1.out _).mono ?_
      rintro e w1 ⟨A1, c1, l1, rfl, cl1, bv1, ln1, hl1, hb1⟩
      have C1 := Lib.hid cl1; have V1 := Lib.hid bv1; clear cl1 bv1
      have hs1 := hb1.size
      (try simp at hs1)
      go_wp2_with fail
      refine (P2.out _).mono ?_
      rintro e w2 ⟨A2, c2, l2, rfl, cl2, bv2, ln2, hl2, hb2⟩
      have C2 := Lib.hid cl2; have V2 := Lib.hid bv2; clear cl2 bv2
      have hs2 := hb2.size
      go_wp2_with fail
      refine (lessD49 A1 A2 c1 c2 l1 l2 _ _ _ (hl1.below hb2) hl2 C1.out C2.out (by omega)).mono ?_
      rintro e w3 ⟨h3, n3, rfl⟩
      rw [V1.out, V2.out] at h3
      subst h3
      go_wp2_with fail
      go_ret
      exact ⟨rfl, below_drewN (((below_drewN (Below.refl _ _) _).trans (hb1.mono (by simp))).trans (hb2.mono (by omega))) _⟩
  · have hd : decide (pv < 0) = false := by simpa using c2
    have hr : decide (pp < f * f ∨ (pv < 0 ∧ (pp - f * f) * vv < -pv * -pv)) = decide (pp < f * f) := by
      rw [decide_eq_decide]
      constructor
      · rintro (h | h)
        · exact h
        · exact absurd h.1 c2
      · exact .inl
    rw [hr]; clear hr
    have c2' : 0 ≤ pv := by omega
    clear c2
    go_enter Try.func42, Try.ntmps42
    go_wp2_with fail
    refine (dot38 A A 3 3 a a _ _ _ hA hA ha ha).mono ?_
    rintro e w1 ⟨h1, n1, rfl⟩
    rw [k1] at h1
    subst h1
    go_wp2_with fail
    refine (dot38 A B 3 3 a b _ _ (w.drewN n1) hA hB ha hb).mono ?_
    rintro e w2 ⟨h2, n2, rfl⟩
    rw [k2] at h2
    subst h2
    go_wp2_with fail
    refine (dot38 B B 3 3 b b _ _ (w.drewN (n1 + n2)) hB hB hb hb).mono ?_
    rintro e w3 ⟨h3, n3, rfl⟩
    rw [k3] at h3
    subst h3
    go_wp2_with fail
    go_ret
    exact ⟨rfl, below_drewN (Below.refl _ _) _⟩

theorem near_top (p q v u : V3) (h : okG p q v u) : nearB (ppG p q) (pvG p q v u) (vvG v u) 32768 = true := by
  have := pp_bd p q h.1 h.2.1
  exact decide_eq_true (.inl (by omega))

set_option maxHeartbeats 2000000 in
theorem miss15 (p q v u : V3) (w : World) : Calls Try.prog 15 #[.agg #[.int .i64 p.x, .int .i64 p.y, .int .i64 p.z], .agg #[.int .i64 q.x, .int .i64 q.y, .int .i64 q.z], .agg #[.int .i64 v.x, .int .i64 v.y, .int .i64 v.z], .agg #[.int .i64 u.x, .int .i64 u.y, .int .i64 u.z]] w fun e w' => e = .returned (.tuple #[.int .i64 (missG p q v u), .int .i64 (erG p q v u)]) ∧ Below w.heap.size w w' := by
  unfold missG erG
  by_cases h : okG p q v u
  · simp only [if_pos h]
    have T : Hid (∀ w, Calls Try.prog 36 #[.agg #[.int .i64 p.x, .int .i64 p.y, .int .i64 p.z], .agg #[.int .i64 q.x, .int .i64 q.y, .int .i64 q.z], .agg #[.int .i64 v.x, .int .i64 v.y, .int .i64 v.z], .agg #[.int .i64 u.x, .int .i64 u.y, .int .i64 u.z]] w fun e w' => e = .returned (.int .i64 0) ∧ Below w.heap.size w w') := Lib.hid (fun w => by have H := wrong36 p q v u w; unfold erG at H; rw [if_pos h] at H; exact H)
    have R := Lib.hid (fun w => rel37 p q v u w h)
    have S1 := Lib.hid (sm_rp p q h.1 h.2.1)
    have S2 := Lib.hid (sm_rv v u h.2.2.1 h.2.2.2)
    obtain ⟨b1, b2, b3, b4, b5, b6⟩ := bdG p q v u h
    have HT := Lib.hid (near_top p q v u h)
    have MI := Lib.hid (fun m => missR_iff (ppG p q) (pvG p q v u) (vvG v u) m b5)
    have MB := missR_bd (ppG p q) (pvG p q v u) (vvG v u)
    have HM := Lib.hid (fun d e h0 h1 h2 => nearB_mono (ppG p q) (pvG p q v u) (vvG v u) d e b5 h0 h1 h2)
    have HB := Lib.hid (And.intro b1 (And.intro b2 (And.intro b3 (And.intro b4 (And.intro b5 b6)))))
    have N := Lib.hid (fun A C (w2 wr : World) d f (h0 : 0 ≤ d) (h1 : d ≤ 40000) (hf : f = 95 * d) hA hC => near42 A C (rp p q) (rv v u) f d (ppG p q) (pvG p q v u) (vvG v u) w2.heap.size w2.heap.size wr hA hC (sm_rp p q h.1 h.2.1) (sm_rv v u h.2.2.1 h.2.2.2) rfl rfl rfl ⟨b1, b2, b3, b4, b5, b6, h0, by omega⟩ hf)
    clear h b1 b2 b3 b4 b5 b6
    obtain ⟨r1, r2⟩ := MB
    generalize hR : missR (ppG p q) (pvG p q v u) (vvG v u) = R0 at MI r1 r2 ⊢
    clear hR
    go_enter Try.func15, Try.ntmps15
    go_wp2_with fail
    refine (T.out _).mono ?_
    rintro e w1 ⟨rfl, hb1⟩
    have hc1 := (bcell hb1).1
    have hf1 := (bcell hb1).2
    have hs1 := hb1.size
    try simp at hs1
    have hz1_0 : w.heap.size < w1.heap.size := by omega
    have hz1_1 : w.heap.size + 1 < w1.heap.size := by omega
    have hz1_2 : w.heap.size + 1 + 1 < w1.heap.size := by omega
    have hz1_3 : w.heap.size + 1 + 1 + 1 < w1.heap.size := by omega
    have B1 : Below w.heap.size w w1 := (((((Below.refl _ _).alloc (Nat.le_refl _) _).alloc (by first | omega | (simp; omega) | simp) _).alloc (by first | omega | (simp; omega) | simp) _).alloc (by first | omega | (simp; omega) | simp) _).trans (hb1.mono (by first | omega | (simp; omega) | simp))
    go_wp2_with fail
    refine (R.out _).mono ?_
    rintro e w2 ⟨A, C, rfl, hA, hC, hb2⟩
    have hs2 := hb2.size
    have B2 : Below w.heap.size w w2 := B1.trans (hb2.mono (by omega))
    go_wp2_with fail
    go_loopw [13, 14] (fun a b wr => ∃ lo hi : Int, a = .int .i64 lo ∧ b = .int .i64 hi ∧ 0 ≤ lo ∧ lo ≤ R0 ∧ R0 < hi ∧ hi ≤ 40000 ∧ Below w2.heap.size w2 wr) (fun a b _ => (intOf b - intOf a).toNat)
    case atStart => exact ⟨0, 40000, rfl, rfl, by omega, by omega, by omega, by omega, Below.refl _ _⟩
    case round =>
      obtain ⟨lo, hi, rfl, rfl, l0, l1, l2, l3, hB⟩ := hrel
      by_cases hgo : 1 < hi - lo
      · have q0 : (lo + hi).tdiv 2 = (lo + hi) / 2 := Int.tdiv_eq_ediv_of_nonneg (by omega)
        have t1 : lo < (lo + hi) / 2 := by omega
        have t2 : (lo + hi) / 2 < hi := by omega
        generalize (lo + hi) / 2 = m at q0 t1 t2
        have q1 : IntKind.i64.wrap (95 * m) = 95 * m := IntWalk.i64_in _ (by omega)
        have CL := Lib.hid (N.out A C w2 wr m (95 * m) (by omega) (by omega) rfl (hA.below hB) (hC.below hB))
        have Q : R0 < m ↔ nearB (ppG p q) (pvG p q v u) (vvG v u) m = true := by
          rcases Int.lt_or_le m 32768 with g | g
          · have := MI.out m (by omega) g
            cases hn : nearB (ppG p q) (pvG p q v u) (vvG v u) m
            · simp only [hn] at this; simp at this ⊢; omega
            · simp only [hn] at this; simp at this ⊢; omega
          · exact ⟨fun _ => HM.out 32768 m (by omega) g HT.out, fun _ => by omega⟩
        generalize nearB (ppG p q) (pvG p q v u) (vvG v u) m = bn at CL Q
        cases bn with
        | true =>
          have hm := Q.2 rfl
          clear Q
          go_wp2_with fail
          refine CL.out.mono ?_
          rintro e w3 ⟨rfl, hb3⟩
          go_wp2_with fail
          exact ⟨⟨lo, m, rfl, rfl, l0, l1, hm, by omega, hB.trans (hb3.mono hB.size)⟩, by simp [intOf]; omega⟩
        | false =>
          have hm : m ≤ R0 := by
            rcases Int.lt_or_le R0 m with g | g
            · exact absurd (Q.1 g) (by simp)
            · exact g
          clear Q
          go_wp2_with fail
          refine CL.out.mono ?_
          rintro e w3 ⟨rfl, hb3⟩
          go_wp2_with fail
          exact ⟨⟨m, hi, rfl, rfl, by omega, hm, l2, l3, hB.trans (hb3.mono hB.size)⟩, by simp [intOf]; omega⟩
      · have e1 : lo = R0 := by omega
        have HE := Lib.hid e1
        have hgo' : hi - lo ≤ 1 := by omega
        clear e1
        go_wp2_with fail
        go_ret2
        rw [HE.out]
        exact ⟨rfl, B2.trans (hB.mono (by omega))⟩
  · simp only [if_neg h]
    have T : Hid (∀ w, Calls Try.prog 36 #[.agg #[.int .i64 p.x, .int .i64 p.y, .int .i64 p.z], .agg #[.int .i64 q.x, .int .i64 q.y, .int .i64 q.z], .agg #[.int .i64 v.x, .int .i64 v.y, .int .i64 v.z], .agg #[.int .i64 u.x, .int .i64 u.y, .int .i64 u.z]] w fun e w' => e = .returned (.int .i64 1) ∧ Below w.heap.size w w') := Lib.hid (fun w => by have H := wrong36 p q v u w; unfold erG at H; rw [if_neg h] at H; exact H)
    clear h
    go_enter Try.func15, Try.ntmps15
    go_wp2_with fail
    refine (T.out _).mono ?_
    rintro e w1 ⟨rfl, hb1⟩
    have hc1 := (bcell hb1).1
    have hf1 := (bcell hb1).2
    have hs1 := hb1.size
    try simp at hs1
    have B1 : Below w.heap.size w w1 := (((((Below.refl _ _).alloc (Nat.le_refl _) _).alloc (by first | omega | (simp; omega) | simp) _).alloc (by first | omega | (simp; omega) | simp) _).alloc (by first | omega | (simp; omega) | simp) _).trans (hb1.mono (by first | omega | (simp; omega) | simp))
    go_wp2_with fail
    go_ret2
    exact ⟨rfl, B1⟩
end Go.Proofs.Ytdflamblbhpngaa
