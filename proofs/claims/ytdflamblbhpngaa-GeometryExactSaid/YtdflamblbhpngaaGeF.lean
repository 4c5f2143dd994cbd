/- Closing and Slant2 of the reference of package geometry; Move of both. -/
import Derived.Test.YtdflamblbhpngaaRows
import Derived.WalkKit
import Derived.WalkLawsBesides
import Derived.WalkSpells
import Derived.ProofKit
import Derived.Below
import Derived.Outline
import Derived.Lib.Hide
import Derived.Deep.RegionWith
import Derived.Deep.RegionHeld3
import Derived.Deep.DrawnRows
import Derived.StillTailTactics
import Derived.BigQuiet
import Derived.Deep.QuietTactic
import Derived.Deep.LoopGhost
import Derived.IntWalk
import Derived.Test.YtdflamblbhpngaaGeE
namespace Go.Proofs.Ytdflamblbhpngaa
open Go.RowKit
attribute [local go_sem ↓] Go.wp_at_zero Go.wp_at_succ
attribute [local go_sem] wrap_lit

set_option maxHeartbeats 1000000 in
theorem clos11 (p q v u : V3) (w : World) : Calls Try.prog 11 #[.agg #[.int .i64 p.x, .int .i64 p.y, .int .i64 p.z], .agg #[.int .i64 q.x, .int .i64 q.y, .int .i64 q.z], .agg #[.int .i64 v.x, .int .i64 v.y, .int .i64 v.z], .agg #[.int .i64 u.x, .int .i64 u.y, .int .i64 u.z]] w fun e w' => e = .returned (.tuple #[.int .i64 (clG p q v u), .int .i64 (erG p q v u)]) ∧ Below w.heap.size w w' := by
  unfold clG erG
  by_cases hg : okG p q v u
  · simp only [if_pos hg]
    have T : Hid (∀ w, Calls Try.prog 36 #[.agg #[.int .i64 p.x, .int .i64 p.y, .int .i64 p.z], .agg #[.int .i64 q.x, .int .i64 q.y, .int .i64 q.z], .agg #[.int .i64 v.x, .int .i64 v.y, .int .i64 v.z], .agg #[.int .i64 u.x, .int .i64 u.y, .int .i64 u.z]] w fun e w' => e = .returned (.int .i64 0) ∧ Below w.heap.size w w') := Lib.hid (fun w => by have H := wrong36 p q v u w; unfold erG at H; rw [if_pos hg] at H; exact H)
    have R := Lib.hid (fun w => rel37 p q v u w hg)
    have S1 := Lib.hid (sm_rp p q hg.1 hg.2.1)
    have S2 := Lib.hid (sm_rv v u hg.2.2.1 hg.2.2.2)
    clear hg
    by_cases c1 : pvG p q v u < 0
    · simp only [if_pos c1]
      go_enter Try.func11, Try.ntmps11
      go_wp2_with fail
      refine (T.out _).mono ?_
      rintro e w1 ⟨rfl, hb1⟩
      have hc1 := (bcell hb1).1
      have hf1 := (bcell hb1).2
      have hs1 := hb1.size
      try simp at hs1
      have hz1_0 : w.heap.size < w1.heap.size := by omega
      have hz1_1 : w.heap.size + 1 < w1.heap.size := by omega
      have hz1_2 : w.heap.size + 1 + 1 < w1.heap.size := by omega
      have hz1_3 : w.heap.size + 1 + 1 + 1 < w1.heap.size := by omega
      have B1 : Below w.heap.size w w1 := (((((Below.refl _ _).alloc (Nat.le_refl _) _).alloc (by first | omega | (simp; omega) | simp) _).alloc (by first | omega | (simp; omega) | simp) _).alloc (by first | omega | (simp; omega) | simp) _).trans (hb1.mono (by first | omega | (simp; omega) | simp))
      go_wp2_with fail
      refine (R.out _).mono ?_
      rintro e w2 ⟨A, C, rfl, hA, hC, hb2⟩
      have hs2 := hb2.size
      have B2 : Below w.heap.size w w2 := B1.trans (hb2.mono (by omega))
      go_wp2_with fail
      refine (dot38 A C 3 3 (rp p q) (rv v u) _ _ _ hA hC S1.out S2.out).mono ?_
      rintro e w3 ⟨h3, n3, rfl⟩
      have h3' : e = .returned (.int .i64 (pvG p q v u)) := h3
      subst h3'
      clear h3
      go_wp2_with fail
      go_ret2
      exact ⟨rfl, below_drewN B2 _⟩
    · simp only [if_neg c1]
      by_cases c2 : 0 < pvG p q v u
      · simp only [if_pos c2]
        go_enter Try.func11, Try.ntmps11
        go_wp2_with fail
        refine (T.out _).mono ?_
        rintro e w1 ⟨rfl, hb1⟩
        have hc1 := (bcell hb1).1
        have hf1 := (bcell hb1).2
        have hs1 := hb1.size
        try simp at hs1
        have hz1_0 : w.heap.size < w1.heap.size := by omega
        have hz1_1 : w.heap.size + 1 < w1.heap.size := by omega
        have hz1_2 : w.heap.size + 1 + 1 < w1.heap.size := by omega
        have hz1_3 : w.heap.size + 1 + 1 + 1 < w1.heap.size := by omega
        have B1 : Below w.heap.size w w1 := (((((Below.refl _ _).alloc (Nat.le_refl _) _).alloc (by first | omega | (simp; omega) | simp) _).alloc (by first | omega | (simp; omega) | simp) _).alloc (by first | omega | (simp; omega) | simp) _).trans (hb1.mono (by first | omega | (simp; omega) | simp))
        go_wp2_with fail
        refine (R.out _).mono ?_
        rintro e w2 ⟨A, C, rfl, hA, hC, hb2⟩
        have hs2 := hb2.size
        have B2 : Below w.heap.size w w2 := B1.trans (hb2.mono (by omega))
        go_wp2_with fail
        refine (dot38 A C 3 3 (rp p q) (rv v u) _ _ _ hA hC S1.out S2.out).mono ?_
        rintro e w3 ⟨h3, n3, rfl⟩
        have h3' : e = .returned (.int .i64 (pvG p q v u)) := h3
        subst h3'
        clear h3
        go_wp2_with fail
        go_ret2
        exact ⟨rfl, below_drewN B2 _⟩
      · simp only [if_neg c2]
        go_enter Try.func11, Try.ntmps11
        go_wp2_with fail
        refine (T.out _).mono ?_
        rintro e w1 ⟨rfl, hb1⟩
        have hc1 := (bcell hb1).1
        have hf1 := (bcell hb1).2
        have hs1 := hb1.size
        try simp at hs1
        have hz1_0 : w.heap.size < w1.heap.size := by omega
        have hz1_1 : w.heap.size + 1 < w1.heap.size := by omega
        have hz1_2 : w.heap.size + 1 + 1 < w1.heap.size := by omega
        have hz1_3 : w.heap.size + 1 + 1 + 1 < w1.heap.size := by omega
        have B1 : Below w.heap.size w w1 := (((((Below.refl _ _).alloc (Nat.le_refl _) _).alloc (by first | omega | (simp; omega) | simp) _).alloc (by first | omega | (simp; omega) | simp) _).alloc (by first | omega | (simp; omega) | simp) _).trans (hb1.mono (by first | omega | (simp; omega) | simp))
        go_wp2_with fail
        refine (R.out _).mono ?_
        rintro e w2 ⟨A, C, rfl, hA, hC, hb2⟩
        have hs2 := hb2.size
        have B2 : Below w.heap.size w w2 := B1.trans (hb2.mono (by omega))
        go_wp2_with fail
        refine (dot38 A C 3 3 (rp p q) (rv v u) _ _ _ hA hC S1.out S2.out).mono ?_
        rintro e w3 ⟨h3, n3, rfl⟩
        have h3' : e = .returned (.int .i64 (pvG p q v u)) := h3
        subst h3'
        clear h3
        go_wp2_with fail
        go_ret2
        exact ⟨rfl, below_drewN B2 _⟩
  · simp only [if_neg hg]
    have T : Hid (∀ w, Calls Try.prog 36 #[.agg #[.int .i64 p.x, .int .i64 p.y, .int .i64 p.z], .agg #[.int .i64 q.x, .int .i64 q.y, .int .i64 q.z], .agg #[.int .i64 v.x, .int .i64 v.y, .int .i64 v.z], .agg #[.int .i64 u.x, .int .i64 u.y, .int .i64 u.z]] w fun e w' => e = .returned (.int .i64 1) ∧ Below w.heap.size w w') := Lib.hid (fun w => by have H := wrong36 p q v u w; unfold erG at H; rw [if_neg hg] at H; exact H)
    clear hg
    go_enter Try.func11, Try.ntmps11
    go_wp2_with fail
    refine (T.out _).mono ?_
    rintro e w1 ⟨rfl, hb1⟩
    have hc1 := (bcell hb1).1
    have hf1 := (bcell hb1).2
    have hs1 := hb1.size
    try simp at hs1
    have B1 : Below w.heap.size w w1 := (((((Below.refl _ _).alloc (Nat.le_refl _) _).alloc (by first | omega | (simp; omega) | simp) _).alloc (by first | omega | (simp; omega) | simp) _).alloc (by first | omega | (simp; omega) | simp) _).trans (hb1.mono (by first | omega | (simp; omega) | simp))
    go_wp2_with fail
    go_ret2
    exact ⟨rfl, B1⟩

set_option maxHeartbeats 1000000 in
theorem slant26 (p q : V3) (w : World) : Calls Try.prog 26 #[.agg #[.int .i64 p.x, .int .i64 p.y, .int .i64 p.z], .agg #[.int .i64 q.x, .int .i64 q.y, .int .i64 q.z]] w fun e w' => e = .returned (.tuple #[.int .i64 (s2G p q), .int .i64 (erS p q)]) ∧ Below w.heap.size w w' := by
  unfold s2G erS
  by_cases h : okS p q
  · simp only [if_pos h]
    have hg : okG p q ⟨0, 0, 0⟩ ⟨0, 0, 0⟩ := okG0.2 h
    have T : Hid (∀ w, Calls Try.prog 36 #[.agg #[.int .i64 p.x, .int .i64 p.y, .int .i64 p.z], .agg #[.int .i64 q.x, .int .i64 q.y, .int .i64 q.z], .agg #[.int .i64 0, .int .i64 0, .int .i64 0], .agg #[.int .i64 0, .int .i64 0, .int .i64 0]] w fun e w' => e = .returned (.int .i64 0) ∧ Below w.heap.size w w') := Lib.hid (fun w => by have H := wrong36 p q ⟨0, 0, 0⟩ ⟨0, 0, 0⟩ w; unfold erG at H; rw [if_pos hg] at H; exact H)
    have R := Lib.hid (fun w => rel37 p q ⟨0, 0, 0⟩ ⟨0, 0, 0⟩ w hg)
    have S1 := Lib.hid (sm_rp p q hg.1 hg.2.1)
    clear hg h
    go_enter Try.func26, Try.ntmps26
    go_wp2_with fail
    refine (T.out _).mono ?_
    rintro e w1 ⟨rfl, hb1⟩
    have hc1 := (bcell hb1).1
    have hf1 := (bcell hb1).2
    have hs1 := hb1.size
    try simp at hs1
    have hz1_0 : w.heap.size < w1.heap.size := by omega
    have hz1_1 : w.heap.size + 1 < w1.heap.size := by omega
    have B1 : Below w.heap.size w w1 := (((Below.refl _ _).alloc (Nat.le_refl _) _).alloc (by first | omega | (simp; omega) | simp) _).trans (hb1.mono (by first | omega | (simp; omega) | simp))
    go_wp2_with fail
    refine (R.out _).mono ?_
    rintro e w2 ⟨A, C, rfl, hA, hC, hb2⟩
    have hs2 := hb2.size
    have B2 : Below w.heap.size w w2 := B1.trans (hb2.mono (by omega))
    go_wp2_with fail
    refine (dot38 A A 3 3 (rp p q) (rp p q) _ _ _ hA hA S1.out S1.out).mono ?_
    rintro e w3 ⟨h3, n3, rfl⟩
    have h3' : e = .returned (.int .i64 (ppG p q)) := h3
    subst h3'
    clear h3
    go_wp2_with fail
    go_ret2
    exact ⟨rfl, below_drewN B2 _⟩
  · simp only [if_neg h]
    have hg : ¬ okG p q ⟨0, 0, 0⟩ ⟨0, 0, 0⟩ := fun g => h (okG0.1 g)
    have T : Hid (∀ w, Calls Try.prog 36 #[.agg #[.int .i64 p.x, .int .i64 p.y, .int .i64 p.z], .agg #[.int .i64 q.x, .int .i64 q.y, .int .i64 q.z], .agg #[.int .i64 0, .int .i64 0, .int .i64 0], .agg #[.int .i64 0, .int .i64 0, .int .i64 0]] w fun e w' => e = .returned (.int .i64 1) ∧ Below w.heap.size w w') := Lib.hid (fun w => by have H := wrong36 p q ⟨0, 0, 0⟩ ⟨0, 0, 0⟩ w; unfold erG at H; rw [if_neg hg] at H; exact H)
    clear hg h
    go_enter Try.func26, Try.ntmps26
    go_wp2_with fail
    refine (T.out _).mono ?_
    rintro e w1 ⟨rfl, hb1⟩
    have hc1 := (bcell hb1).1
    have hf1 := (bcell hb1).2
    have hs1 := hb1.size
    try simp at hs1
    have B1 : Below w.heap.size w w1 := (((Below.refl _ _).alloc (Nat.le_refl _) _).alloc (by first | omega | (simp; omega) | simp) _).trans (hb1.mono (by first | omega | (simp; omega) | simp))
    go_wp2_with fail
    go_ret2
    exact ⟨rfl, B1⟩
end Go.Proofs.Ytdflamblbhpngaa
