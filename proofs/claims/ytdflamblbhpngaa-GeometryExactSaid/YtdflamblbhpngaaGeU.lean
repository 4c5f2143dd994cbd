/- Within of the reference of package geometry. -/
import Derived.Test.YtdflamblbhpngaaRows
import Derived.WalkKit
import Derived.WalkLawsBesides
import Derived.WalkSpells
import Derived.ProofKit
import Derived.Below
import Derived.Outline
import Derived.Lib.Hide
import Derived.Deep.RegionWith
import Derived.Deep.RegionHeld3
import Derived.Deep.DrawnRows
import Derived.StillTailTactics
import Derived.BigQuiet
import Derived.Deep.QuietTactic
import Derived.Deep.LoopGhost
import Derived.IntWalk
import Derived.Test.YtdflamblbhpngaaGeT
import Derived.Test.YtdflamblbhpngaaGeJ
namespace Go.Proofs.Ytdflamblbhpngaa
open Go.RowKit
attribute [local go_sem ↓] Go.wp_at_zero Go.wp_at_succ
attribute [local go_sem] wrap_lit

theorem dotW38 (A B : Option Addr) (c c' : Nat) (a b : V3) (N M : Nat) (w : World) (hA : Is .i64 w N A [a.x, a.y, a.z]) (hB : Is .i64 w M B [b.x, b.y, b.z]) (ha : sw a) (hb : sw b) : Calls Try.prog 38 #[.slice A 3 c, .slice B 3 c'] w fun e w' => e = .returned (.int .i64 (dot a b)) ∧ ∃ n, w.drewN n = w' := by
  obtain ⟨⟨m1, m2⟩, ⟨m3, m4⟩, m5, m6⟩ := dot_bw a b ha hb
  obtain ⟨g, o, rfl, _, hc⟩ := hA (by simp)
  obtain ⟨g', o', rfl, _, hc'⟩ := hB (by simp)
  have c0 : w.cell? ⟨g, o, none⟩ = some (.int .i64 a.x) := hc 0 (by simp)
  have c1 : w.cell? ⟨g, o + 1, none⟩ = some (.int .i64 a.y) := hc 1 (by simp)
  have c2 : w.cell? ⟨g, o + 2, none⟩ = some (.int .i64 a.z) := hc 2 (by simp)
  have d0 : w.cell? ⟨g', o', none⟩ = some (.int .i64 b.x) := hc' 0 (by simp)
  have d1 : w.cell? ⟨g', o' + 1, none⟩ = some (.int .i64 b.y) := hc' 1 (by simp)
  have d2 : w.cell? ⟨g', o' + 2, none⟩ = some (.int .i64 b.z) := hc' 2 (by simp)
  have q1 : IntKind.i64.wrap (a.x * b.x) = a.x * b.x := IntWalk.i64_in _ (by omega)
  have q2 : IntKind.i64.wrap (a.y * b.y) = a.y * b.y := IntWalk.i64_in _ (by omega)
  have q3 : IntKind.i64.wrap (a.z * b.z) = a.z * b.z := IntWalk.i64_in _ (by omega)
  have q4 : IntKind.i64.wrap (a.x * b.x + a.y * b.y) = a.x * b.x + a.y * b.y := IntWalk.i64_in _ (by omega)
  have q5 : IntKind.i64.wrap (a.x * b.x + a.y * b.y + a.z * b.z) = a.x * b.x + a.y * b.y + a.z * b.z := IntWalk.i64_in _ (by omega)
  clear hc hc' hA hB m1 m2 m3 m4 m5 m6
  go_enter Try.func38, Try.ntmps38
  go_wp2_with fail
  go_quiet (fail)
  go_wp2_with fail
  go_ret
  exact ⟨rfl, nq, rfl⟩

set_option maxHeartbeats 2000000 in
theorem within17 (p q v u : V3) (d t : Int) (w : World) : Calls Try.prog 17 #[.agg #[.int .i64 p.x, .int .i64 p.y, .int .i64 p.z], .agg #[.int .i64 q.x, .int .i64 q.y, .int .i64 q.z], .agg #[.int .i64 v.x, .int .i64 v.y, .int .i64 v.z], .agg #[.int .i64 u.x, .int .i64 u.y, .int .i64 u.z], .int .i64 d, .int .i64 t] w fun e w' => e = .returned (.tuple #[.bool (wiB p q v u d t), .int .i64 (wiE p q v u d t)]) ∧ Below w.heap.size w w' := by
  unfold wiB wiE
  by_cases h : okG p q v u
  · have T : Hid (∀ w, Calls Try.prog 36 #[.agg #[.int .i64 p.x, .int .i64 p.y, .int .i64 p.z], .agg #[.int .i64 q.x, .int .i64 q.y, .int .i64 q.z], .agg #[.int .i64 v.x, .int .i64 v.y, .int .i64 v.z], .agg #[.int .i64 u.x, .int .i64 u.y, .int .i64 u.z]] w fun e w' => e = .returned (.int .i64 0) ∧ Below w.heap.size w w') := Lib.hid (fun w => by have H := wrong36 p q v u w; unfold erG at H; rw [if_pos h] at H; exact H)
    by_cases hw : okW d t
    · simp only [if_pos (And.intro h hw)]
      obtain ⟨b1, b2, b3, b4, b5, b6⟩ := bdG p q v u h
      have hE := sw_en p q v u t h ⟨hw.2.2.1, hw.2.2.2⟩
      obtain ⟨⟨a1, a2⟩, ⟨a3, a4⟩, a5, a6⟩ := tv_bd p q v u t h ⟨hw.2.2.1, hw.2.2.2⟩
      obtain ⟨s1, s2, s3, s4, s5, s6⟩ := sm_rp p q h.1 h.2.1
      have S1 := Lib.hid (sm_rp p q h.1 h.2.1)
      have S2 := Lib.hid (sm_rv v u h.2.2.1 h.2.2.2)
      have R := Lib.hid (fun w => rel37 p q v u w h)
      obtain ⟨w1, w2, w3, w4⟩ := hw
      obtain ⟨m1, m2⟩ := mul_bd (a := t) (A := 3600) (b := vvG v u) (B := 10000000000000) (by omega) (by omega) (by omega) (by omega)
      have q1 : IntKind.i64.wrap (t * vvG v u) = t * vvG v u := IntWalk.i64_in _ (by omega)
      obtain ⟨m3, m4⟩ := mul_bd (a := 9025 * d) (A := 295731200) (b := d) (B := 32768) (by omega) (by omega) (by omega) (by omega)
      have q2 : IntKind.i64.wrap (9025 * d * d) = 9025 * d * d := IntWalk.i64_in _ (by omega)
      have q3 : IntKind.i64.wrap (t * (rv v u).x) = t * (rv v u).x := IntWalk.i64_in _ (by omega)
      have q4 : IntKind.i64.wrap (t * (rv v u).y) = t * (rv v u).y := IntWalk.i64_in _ (by omega)
      have q5 : IntKind.i64.wrap (t * (rv v u).z) = t * (rv v u).z := IntWalk.i64_in _ (by omega)
      have q6 : IntKind.i64.wrap ((rp p q).x + t * (rv v u).x) = (rp p q).x + t * (rv v u).x := IntWalk.i64_in _ (by omega)
      have q7 : IntKind.i64.wrap ((rp p q).y + t * (rv v u).y) = (rp p q).y + t * (rv v u).y := IntWalk.i64_in _ (by omega)
      have q8 : IntKind.i64.wrap ((rp p q).z + t * (rv v u).z) = (rp p q).z + t * (rv v u).z := IntWalk.i64_in _ (by omega)
      have N := Lib.hid (fun A C (w2 wr : World) hA hC => near42 A C (rp p q) (rv v u) (95 * d) d (ppG p q) (pvG p q v u) (vvG v u) w2.heap.size w2.heap.size wr hA hC (sm_rp p q h.1 h.2.1) (sm_rv v u h.2.2.1 h.2.2.2) rfl rfl rfl ⟨b1, b2, b3, b4, b5, b6, w1, by omega⟩ rfl)
      have HE := Lib.hid hE
      clear h hE m1 m2 m3 m4
      by_cases c : -pvG p q v u ≤ t * vvG v u
      · simp only [if_pos c]
        go_enter Try.func17, Try.ntmps17
        go_wp2_with fail
        refine (T.out _).mono ?_
        rintro e w1 ⟨rfl, hb1⟩
        have hc1 := (bcell hb1).1
        have hf1 := (bcell hb1).2
        have hs1 := hb1.size
        try simp at hs1
        have hz1_0 : w.heap.size < w1.heap.size := by omega
        have hz1_1 : w.heap.size + 1 < w1.heap.size := by omega
        have hz1_2 : w.heap.size + 1 + 1 < w1.heap.size := by omega
        have hz1_3 : w.heap.size + 1 + 1 + 1 < w1.heap.size := by omega
        have B1 : Below w.heap.size w w1 := (((((Below.refl _ _).alloc (Nat.le_refl _) _).alloc (by first | omega | (simp; omega) | simp) _).alloc (by first | omega | (simp; omega) | simp) _).alloc (by first | omega | (simp; omega) | simp) _).trans (hb1.mono (by first | omega | (simp; omega) | simp))
        go_wp2_with fail
        refine (R.out _).mono ?_
        rintro e w2 ⟨A, C, rfl, hA, hC, hb2⟩
        have hs2 := hb2.size
        have B2 : Below w.heap.size w w2 := B1.trans (hb2.mono (by omega))
        go_wp2_with fail
        refine (dot38 A C 3 3 (rp p q) (rv v u) _ _ _ hA hC S1.out S2.out).mono ?_
        rintro e w3 ⟨h3, n3, rfl⟩
        have h3' : e = .returned (.int .i64 (pvG p q v u)) := h3
        subst h3'
        clear h3
        go_wp2_with fail
        refine (dot38 C C 3 3 (rv v u) (rv v u) w2.heap.size w2.heap.size (w2.drewN n3) hC hC S2.out S2.out).mono ?_
        rintro e w4 ⟨h4, n4, rfl⟩
        have h4' : e = .returned (.int .i64 (vvG v u)) := h4
        subst h4'
        clear h4
        go_wp2_with fail
        refine (N.out A C w2 (w2.drewN (n3 + n4)) hA hC).mono ?_
        rintro e w5 ⟨rfl, hb5⟩
        go_wp2_with fail
        go_ret2
        exact ⟨rfl, (below_drewN B2 _).trans (hb5.mono (by simp; omega))⟩
      · simp only [if_neg c]
        have c' : t * vvG v u < -pvG p q v u := by omega
        have hcd : decide (-pvG p q v u ≤ t * vvG v u) = false := by simpa using c'
        clear c
        go_enter Try.func17, Try.ntmps17
        go_wp2_with fail
        refine (T.out _).mono ?_
        rintro e w1 ⟨rfl, hb1⟩
        have hc1 := (bcell hb1).1
        have hf1 := (bcell hb1).2
        have hs1 := hb1.size
        try simp at hs1
        have hz1_0 : w.heap.size < w1.heap.size := by omega
        have hz1_1 : w.heap.size + 1 < w1.heap.size := by omega
        have hz1_2 : w.heap.size + 1 + 1 < w1.heap.size := by omega
        have hz1_3 : w.heap.size + 1 + 1 + 1 < w1.heap.size := by omega
        have B1 : Below w.heap.size w w1 := (((((Below.refl _ _).alloc (Nat.le_refl _) _).alloc (by first | omega | (simp; omega) | simp) _).alloc (by first | omega | (simp; omega) | simp) _).alloc (by first | omega | (simp; omega) | simp) _).trans (hb1.mono (by first | omega | (simp; omega) | simp))
        go_wp2_with fail
        refine (R.out _).mono ?_
        rintro e w2 ⟨A, C, rfl, hA, hC, hb2⟩
        have hs2 := hb2.size
        have B2 : Below w.heap.size w w2 := B1.trans (hb2.mono (by omega))
        go_wp2_with fail
        refine (dot38 A C 3 3 (rp p q) (rv v u) _ _ _ hA hC S1.out S2.out).mono ?_
        rintro e w3 ⟨h3, n3, rfl⟩
        have h3' : e = .returned (.int .i64 (pvG p q v u)) := h3
        subst h3'
        clear h3
        go_wp2_with fail
        refine (dot38 C C 3 3 (rv v u) (rv v u) w2.heap.size w2.heap.size (w2.drewN n3) hC hC S2.out S2.out).mono ?_
        rintro e w4 ⟨h4, n4, rfl⟩
        have h4' : e = .returned (.int .i64 (vvG v u)) := h4
        subst h4'
        clear h4
        obtain ⟨g, o, rfl, hgA, hcA⟩ := hA (by simp)
        obtain ⟨g', o', rfl, hgC, hcC⟩ := hC (by simp)
        have xa0 : w2.cell? ⟨g, o, none⟩ = some (.int .i64 (rp p q).x) := hcA 0 (by simp)
        have xa1 : w2.cell? ⟨g, o + 1, none⟩ = some (.int .i64 (rp p q).y) := hcA 1 (by simp)
        have xa2 : w2.cell? ⟨g, o + 2, none⟩ = some (.int .i64 (rp p q).z) := hcA 2 (by simp)
        have xc0 : w2.cell? ⟨g', o', none⟩ = some (.int .i64 (rv v u).x) := hcC 0 (by simp)
        have xc1 : w2.cell? ⟨g', o' + 1, none⟩ = some (.int .i64 (rv v u).y) := hcC 1 (by simp)
        have xc2 : w2.cell? ⟨g', o' + 2, none⟩ = some (.int .i64 (rv v u).z) := hcC 2 (by simp)
        clear hcA hcC hA hC
        go_wp2_with fail
        go_region
        go_wp2_with fail
        obtain ⟨X, hX⟩ : ∃ X, X = ((w2.drewN (n3 + n4 + 1)).alloc (.cells #[.int .i64 ((rp p q).x + t * (rv v u).x), .int .i64 ((rp p q).y + t * (rv v u).y), .int .i64 ((rp p q).z + t * (rv v u).z)] 3)) := ⟨_, rfl⟩
        have hI : Is .i64 X X.heap.size (some ⟨w2.heap.size, 0, none⟩) [(enG p q v u t).x, (enG p q v u t).y, (enG p q v u t).z] := isN X w2.heap.size 3 _ _ _ (by rw [hX]; exact heap_alloc_at _ _ _ (by simp))
        have BX : Below w.heap.size w X := by rw [hX]; exact (below_drewN B2 _).alloc (by simp; omega) _
        rw [← hX]
        clear hX
        refine (dotW38 _ _ 3 3 (enG p q v u t) (enG p q v u t) _ _ _ hI hI HE.out HE.out).mono ?_
        rintro e w5 ⟨rfl, n5, rfl⟩
        go_wp2_with fail
        go_ret2
        exact ⟨rfl, below_drewN BX _⟩
    · have hn : ¬ (okG p q v u ∧ okW d t) := fun g => hw g.2
      simp only [if_neg hn]
      clear h hn
      by_cases e1 : d < 0
      · clear hw
        go_enter Try.func17, Try.ntmps17
        go_wp2_with fail
        refine (T.out _).mono ?_
        rintro e w1 ⟨rfl, hb1⟩
        have hc1 := (bcell hb1).1
        have hf1 := (bcell hb1).2
        have hs1 := hb1.size
        try simp at hs1
        have B1 : Below w.heap.size w w1 := (((((Below.refl _ _).alloc (Nat.le_refl _) _).alloc (by first | omega | (simp; omega) | simp) _).alloc (by first | omega | (simp; omega) | simp) _).alloc (by first | omega | (simp; omega) | simp) _).trans (hb1.mono (by first | omega | (simp; omega) | simp))
        go_wp2_with fail
        go_ret2
        exact ⟨rfl, B1⟩
      · by_cases e2 : 32768 < d
        · clear hw
          go_enter Try.func17, Try.ntmps17
          go_wp2_with fail
          refine (T.out _).mono ?_
          rintro e w1 ⟨rfl, hb1⟩
          have hc1 := (bcell hb1).1
          have hf1 := (bcell hb1).2
          have hs1 := hb1.size
          try simp at hs1
          have B1 : Below w.heap.size w w1 := (((((Below.refl _ _).alloc (Nat.le_refl _) _).alloc (by first | omega | (simp; omega) | simp) _).alloc (by first | omega | (simp; omega) | simp) _).alloc (by first | omega | (simp; omega) | simp) _).trans (hb1.mono (by first | omega | (simp; omega) | simp))
          go_wp2_with fail
          go_ret2
          exact ⟨rfl, B1⟩
        · by_cases e3 : t < 0
          · clear hw
            go_enter Try.func17, Try.ntmps17
            go_wp2_with fail
            refine (T.out _).mono ?_
            rintro e w1 ⟨rfl, hb1⟩
            have hc1 := (bcell hb1).1
            have hf1 := (bcell hb1).2
            have hs1 := hb1.size
            try simp at hs1
            have B1 : Below w.heap.size w w1 := (((((Below.refl _ _).alloc (Nat.le_refl _) _).alloc (by first | omega | (simp; omega) | simp) _).alloc (by first | omega | (simp; omega) | simp) _).alloc (by first | omega | (simp; omega) | simp) _).trans (hb1.mono (by first | omega | (simp; omega) | simp))
            go_wp2_with fail
            go_ret2
            exact ⟨rfl, B1⟩
          · have e4 : 3600 < t := by unfold okW at hw; omega
            clear hw
            go_enter Try.func17, Try.ntmps17
            go_wp2_with fail
            refine (T.out _).mono ?_
            rintro e w1 ⟨rfl, hb1⟩
            have hc1 := (bcell hb1).1
            have hf1 := (bcell hb1).2
            have hs1 := hb1.size
            try simp at hs1
            have B1 : Below w.heap.size w w1 := (((((Below.refl _ _).alloc (Nat.le_refl _) _).alloc (by first | omega | (simp; omega) | simp) _).alloc (by first | omega | (simp; omega) | simp) _).alloc (by first | omega | (simp; omega) | simp) _).trans (hb1.mono (by first | omega | (simp; omega) | simp))
            go_wp2_with fail
            go_ret2
            exact ⟨rfl, B1⟩
  · have hn : ¬ (okG p q v u ∧ okW d t) := fun g => h g.1
    simp only [if_neg hn]
    have T : Hid (∀ w, Calls Try.prog 36 #[.agg #[.int .i64 p.x, .int .i64 p.y, .int .i64 p.z], .agg #[.int .i64 q.x, .int .i64 q.y, .int .i64 q.z], .agg #[.int .i64 v.x, .int .i64 v.y, .int .i64 v.z], .agg #[.int .i64 u.x, .int .i64 u.y, .int .i64 u.z]] w fun e w' => e = .returned (.int .i64 1) ∧ Below w.heap.size w w') := Lib.hid (fun w => by have H := wrong36 p q v u w; unfold erG at H; rw [if_neg h] at H; exact H)
    clear h hn
    go_enter Try.func17, Try.ntmps17
    go_wp2_with fail
    refine (T.out _).mono ?_
    rintro e w1 ⟨rfl, hb1⟩
    have hc1 := (bcell hb1).1
    have hf1 := (bcell hb1).2
    have hs1 := hb1.size
    try simp at hs1
    have B1 : Below w.heap.size w w1 := (((((Below.refl _ _).alloc (Nat.le_refl _) _).alloc (by first | omega | (simp; omega) | simp) _).alloc (by first | omega | (simp; omega) | simp) _).alloc (by first | omega | (simp; omega) | simp) _).trans (hb1.mono (by first | omega | (simp; omega) | simp))
    go_wp2_with fail
    go_ret2
    exact ⟨rfl, B1⟩
end Go.Proofs.Ytdflamblbhpngaa
