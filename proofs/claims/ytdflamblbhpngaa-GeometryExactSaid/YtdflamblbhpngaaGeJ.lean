/- Package geometry: Within, Closest. -/
import Derived.Test.YtdflamblbhpngaaRows
import Derived.WalkKit
import Derived.WalkLawsBesides
import Derived.WalkSpells
import Derived.ProofKit
import Derived.Below
import Derived.Outline
import Derived.Lib.Hide
import Derived.Deep.RegionWith
import Derived.Deep.RegionHeld3
import Derived.Deep.DrawnRows
import Derived.StillTailTactics
import Derived.BigQuiet
import Derived.Deep.QuietTactic
import Derived.Deep.LoopGhost
import Derived.IntWalk
import Derived.Test.YtdflamblbhpngaaGeI
namespace Go.Proofs.Ytdflamblbhpngaa
open Go.RowKit
attribute [local go_sem ↓] Go.wp_at_zero Go.wp_at_succ
attribute [local go_sem] wrap_lit

/-- Small enough for a scalar product that fits. -/
def sw (a : V3) : Prop := -1000000000 ≤ a.x ∧ a.x ≤ 1000000000 ∧ -1000000000 ≤ a.y ∧ a.y ≤ 1000000000 ∧ -1000000000 ≤ a.z ∧ a.z ≤ 1000000000
theorem dot_bw (a b : V3) (ha : sw a) (hb : sw b) : (-1000000000000000000 ≤ a.x * b.x ∧ a.x * b.x ≤ 1000000000000000000) ∧ (-1000000000000000000 ≤ a.y * b.y ∧ a.y * b.y ≤ 1000000000000000000) ∧ (-1000000000000000000 ≤ a.z * b.z ∧ a.z * b.z ≤ 1000000000000000000) := by
  obtain ⟨a1, a2, a3, a4, a5, a6⟩ := ha
  obtain ⟨b1, b2, b3, b4, b5, b6⟩ := hb
  exact ⟨mul_bd (A := 1000000000) (B := 1000000000) a1 a2 b1 b2, mul_bd (A := 1000000000) (B := 1000000000) a3 a4 b3 b4, mul_bd (A := 1000000000) (B := 1000000000) a5 a6 b5 b6⟩
theorem dotW (a b : V3) (w : World) (ha : sw a) (hb : sw b) : Calls Try.prog 43 #[.agg #[.int .i64 a.x, .int .i64 a.y, .int .i64 a.z], .agg #[.int .i64 b.x, .int .i64 b.y, .int .i64 b.z]] w fun e w' => e = .returned (.int .i64 (dot a b)) ∧ Below w.heap.size w w' := by
  obtain ⟨⟨m1, m2⟩, ⟨m3, m4⟩, m5, m6⟩ := dot_bw a b ha hb
  have q1 : IntKind.i64.wrap (a.x * b.x) = a.x * b.x := IntWalk.i64_in _ (by omega)
  have q2 : IntKind.i64.wrap (a.y * b.y) = a.y * b.y := IntWalk.i64_in _ (by omega)
  have q3 : IntKind.i64.wrap (a.z * b.z) = a.z * b.z := IntWalk.i64_in _ (by omega)
  go_enter Try.func43, Try.ntmps43
  go_wp2_with fail
  go_ret
  exact ⟨rfl, ((Below.refl _ _).alloc (Nat.le_refl _) _).alloc (by simp) _⟩

def okW (d t : Int) : Prop := 0 ≤ d ∧ d ≤ 32768 ∧ 0 ≤ t ∧ t ≤ 3600
instance (d t : Int) : Decidable (okW d t) := by unfold okW; infer_instance
/-- The relative position at time t. -/
def enG (p q v u : V3) (t : Int) : V3 := ⟨(rp p q).x + t * (rv v u).x, (rp p q).y + t * (rv v u).y, (rp p q).z + t * (rv v u).z⟩
theorem tv_bd (p q v u : V3) (t : Int) (h : okG p q v u) (ht : 0 ≤ t ∧ t ≤ 3600) : (-50000000 ≤ t * (rv v u).x ∧ t * (rv v u).x ≤ 50000000) ∧ (-50000000 ≤ t * (rv v u).y ∧ t * (rv v u).y ≤ 50000000) ∧ (-50000000 ≤ t * (rv v u).z ∧ t * (rv v u).z ≤ 50000000) := by
  obtain ⟨-, -, h3, h4⟩ := h
  have k : -12160 ≤ (rv v u).x ∧ (rv v u).x ≤ 12160 ∧ -12160 ≤ (rv v u).y ∧ (rv v u).y ≤ 12160 ∧ -12160 ≤ (rv v u).z ∧ (rv v u).z ≤ 12160 := by
    unfold okV at h3 h4; unfold rv; dsimp only; omega
  obtain ⟨k1, k2, k3, k4, k5, k6⟩ := k
  obtain ⟨m1, m2⟩ := mul_bd (a := t) (A := 3600) (b := (rv v u).x) (B := 12160) (by omega) (by omega) (by omega) (by omega)
  obtain ⟨m3, m4⟩ := mul_bd (a := t) (A := 3600) (b := (rv v u).y) (B := 12160) (by omega) (by omega) (by omega) (by omega)
  obtain ⟨m5, m6⟩ := mul_bd (a := t) (A := 3600) (b := (rv v u).z) (B := 12160) (by omega) (by omega) (by omega) (by omega)
  omega
theorem sw_en (p q v u : V3) (t : Int) (h : okG p q v u) (ht : 0 ≤ t ∧ t ≤ 3600) : sw (enG p q v u t) := by
  obtain ⟨⟨a1, a2⟩, ⟨a3, a4⟩, a5, a6⟩ := tv_bd p q v u t h ht
  obtain ⟨s1, s2, s3, s4, s5, s6⟩ := sm_rp p q h.1 h.2.1
  unfold sw enG
  dsimp only
  omega
def wiB (p q v u : V3) (d t : Int) : Bool := if okG p q v u ∧ okW d t then (if -pvG p q v u ≤ t * vvG v u then nearB (ppG p q) (pvG p q v u) (vvG v u) d else decide (dot (enG p q v u t) (enG p q v u t) < 9025 * d * d)) else false
def wiE (p q v u : V3) (d t : Int) : Int := if okG p q v u ∧ okW d t then 0 else 1

set_option maxHeartbeats 2000000 in
theorem within16 (p q v u : V3) (d t : Int) (w : World) : Calls Try.prog 16 #[.agg #[.int .i64 p.x, .int .i64 p.y, .int .i64 p.z], .agg #[.int .i64 q.x, .int .i64 q.y, .int .i64 q.z], .agg #[.int .i64 v.x, .int .i64 v.y, .int .i64 v.z], .agg #[.int .i64 u.x, .int .i64 u.y, .int .i64 u.z], .int .i64 d, .int .i64 t] w fun e w' => e = .returned (.tuple #[.bool (wiB p q v u d t), .int .i64 (wiE p q v u d t)]) ∧ Below w.heap.size w w' := by
  unfold wiB wiE
  by_cases h : okG p q v u
  · by_cases hw : okW d t
    · simp only [if_pos (And.intro h hw)]
      have T := Lib.hid (of_ok p q v u h)
      obtain ⟨b1, b2, b3, b4, b5, b6⟩ := bdG p q v u h
      have hE := sw_en p q v u t h ⟨hw.2.2.1, hw.2.2.2⟩
      obtain ⟨⟨a1, a2⟩, ⟨a3, a4⟩, a5, a6⟩ := tv_bd p q v u t h ⟨hw.2.2.1, hw.2.2.2⟩
      obtain ⟨s1, s2, s3, s4, s5, s6⟩ := sm_rp p q h.1 h.2.1
      obtain ⟨w1, w2, w3, w4⟩ := hw
      obtain ⟨m1, m2⟩ := mul_bd (a := t) (A := 3600) (b := vvG v u) (B := 10000000000000) (by omega) (by omega) (by omega) (by omega)
      have q1 : IntKind.i64.wrap (t * vvG v u) = t * vvG v u := IntWalk.i64_in _ (by omega)
      obtain ⟨m3, m4⟩ := mul_bd (a := 9025 * d) (A := 295731200) (b := d) (B := 32768) (by omega) (by omega) (by omega) (by omega)
      have q2 : IntKind.i64.wrap (9025 * d * d) = 9025 * d * d := IntWalk.i64_in _ (by omega)
      have q3 : IntKind.i64.wrap (t * (rv v u).x) = t * (rv v u).x := IntWalk.i64_in _ (by omega)
      have q4 : IntKind.i64.wrap (t * (rv v u).y) = t * (rv v u).y := IntWalk.i64_in _ (by omega)
      have q5 : IntKind.i64.wrap (t * (rv v u).z) = t * (rv v u).z := IntWalk.i64_in _ (by omega)
      have N := Lib.hid (fun w => near41 (rp p q) (rv v u) (ppG p q) (pvG p q v u) (vvG v u) d w ⟨b1, b2, b3, b4, b5, b6, w1, by omega⟩)
      have D : Hid (∀ w, Calls Try.prog 43 #[.agg #[.int .i64 ((rp p q).x + t * (rv v u).x), .int .i64 ((rp p q).y + t * (rv v u).y), .int .i64 ((rp p q).z + t * (rv v u).z)], .agg #[.int .i64 ((rp p q).x + t * (rv v u).x), .int .i64 ((rp p q).y + t * (rv v u).y), .int .i64 ((rp p q).z + t * (rv v u).z)]] w fun e w' => e = .returned (.int .i64 (dot (enG p q v u t) (enG p q v u t))) ∧ Below w.heap.size w w') := Lib.hid (fun w => dotW _ _ w hE hE)
      clear h hE m1 m2 m3 m4
      by_cases c : -pvG p q v u ≤ t * vvG v u
      · simp only [if_pos c]
        go_enter Try.func16, Try.ntmps16
        go_wp2_with fail
        refine (T.out _).mono ?_
        rintro e w1 ⟨rfl, hb1⟩
        have hc1 := (bcell hb1).1
        have hf1 := (bcell hb1).2
        have hs1 := hb1.size
        try simp at hs1
        have hz1_0 : w.heap.size < w1.heap.size := by omega
        have B1 : Below w.heap.size w w1 := (((((Below.refl _ _).alloc (Nat.le_refl _) _).alloc (by first | omega | (simp; omega) | simp) _).alloc (by first | omega | (simp; omega) | simp) _).alloc (by first | omega | (simp; omega) | simp) _).trans (hb1.mono (by first | omega | (simp; omega) | simp))
        go_wp2_with fail
        refine (N.out _).mono ?_
        rintro e w2 ⟨rfl, hb2⟩
        go_wp2_with fail
        go_ret2
        exact ⟨rfl, (B1.alloc (by omega) _).trans (hb2.mono (by simp; omega))⟩
      · simp only [if_neg c]
        have c' : t * vvG v u < -pvG p q v u := by omega
        clear c
        go_enter Try.func16, Try.ntmps16
        go_wp2_with fail
        refine (T.out _).mono ?_
        rintro e w1 ⟨rfl, hb1⟩
        have hc1 := (bcell hb1).1
        have hf1 := (bcell hb1).2
        have hs1 := hb1.size
        try simp at hs1
        have hz1_0 : w.heap.size < w1.heap.size := by omega
        have B1 : Below w.heap.size w w1 := (((((Below.refl _ _).alloc (Nat.le_refl _) _).alloc (by first | omega | (simp; omega) | simp) _).alloc (by first | omega | (simp; omega) | simp) _).alloc (by first | omega | (simp; omega) | simp) _).trans (hb1.mono (by first | omega | (simp; omega) | simp))
        go_wp2_with fail
        refine (D.out _).mono ?_
        rintro e w2 ⟨rfl, hb2⟩
        go_wp2_with fail
        go_ret2
        exact ⟨rfl, ((B1.alloc (by omega) _).alloc (by simp; omega) _).trans (hb2.mono (by simp; omega))⟩
    · have hn : ¬ (okG p q v u ∧ okW d t) := fun g => hw g.2
      simp only [if_neg hn]
      have T := Lib.hid (of_ok p q v u h)
      clear h hn
      by_cases e1 : d < 0
      · clear hw
        go_enter Try.func16, Try.ntmps16
        go_wp2_with fail
        refine (T.out _).mono ?_
        rintro e w1 ⟨rfl, hb1⟩
        have hc1 := (bcell hb1).1
        have hf1 := (bcell hb1).2
        have hs1 := hb1.size
        try simp at hs1
        have hz1_0 : w.heap.size < w1.heap.size := by omega
        have B1 : Below w.heap.size w w1 := (((((Below.refl _ _).alloc (Nat.le_refl _) _).alloc (by first | omega | (simp; omega) | simp) _).alloc (by first | omega | (simp; omega) | simp) _).alloc (by first | omega | (simp; omega) | simp) _).trans (hb1.mono (by first | omega | (simp; omega) | simp))
        go_wp2_with fail
        go_ret2
        exact ⟨rfl, B1.alloc (by first | omega | (simp; omega) | simp) _⟩
      · by_cases e2 : 32768 < d
        · clear hw
          go_enter Try.func16, Try.ntmps16
          go_wp2_with fail
          refine (T.out _).mono ?_
          rintro e w1 ⟨rfl, hb1⟩
          have hc1 := (bcell hb1).1
          have hf1 := (bcell hb1).2
          have hs1 := hb1.size
          try simp at hs1
          have hz1_0 : w.heap.size < w1.heap.size := by omega
          have B1 : Below w.heap.size w w1 := (((((Below.refl _ _).alloc (Nat.le_refl _) _).alloc (by first | omega | (simp; omega) | simp) _).alloc (by first | omega | (simp; omega) | simp) _).alloc (by first | omega | (simp; omega) | simp) _).trans (hb1.mono (by first | omega | (simp; omega) | simp))
          go_wp2_with fail
          go_ret2
          exact ⟨rfl, B1.alloc (by first | omega | (simp; omega) | simp) _⟩
        · by_cases e3 : t < 0
          · clear hw
            go_enter Try.func16, Try.ntmps16
            go_wp2_with fail
            refine (T.out _).mono ?_
            rintro e w1 ⟨rfl, hb1⟩
            have hc1 := (bcell hb1).1
            have hf1 := (bcell hb1).2
            have hs1 := hb1.size
            try simp at hs1
            have hz1_0 : w.heap.size < w1.heap.size := by omega
            have B1 : Below w.heap.size w w1 := (((((Below.refl _ _).alloc (Nat.le_refl _) _).alloc (by first | omega | (simp; omega) | simp) _).alloc (by first | omega | (simp; omega) | simp) _).alloc (by first | omega | (simp; omega) | simp) _).trans (hb1.mono (by first | omega | (simp; omega) | simp))
            go_wp2_with fail
            go_ret2
            exact ⟨rfl, B1.alloc (by first | omega | (simp; omega) | simp) _⟩
          · have e4 : 3600 < t := by unfold okW at hw; omega
            clear hw
            go_enter Try.func16, Try.ntmps16
            go_wp2_with fail
            refine (T.out _).mono ?_
            rintro e w1 ⟨rfl, hb1⟩
            have hc1 := (bcell hb1).1
            have hf1 := (bcell hb1).2
            have hs1 := hb1.size
            try simp at hs1
            have hz1_0 : w.heap.size < w1.heap.size := by omega
            have B1 : Below w.heap.size w w1 := (((((Below.refl _ _).alloc (Nat.le_refl _) _).alloc (by first | omega | (simp; omega) | simp) _).alloc (by first | omega | (simp; omega) | simp) _).alloc (by first | omega | (simp; omega) | simp) _).trans (hb1.mono (by first | omega | (simp; omega) | simp))
            go_wp2_with fail
            go_ret2
            exact ⟨rfl, B1.alloc (by first | omega | (simp; omega) | simp) _⟩
  · have hn : ¬ (okG p q v u ∧ okW d t) := fun g => h g.1
    simp only [if_neg hn]
    have T := Lib.hid (of_bad p q v u h)
    clear h hn
    go_enter Try.func16, Try.ntmps16
    go_wp2_with fail
    refine (T.out _).mono ?_
    rintro e w1 ⟨rfl, hb1⟩
    have hc1 := (bcell hb1).1
    have hf1 := (bcell hb1).2
    have hs1 := hb1.size
    try simp at hs1
    have hz1_0 : w.heap.size < w1.heap.size := by omega
    have B1 : Below w.heap.size w w1 := (((((Below.refl _ _).alloc (Nat.le_refl _) _).alloc (by first | omega | (simp; omega) | simp) _).alloc (by first | omega | (simp; omega) | simp) _).alloc (by first | omega | (simp; omega) | simp) _).trans (hb1.mono (by first | omega | (simp; omega) | simp))
    go_wp2_with fail
    go_ret2
    exact ⟨rfl, B1.alloc (by first | omega | (simp; omega) | simp) _⟩
end Go.Proofs.Ytdflamblbhpngaa
