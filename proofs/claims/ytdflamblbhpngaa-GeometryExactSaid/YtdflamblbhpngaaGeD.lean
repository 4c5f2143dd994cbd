/- Package geometry: Closing, Slant2, Move. -/
import Derived.Test.YtdflamblbhpngaaRows
import Derived.WalkKit
import Derived.WalkLawsBesides
import Derived.WalkSpells
import Derived.ProofKit
import Derived.Below
import Derived.Outline
import Derived.Lib.Hide
import Derived.Deep.RegionWith
import Derived.Deep.RegionHeld3
import Derived.Deep.DrawnRows
import Derived.StillTailTactics
import Derived.BigQuiet
import Derived.Deep.QuietTactic
import Derived.Deep.LoopGhost
import Derived.IntWalk
import Derived.Test.YtdflamblbhpngaaGeC
namespace Go.Proofs.Ytdflamblbhpngaa
open Go.RowKit
attribute [local go_sem ↓] Go.wp_at_zero Go.wp_at_succ
attribute [local go_sem] wrap_lit

def ppG (p q : V3) : Int := dot (rp p q) (rp p q)
def pvG (p q v u : V3) : Int := dot (rp p q) (rv v u)
def vvG (v u : V3) : Int := dot (rv v u) (rv v u)
theorem of_ok (p q v u : V3) (h : okG p q v u) (w : World) : Calls Try.prog 35 #[.agg #[.int .i64 p.x, .int .i64 p.y, .int .i64 p.z], .agg #[.int .i64 q.x, .int .i64 q.y, .int .i64 q.z], .agg #[.int .i64 v.x, .int .i64 v.y, .int .i64 v.z], .agg #[.int .i64 u.x, .int .i64 u.y, .int .i64 u.z]] w fun e w' => e = .returned (.tuple #[.agg #[.int .i64 (rp p q).x, .int .i64 (rp p q).y, .int .i64 (rp p q).z, .int .i64 (rv v u).x, .int .i64 (rv v u).y, .int .i64 (rv v u).z, .int .i64 (ppG p q), .int .i64 (pvG p q v u), .int .i64 (vvG v u)], .int .i64 0]) ∧ Below w.heap.size w w' := by
  have H := of35 p q v u w
  simp only [mc, erG, if_pos h] at H
  exact H
theorem of_bad (p q v u : V3) (h : ¬ okG p q v u) (w : World) : Calls Try.prog 35 #[.agg #[.int .i64 p.x, .int .i64 p.y, .int .i64 p.z], .agg #[.int .i64 q.x, .int .i64 q.y, .int .i64 q.z], .agg #[.int .i64 v.x, .int .i64 v.y, .int .i64 v.z], .agg #[.int .i64 u.x, .int .i64 u.y, .int .i64 u.z]] w fun e w' => e = .returned (.tuple #[.agg #[.int .i64 0, .int .i64 0, .int .i64 0, .int .i64 0, .int .i64 0, .int .i64 0, .int .i64 0, .int .i64 0, .int .i64 0], .int .i64 1]) ∧ Below w.heap.size w w' := by
  have H := of35 p q v u w
  simp only [mc, erG, if_neg h] at H
  exact H
theorem sq_nn (a : Int) : 0 ≤ a * a := by
  rcases Int.lt_or_le a 0 with h | h
  · rw [show a * a = (-a) * (-a) by rw [Int.neg_mul_neg]]; exact Int.mul_nonneg (by omega) (by omega)
  · exact Int.mul_nonneg h h
theorem bdG (p q v u : V3) (h : okG p q v u) : 0 ≤ ppG p q ∧ ppG p q ≤ 10000000000000 ∧ -10000000000000 ≤ pvG p q v u ∧ pvG p q v u ≤ 10000000000000 ∧ 0 ≤ vvG v u ∧ vvG v u ≤ 10000000000000 := by
  obtain ⟨h1, h2, h3, h4⟩ := h
  have s1 := sm_rp p q h1 h2
  have s2 := sm_rv v u h3 h4
  obtain ⟨a1, a2, a3⟩ := dot_bd _ _ s1 s1
  obtain ⟨b1, b2, b3⟩ := dot_bd _ _ s1 s2
  obtain ⟨c1, c2, c3⟩ := dot_bd _ _ s2 s2
  have n1 := sq_nn (rp p q).x; have n2 := sq_nn (rp p q).y; have n3 := sq_nn (rp p q).z
  have n4 := sq_nn (rv v u).x; have n5 := sq_nn (rv v u).y; have n6 := sq_nn (rv v u).z
  unfold ppG pvG vvG dot
  omega
def clG (p q v u : V3) : Int := if okG p q v u then (if pvG p q v u < 0 then 1 else if 0 < pvG p q v u then -1 else 0) else 0

set_option maxHeartbeats 1000000 in
theorem clos10 (p q v u : V3) (w : World) : Calls Try.prog 10 #[.agg #[.int .i64 p.x, .int .i64 p.y, .int .i64 p.z], .agg #[.int .i64 q.x, .int .i64 q.y, .int .i64 q.z], .agg #[.int .i64 v.x, .int .i64 v.y, .int .i64 v.z], .agg #[.int .i64 u.x, .int .i64 u.y, .int .i64 u.z]] w fun e w' => e = .returned (.tuple #[.int .i64 (clG p q v u), .int .i64 (erG p q v u)]) ∧ Below w.heap.size w w' := by
  unfold clG erG
  by_cases h : okG p q v u
  · simp only [if_pos h]
    have T := Lib.hid (of_ok p q v u h)
    clear h
    by_cases c1 : pvG p q v u < 0
    · simp only [if_pos c1]
      go_enter Try.func10, Try.ntmps10
      go_wp2_with fail
      refine (T.out _).mono ?_
      rintro e w1 ⟨rfl, hb1⟩
      have hc1 := (bcell hb1).1
      have hf1 := (bcell hb1).2
      have hs1 := hb1.size
      try simp at hs1
      have hz1_0 : w.heap.size < w1.heap.size := by omega
      have B1 : Below w.heap.size w w1 := (((((Below.refl _ _).alloc (Nat.le_refl _) _).alloc (by first | omega | (simp; omega) | simp) _).alloc (by first | omega | (simp; omega) | simp) _).alloc (by first | omega | (simp; omega) | simp) _).trans (hb1.mono (by first | omega | (simp; omega) | simp))
      go_wp2_with fail
      go_ret2
      exact ⟨rfl, B1.alloc (by first | omega | (simp; omega) | simp) _⟩
    · simp only [if_neg c1]
      by_cases c2 : 0 < pvG p q v u
      · simp only [if_pos c2]
        go_enter Try.func10, Try.ntmps10
        go_wp2_with fail
        refine (T.out _).mono ?_
        rintro e w1 ⟨rfl, hb1⟩
        have hc1 := (bcell hb1).1
        have hf1 := (bcell hb1).2
        have hs1 := hb1.size
        try simp at hs1
        have hz1_0 : w.heap.size < w1.heap.size := by omega
        have B1 : Below w.heap.size w w1 := (((((Below.refl _ _).alloc (Nat.le_refl _) _).alloc (by first | omega | (simp; omega) | simp) _).alloc (by first | omega | (simp; omega) | simp) _).alloc (by first | omega | (simp; omega) | simp) _).trans (hb1.mono (by first | omega | (simp; omega) | simp))
        go_wp2_with fail
        go_ret2
        exact ⟨rfl, B1.alloc (by first | omega | (simp; omega) | simp) _⟩
      · simp only [if_neg c2]
        go_enter Try.func10, Try.ntmps10
        go_wp2_with fail
        refine (T.out _).mono ?_
        rintro e w1 ⟨rfl, hb1⟩
        have hc1 := (bcell hb1).1
        have hf1 := (bcell hb1).2
        have hs1 := hb1.size
        try simp at hs1
        have hz1_0 : w.heap.size < w1.heap.size := by omega
        have B1 : Below w.heap.size w w1 := (((((Below.refl _ _).alloc (Nat.le_refl _) _).alloc (by first | omega | (simp; omega) | simp) _).alloc (by first | omega | (simp; omega) | simp) _).alloc (by first | omega | (simp; omega) | simp) _).trans (hb1.mono (by first | omega | (simp; omega) | simp))
        go_wp2_with fail
        go_ret2
        exact ⟨rfl, B1.alloc (by first | omega | (simp; omega) | simp) _⟩
  · simp only [if_neg h]
    have T := Lib.hid (of_bad p q v u h)
    clear h
    go_enter Try.func10, Try.ntmps10
    go_wp2_with fail
    refine (T.out _).mono ?_
    rintro e w1 ⟨rfl, hb1⟩
    have hc1 := (bcell hb1).1
    have hf1 := (bcell hb1).2
    have hs1 := hb1.size
    try simp at hs1
    have hz1_0 : w.heap.size < w1.heap.size := by omega
    have B1 : Below w.heap.size w w1 := (((((Below.refl _ _).alloc (Nat.le_refl _) _).alloc (by first | omega | (simp; omega) | simp) _).alloc (by first | omega | (simp; omega) | simp) _).alloc (by first | omega | (simp; omega) | simp) _).trans (hb1.mono (by first | omega | (simp; omega) | simp))
    go_wp2_with fail
    go_ret2
    exact ⟨rfl, B1.alloc (by first | omega | (simp; omega) | simp) _⟩

def okS (p q : V3) : Prop := okP p ∧ okP q
instance (p q : V3) : Decidable (okS p q) := by unfold okS; infer_instance
theorem okG0 {p q : V3} : okG p q ⟨0, 0, 0⟩ ⟨0, 0, 0⟩ ↔ okS p q := by
  unfold okG okS okV
  constructor
  · rintro ⟨a, b, _⟩; exact ⟨a, b⟩
  · rintro ⟨a, b⟩; exact ⟨a, b, by simp, by simp⟩
def s2G (p q : V3) : Int := if okS p q then ppG p q else 0
def erS (p q : V3) : Int := if okS p q then 0 else 1
set_option maxHeartbeats 1000000 in
theorem slant25 (p q : V3) (w : World) : Calls Try.prog 25 #[.agg #[.int .i64 p.x, .int .i64 p.y, .int .i64 p.z], .agg #[.int .i64 q.x, .int .i64 q.y, .int .i64 q.z]] w fun e w' => e = .returned (.tuple #[.int .i64 (s2G p q), .int .i64 (erS p q)]) ∧ Below w.heap.size w w' := by
  unfold s2G erS
  by_cases h : okS p q
  · simp only [if_pos h]
    have T := Lib.hid (of_ok p q ⟨0, 0, 0⟩ ⟨0, 0, 0⟩ (okG0.2 h))
    clear h
    go_enter Try.func25, Try.ntmps25
    go_wp2_with fail
    refine (T.out _).mono ?_
    rintro e w1 ⟨rfl, hb1⟩
    have hc1 := (bcell hb1).1
    have hf1 := (bcell hb1).2
    have hs1 := hb1.size
    try simp at hs1
    have hz1_0 : w.heap.size < w1.heap.size := by omega
    have B1 : Below w.heap.size w w1 := (((Below.refl _ _).alloc (Nat.le_refl _) _).alloc (by first | omega | (simp; omega) | simp) _).trans (hb1.mono (by first | omega | (simp; omega) | simp))
    go_wp2_with fail
    go_ret2
    exact ⟨rfl, B1.alloc (by first | omega | (simp; omega) | simp) _⟩
  · simp only [if_neg h]
    have T := Lib.hid (of_bad p q ⟨0, 0, 0⟩ ⟨0, 0, 0⟩ (fun g => h (okG0.1 g)))
    clear h
    go_enter Try.func25, Try.ntmps25
    go_wp2_with fail
    refine (T.out _).mono ?_
    rintro e w1 ⟨rfl, hb1⟩
    have hc1 := (bcell hb1).1
    have hf1 := (bcell hb1).2
    have hs1 := hb1.size
    try simp at hs1
    have hz1_0 : w.heap.size < w1.heap.size := by omega
    have B1 : Below w.heap.size w w1 := (((Below.refl _ _).alloc (Nat.le_refl _) _).alloc (by first | omega | (simp; omega) | simp) _).trans (hb1.mono (by first | omega | (simp; omega) | simp))
    go_wp2_with fail
    go_ret2
    exact ⟨rfl, B1.alloc (by first | omega | (simp; omega) | simp) _⟩

def okT (t : Int) : Prop := 0 ≤ t ∧ t ≤ 3600
instance (t : Int) : Decidable (okT t) := by unfold okT; infer_instance
def mvP (p v : V3) (t : Int) : V3 := ⟨p.x + t * v.x, p.y + t * v.y, p.z + t * v.z⟩
def okMv (p v : V3) (t : Int) : Prop := okP p ∧ okV v ∧ okT t ∧ okP (mvP p v t)
instance (p v : V3) (t : Int) : Decidable (okMv p v t) := by unfold okMv; infer_instance
/-- What Move returns. -/
def mvR (p v : V3) (t : Int) : V3 := if okMv p v t then mvP p v t else ⟨0, 0, 0⟩
def mvE (p v : V3) (t : Int) : Int := if okP p ∧ okV v ∧ okT t then (if okP (mvP p v t) then 0 else 7) else 1
end Go.Proofs.Ytdflamblbhpngaa
