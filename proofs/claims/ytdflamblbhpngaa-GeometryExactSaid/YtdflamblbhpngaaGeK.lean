/- Closest of package geometry and of its reference. -/
import Derived.Test.YtdflamblbhpngaaRows
import Derived.WalkKit
import Derived.WalkLawsBesides
import Derived.WalkSpells
import Derived.ProofKit
import Derived.Below
import Derived.Outline
import Derived.Lib.Hide
import Derived.Deep.RegionWith
import Derived.Deep.RegionHeld3
import Derived.Deep.DrawnRows
import Derived.StillTailTactics
import Derived.BigQuiet
import Derived.Deep.QuietTactic
import Derived.Deep.LoopGhost
import Derived.IntWalk
import Derived.Test.YtdflamblbhpngaaGeJ
namespace Go.Proofs.Ytdflamblbhpngaa
open Go.RowKit
attribute [local go_sem ↓] Go.wp_at_zero Go.wp_at_succ
attribute [local go_sem] wrap_lit

def gcG (p q v u : V3) : Int := ((Nat.gcd (-pvG p q v u).toNat (vvG v u).toNat : Nat) : Int)
def coN (p q v u : V3) : Int := if okG p q v u then (if pvG p q v u < 0 then -pvG p q v u / gcG p q v u else 0) else 0
def coD (p q v u : V3) : Int := if okG p q v u then (if pvG p q v u < 0 then vvG v u / gcG p q v u else 1) else 0

theorem coprimeG (p q v u : V3) (h : okG p q v u) (hn : pvG p q v u < 0) : ∃ p0 q0 G : Nat, -pvG p q v u = p0 ∧ vvG v u = q0 ∧ Nat.gcd p0 q0 = G ∧ 0 < p0 ∧ 1 ≤ G ∧ p0 ≤ 10000000000000 ∧ q0 ≤ 10000000000000 ∧ gcG p q v u = G := by
  obtain ⟨b1, b2, b3, b4, b5, b6⟩ := bdG p q v u h
  refine ⟨(-pvG p q v u).toNat, (vvG v u).toNat, _, by omega, by omega, rfl, by omega, Nat.gcd_pos_of_pos_left _ (by omega), by omega, by omega, rfl⟩

set_option maxHeartbeats 2000000 in
theorem closest12g (p q v u : V3) (w : World) (p0 q0 G : Nat) (k1 : -pvG p q v u = p0) (k2 : vvG v u = q0) (hG : Nat.gcd p0 q0 = G) (hp0 : 0 < p0) (hG1 : 1 ≤ G) (hp1 : p0 ≤ 10000000000000) (hq1 : q0 ≤ 10000000000000) (h : okG p q v u) : Calls Try.prog 12 #[.agg #[.int .i64 p.x, .int .i64 p.y, .int .i64 p.z], .agg #[.int .i64 q.x, .int .i64 q.y, .int .i64 q.z], .agg #[.int .i64 v.x, .int .i64 v.y, .int .i64 v.z], .agg #[.int .i64 u.x, .int .i64 u.y, .int .i64 u.z]] w fun e w' => e = .returned (.tuple #[.int .i64 ((p0 : Int) / (G : Int)), .int .i64 ((q0 : Int) / (G : Int)), .int .i64 0]) ∧ Below w.heap.size w w' := by
  have T := Lib.hid (of_ok p q v u h)
  have hpv : pvG p q v u = -(p0 : Int) := by omega
  clear h k1
  rw [k2, hpv] at T
  clear k2 hpv
  have HG := Lib.hid hG; clear hG
  go_enter Try.func12, Try.ntmps12
  go_wp2_with fail
  refine (T.out _).mono ?_
  rintro e w1 ⟨rfl, hb1⟩
  have hc1 := (bcell hb1).1
  have hf1 := (bcell hb1).2
  have hs1 := hb1.size
  try simp at hs1
  have hz1_0 : w.heap.size < w1.heap.size := by omega
  have B1 : Below w.heap.size w w1 := (((((Below.refl _ _).alloc (Nat.le_refl _) _).alloc (by first | omega | (simp; omega) | simp) _).alloc (by first | omega | (simp; omega) | simp) _).alloc (by first | omega | (simp; omega) | simp) _).trans (hb1.mono (by first | omega | (simp; omega) | simp))
  have hpn : -(p0 : Int) < 0 := by omega
  have hn1 : - -(p0 : Int) = p0 := by omega
  go_wp2_with fail
  go_quiet (fail)
  go_wp2_with fail
  have BW := B1.alloc (show w.heap.size ≤ w1.heap.size by omega) (.cells #[.int .i64 (rp p q).x, .int .i64 (rp p q).y, .int .i64 (rp p q).z, .int .i64 (rv v u).x, .int .i64 (rv v u).y, .int .i64 (rv v u).z, .int .i64 (ppG p q), .int .i64 (-(p0 : Int)), .int .i64 (q0 : Int)] 57)
  go_loopw [12, 13] (fun a b wr => ∃ x y : Nat, a = .int .i64 x ∧ b = .int .i64 y ∧ Nat.gcd x y = G ∧ x ≤ 10000000000000 ∧ y ≤ 10000000000000 ∧ 0 < x ∧ ∃ n, wr = (w1.alloc (.cells #[.int .i64 (rp p q).x, .int .i64 (rp p q).y, .int .i64 (rp p q).z, .int .i64 (rv v u).x, .int .i64 (rv v u).y, .int .i64 (rv v u).z, .int .i64 (ppG p q), .int .i64 (-(p0 : Int)), .int .i64 (q0 : Int)] 57)).drewN n) (fun _ b _ => (intOf b).toNat)
  case atStart => exact ⟨p0, q0, rfl, rfl, HG.out, by omega, by omega, hp0, nq, rfl⟩
  case round =>
    obtain ⟨x, y, rfl, rfl, hgc, hx3, hy3, hx0, n, rfl⟩ := hrel
    by_cases hy : y = 0
    · subst hy
      have hxG : x = G := by simpa using hgc
      subst hxG
      clear hgc
      have hxi : (1 : Int) ≤ (x : Int) := by omega
      have hxb : ((x : Int) == 0) = false := by simp; omega
      have hxb2 : ¬ (x : Int) = 0 := by omega
      have hv1 : 0 ≤ (p0 : Int) / (x : Int) := Int.ediv_nonneg (by omega) (by omega)
      have hv2 : (p0 : Int) / (x : Int) ≤ p0 := Int.ediv_le_self _ (by omega)
      have hv3 : 0 ≤ (q0 : Int) / (x : Int) := Int.ediv_nonneg (by omega) (by omega)
      have hv4 : (q0 : Int) / (x : Int) ≤ q0 := Int.ediv_le_self _ (by omega)
      have e1 : (p0 : Int).tdiv (x : Int) = (p0 : Int) / (x : Int) := Int.tdiv_eq_ediv_of_nonneg (by omega)
      have e2 : (q0 : Int).tdiv (x : Int) = (q0 : Int) / (x : Int) := Int.tdiv_eq_ediv_of_nonneg (by omega)
      have e3 : IntKind.i64.wrap ((p0 : Int) / (x : Int)) = (p0 : Int) / (x : Int) := IntWalk.i64_in _ (by omega)
      have e4 : IntKind.i64.wrap ((q0 : Int) / (x : Int)) = (q0 : Int) / (x : Int) := IntWalk.i64_in _ (by omega)
      go_wp2_with fail
      go_quiet (fail)
      go_wp2_with fail
      go_ret3
      exact ⟨rfl, below_drewN (below_drewN BW _) _⟩
    · have hyb : ((y : Int) != 0) = true := by simp; omega
      have hy1 : (1 : Int) ≤ (y : Int) := by omega
      have hgc' := Lib.hid hgc; clear hgc
      have hmy : x % y ≤ 10000000000000 := by have := Nat.mod_lt x (show 0 < y by omega); omega
      go_wp2_with fail
      go_quiet (fail)
      go_wp2_with fail
      refine ⟨⟨y, x % y, rfl, rfl, ?_, by omega, hmy, by omega, n + nq, by rw [World.drewN_drewN]⟩, ?_⟩
      · rw [← hgc'.out, Nat.gcd_comm x y, Nat.gcd_comm y (x % y), ← Nat.gcd_rec]
      · have := Nat.mod_lt x (show 0 < y by omega)
        simp only [intOf]; omega

set_option maxHeartbeats 2000000 in
theorem closest13g (p q v u : V3) (w : World) (p0 q0 G : Nat) (k1 : -pvG p q v u = p0) (k2 : vvG v u = q0) (hG : Nat.gcd p0 q0 = G) (hp0 : 0 < p0) (hG1 : 1 ≤ G) (hp1 : p0 ≤ 10000000000000) (hq1 : q0 ≤ 10000000000000) (h : okG p q v u) : Calls Try.prog 13 #[.agg #[.int .i64 p.x, .int .i64 p.y, .int .i64 p.z], .agg #[.int .i64 q.x, .int .i64 q.y, .int .i64 q.z], .agg #[.int .i64 v.x, .int .i64 v.y, .int .i64 v.z], .agg #[.int .i64 u.x, .int .i64 u.y, .int .i64 u.z]] w fun e w' => e = .returned (.tuple #[.int .i64 ((p0 : Int) / (G : Int)), .int .i64 ((q0 : Int) / (G : Int)), .int .i64 0]) ∧ Below w.heap.size w w' := by
  have T : Hid (∀ w, Calls Try.prog 36 #[.agg #[.int .i64 p.x, .int .i64 p.y, .int .i64 p.z], .agg #[.int .i64 q.x, .int .i64 q.y, .int .i64 q.z], .agg #[.int .i64 v.x, .int .i64 v.y, .int .i64 v.z], .agg #[.int .i64 u.x, .int .i64 u.y, .int .i64 u.z]] w fun e w' => e = .returned (.int .i64 0) ∧ Below w.heap.size w w') := Lib.hid (fun w => by have H := wrong36 p q v u w; unfold erG at H; rw [if_pos h] at H; exact H)
  have R := Lib.hid (fun w => rel37 p q v u w h)
  have S1 := Lib.hid (sm_rp p q h.1 h.2.1)
  have S2 := Lib.hid (sm_rv v u h.2.2.1 h.2.2.2)
  have K1 : Hid (dot (rp p q) (rv v u) = -(p0 : Int)) := Lib.hid (by have : pvG p q v u = -(p0 : Int) := by omega
                                                                     exact this)
  have K2 : Hid (dot (rv v u) (rv v u) = (q0 : Int)) := Lib.hid k2
  clear h k1 k2
  have HG := Lib.hid hG; clear hG
  have hn1 : - -(p0 : Int) = p0 := by omega
  have hpn : ¬ (p0 : Int) ≤ 0 := by omega
  go_enter Try.func13, Try.ntmps13
  go_wp2_with fail
  refine (T.out _).mono ?_
  rintro e w1 ⟨rfl, hb1⟩
  have hc1 := (bcell hb1).1
  have hf1 := (bcell hb1).2
  have hs1 := hb1.size
  try simp at hs1
  have hz1_0 : w.heap.size < w1.heap.size := by omega
  have hz1_1 : w.heap.size + 1 < w1.heap.size := by omega
  have hz1_2 : w.heap.size + 1 + 1 < w1.heap.size := by omega
  have hz1_3 : w.heap.size + 1 + 1 + 1 < w1.heap.size := by omega
  have B1 : Below w.heap.size w w1 := (((((Below.refl _ _).alloc (Nat.le_refl _) _).alloc (by first | omega | (simp; omega) | simp) _).alloc (by first | omega | (simp; omega) | simp) _).alloc (by first | omega | (simp; omega) | simp) _).trans (hb1.mono (by first | omega | (simp; omega) | simp))
  go_wp2_with fail
  refine (R.out _).mono ?_
  rintro e w2 ⟨A, C, rfl, hA, hC, hb2⟩
  have hs2 := hb2.size
  have B2 : Below w.heap.size w w2 := B1.trans (hb2.mono (by omega))
  go_wp2_with fail
  refine (dot38 A C 3 3 (rp p q) (rv v u) _ _ _ hA hC S1.out S2.out).mono ?_
  rintro e w3 ⟨h3, n3, rfl⟩
  rw [K1.out] at h3
  subst h3
  go_wp2_with fail
  refine (dot38 C C 3 3 (rv v u) (rv v u) w2.heap.size w2.heap.size (w2.drewN n3) hC hC S2.out S2.out).mono ?_
  rintro e w4 ⟨h4, n4, rfl⟩
  rw [K2.out] at h4
  subst h4
  go_wp2_with fail
  go_loopw [16, 17] (fun a b wr => ∃ x y : Nat, a = .int .i64 x ∧ b = .int .i64 y ∧ Nat.gcd x y = G ∧ x ≤ 10000000000000 ∧ y ≤ 10000000000000 ∧ 0 < x ∧ ∃ n, wr = w2.drewN n) (fun _ b _ => (intOf b).toNat)
  case atStart => exact ⟨p0, q0, rfl, rfl, HG.out, by omega, by omega, hp0, n3 + n4, rfl⟩
  case round =>
    obtain ⟨x, y, rfl, rfl, hgc, hx3, hy3, hx0, n, rfl⟩ := hrel
    by_cases hy : y = 0
    · subst hy
      have hxG : x = G := by simpa using hgc
      subst hxG
      clear hgc
      have hxi : (1 : Int) ≤ (x : Int) := by omega
      have hxb : ((x : Int) == 0) = false := by simp; omega
      have hxb2 : ¬ (x : Int) = 0 := by omega
      have hv1 : 0 ≤ (p0 : Int) / (x : Int) := Int.ediv_nonneg (by omega) (by omega)
      have hv2 : (p0 : Int) / (x : Int) ≤ p0 := Int.ediv_le_self _ (by omega)
      have hv3 : 0 ≤ (q0 : Int) / (x : Int) := Int.ediv_nonneg (by omega) (by omega)
      have hv4 : (q0 : Int) / (x : Int) ≤ q0 := Int.ediv_le_self _ (by omega)
      have e1 : (p0 : Int).tdiv (x : Int) = (p0 : Int) / (x : Int) := Int.tdiv_eq_ediv_of_nonneg (by omega)
      have e2 : (q0 : Int).tdiv (x : Int) = (q0 : Int) / (x : Int) := Int.tdiv_eq_ediv_of_nonneg (by omega)
      have e3 : IntKind.i64.wrap ((p0 : Int) / (x : Int)) = (p0 : Int) / (x : Int) := IntWalk.i64_in _ (by omega)
      have e4 : IntKind.i64.wrap ((q0 : Int) / (x : Int)) = (q0 : Int) / (x : Int) := IntWalk.i64_in _ (by omega)
      go_wp2_with fail
      go_quiet (fail)
      go_wp2_with fail
      go_ret3
      exact ⟨rfl, below_drewN (below_drewN B2 _) _⟩
    · have hyb : ((y : Int) != 0) = true := by simp; omega
      have hy1 : (1 : Int) ≤ (y : Int) := by omega
      have hgc' := Lib.hid hgc; clear hgc
      have hmy : x % y ≤ 10000000000000 := by have := Nat.mod_lt x (show 0 < y by omega); omega
      go_wp2_with fail
      go_quiet (fail)
      go_wp2_with fail
      refine ⟨⟨y, x % y, rfl, rfl, ?_, by omega, hmy, by omega, n + nq, by rw [World.drewN_drewN]⟩, ?_⟩
      · rw [← hgc'.out, Nat.gcd_comm x y, Nat.gcd_comm y (x % y), ← Nat.gcd_rec]
      · have := Nat.mod_lt x (show 0 < y by omega)
        simp only [intOf]; omega

set_option maxHeartbeats 1000000 in
theorem closest12 (p q v u : V3) (w : World) : Calls Try.prog 12 #[.agg #[.int .i64 p.x, .int .i64 p.y, .int .i64 p.z], .agg #[.int .i64 q.x, .int .i64 q.y, .int .i64 q.z], .agg #[.int .i64 v.x, .int .i64 v.y, .int .i64 v.z], .agg #[.int .i64 u.x, .int .i64 u.y, .int .i64 u.z]] w fun e w' => e = .returned (.tuple #[.int .i64 (coN p q v u), .int .i64 (coD p q v u), .int .i64 (erG p q v u)]) ∧ Below w.heap.size w w' := by
  unfold coN coD erG
  by_cases h : okG p q v u
  · simp only [if_pos h]
    by_cases c : pvG p q v u < 0
    · simp only [if_pos c]
      obtain ⟨p0, q0, G, k1, k2, hG, hp0, hG1, hp1, hq1, k3⟩ := coprimeG p q v u h c
      rw [k1, k2, k3]
      exact closest12g p q v u w p0 q0 G k1 k2 hG hp0 hG1 hp1 hq1 h
    · simp only [if_neg c]
      have c' : 0 ≤ pvG p q v u := by omega
      have T := Lib.hid (of_ok p q v u h)
      clear h c
      go_enter Try.func12, Try.ntmps12
      go_wp2_with fail
      refine (T.out _).mono ?_
      rintro e w1 ⟨rfl, hb1⟩
      have hc1 := (bcell hb1).1
      have hf1 := (bcell hb1).2
      have hs1 := hb1.size
      try simp at hs1
      have hz1_0 : w.heap.size < w1.heap.size := by omega
      have B1 : Below w.heap.size w w1 := (((((Below.refl _ _).alloc (Nat.le_refl _) _).alloc (by first | omega | (simp; omega) | simp) _).alloc (by first | omega | (simp; omega) | simp) _).alloc (by first | omega | (simp; omega) | simp) _).trans (hb1.mono (by first | omega | (simp; omega) | simp))
      go_wp2_with fail
      go_ret3
      exact ⟨rfl, B1.alloc (by first | omega | (simp; omega) | simp) _⟩
  · simp only [if_neg h]
    have T := Lib.hid (of_bad p q v u h)
    clear h
    go_enter Try.func12, Try.ntmps12
    go_wp2_with fail
    refine (T.out _).mono ?_
    rintro e w1 ⟨rfl, hb1⟩
    have hc1 := (bcell hb1).1
    have hf1 := (bcell hb1).2
    have hs1 := hb1.size
    try simp at hs1
    have hz1_0 : w.heap.size < w1.heap.size := by omega
    have B1 : Below w.heap.size w w1 := (((((Below.refl _ _).alloc (Nat.le_refl _) _).alloc (by first | omega | (simp; omega) | simp) _).alloc (by first | omega | (simp; omega) | simp) _).alloc (by first | omega | (simp; omega) | simp) _).trans (hb1.mono (by first | omega | (simp; omega) | simp))
    go_wp2_with fail
    go_ret3
    exact ⟨rfl, B1.alloc (by first | omega | (simp; omega) | simp) _⟩

set_option maxHeartbeats 1000000 in
theorem closest13 (p q v u : V3) (w : World) : Calls Try.prog 13 #[.agg #[.int .i64 p.x, .int .i64 p.y, .int .i64 p.z], .agg #[.int .i64 q.x, .int .i64 q.y, .int .i64 q.z], .agg #[.int .i64 v.x, .int .i64 v.y, .int .i64 v.z], .agg #[.int .i64 u.x, .int .i64 u.y, .int .i64 u.z]] w fun e w' => e = .returned (.tuple #[.int .i64 (coN p q v u), .int .i64 (coD p q v u), .int .i64 (erG p q v u)]) ∧ Below w.heap.size w w' := by
  unfold coN coD erG
  by_cases h : okG p q v u
  · simp only [if_pos h]
    by_cases c : pvG p q v u < 0
    · simp only [if_pos c]
      obtain ⟨p0, q0, G, k1, k2, hG, hp0, hG1, hp1, hq1, k3⟩ := coprimeG p q v u h c
      rw [k1, k2, k3]
      exact closest13g p q v u w p0 q0 G k1 k2 hG hp0 hG1 hp1 hq1 h
    · simp only [if_neg c]
      have c' : 0 ≤ pvG p q v u := by omega
      have T : Hid (∀ w, Calls Try.prog 36 #[.agg #[.int .i64 p.x, .int .i64 p.y, .int .i64 p.z], .agg #[.int .i64 q.x, .int .i64 q.y, .int .i64 q.z], .agg #[.int .i64 v.x, .int .i64 v.y, .int .i64 v.z], .agg #[.int .i64 u.x, .int .i64 u.y, .int .i64 u.z]] w fun e w' => e = .returned (.int .i64 0) ∧ Below w.heap.size w w') := Lib.hid (fun w => by have H := wrong36 p q v u w; unfold erG at H; rw [if_pos h] at H; exact H)
      have R := Lib.hid (fun w => rel37 p q v u w h)
      have S1 := Lib.hid (sm_rp p q h.1 h.2.1)
      have S2 := Lib.hid (sm_rv v u h.2.2.1 h.2.2.2)
      obtain ⟨-, -, b3, b4, b5, b6⟩ := bdG p q v u h
      have K1 : Hid (dot (rp p q) (rv v u) = pvG p q v u) := Lib.hid rfl
      have K2 : Hid (dot (rv v u) (rv v u) = vvG v u) := Lib.hid rfl
      have c2 : -pvG p q v u ≤ 0 := by omega
      clear h c
      go_enter Try.func13, Try.ntmps13
      go_wp2_with fail
      refine (T.out _).mono ?_
      rintro e w1 ⟨rfl, hb1⟩
      have hc1 := (bcell hb1).1
      have hf1 := (bcell hb1).2
      have hs1 := hb1.size
      try simp at hs1
      have hz1_0 : w.heap.size < w1.heap.size := by omega
      have hz1_1 : w.heap.size + 1 < w1.heap.size := by omega
      have hz1_2 : w.heap.size + 1 + 1 < w1.heap.size := by omega
      have hz1_3 : w.heap.size + 1 + 1 + 1 < w1.heap.size := by omega
      have B1 : Below w.heap.size w w1 := (((((Below.refl _ _).alloc (Nat.le_refl _) _).alloc (by first | omega | (simp; omega) | simp) _).alloc (by first | omega | (simp; omega) | simp) _).alloc (by first | omega | (simp; omega) | simp) _).trans (hb1.mono (by first | omega | (simp; omega) | simp))
      go_wp2_with fail
      refine (R.out _).mono ?_
      rintro e w2 ⟨A, C, rfl, hA, hC, hb2⟩
      have hs2 := hb2.size
      have B2 : Below w.heap.size w w2 := B1.trans (hb2.mono (by omega))
      go_wp2_with fail
      refine (dot38 A C 3 3 (rp p q) (rv v u) _ _ _ hA hC S1.out S2.out).mono ?_
      rintro e w3 ⟨h3, n3, rfl⟩
      rw [K1.out] at h3
      subst h3
      go_wp2_with fail
      refine (dot38 C C 3 3 (rv v u) (rv v u) w2.heap.size w2.heap.size (w2.drewN n3) hC hC S2.out S2.out).mono ?_
      rintro e w4 ⟨h4, n4, rfl⟩
      rw [K2.out] at h4
      subst h4
      go_wp2_with fail
      go_ret3
      exact ⟨rfl, below_drewN B2 _⟩
  · simp only [if_neg h]
    have T : Hid (∀ w, Calls Try.prog 36 #[.agg #[.int .i64 p.x, .int .i64 p.y, .int .i64 p.z], .agg #[.int .i64 q.x, .int .i64 q.y, .int .i64 q.z], .agg #[.int .i64 v.x, .int .i64 v.y, .int .i64 v.z], .agg #[.int .i64 u.x, .int .i64 u.y, .int .i64 u.z]] w fun e w' => e = .returned (.int .i64 1) ∧ Below w.heap.size w w') := Lib.hid (fun w => by have H := wrong36 p q v u w; unfold erG at H; rw [if_neg h] at H; exact H)
    clear h
    go_enter Try.func13, Try.ntmps13
    go_wp2_with fail
    refine (T.out _).mono ?_
    rintro e w1 ⟨rfl, hb1⟩
    have hc1 := (bcell hb1).1
    have hf1 := (bcell hb1).2
    have hs1 := hb1.size
    try simp at hs1
    have hz1_0 : w.heap.size < w1.heap.size := by omega
    have B1 : Below w.heap.size w w1 := (((((Below.refl _ _).alloc (Nat.le_refl _) _).alloc (by first | omega | (simp; omega) | simp) _).alloc (by first | omega | (simp; omega) | simp) _).alloc (by first | omega | (simp; omega) | simp) _).trans (hb1.mono (by first | omega | (simp; omega) | simp))
    go_wp2_with fail
    go_ret3
    exact ⟨rfl, B1⟩
end Go.Proofs.Ytdflamblbhpngaa
