/- Plain laws of closest approach: what the statements of chapter 16 say of the specification. -/
import Derived.Test.YtdflamblbhpngaaGeV
namespace Go.Proofs.Ytdflamblbhpngaa
open Go.RowKit

theorem en_dot (p q v u : V3) (t : Int) : dot (enG p q v u t) (enG p q v u t) = ppG p q + 2 * t * pvG p q v u + t * t * vvG v u := by
  unfold ppG pvG vvG dot enG
  dsimp only
  generalize (rp p q).x = a; generalize (rp p q).y = b; generalize (rp p q).z = c
  generalize (rv v u).x = x; generalize (rv v u).y = y; generalize (rv v u).z = z
  grind
theorem sq0 (a : Int) (h : a * a = 0) : a = 0 := by
  rcases Int.mul_eq_zero.1 h with h | h <;> exact h
theorem vv_nn (v u : V3) : 0 ≤ vvG v u := by
  have n1 := sq_nn (rv v u).x; have n2 := sq_nn (rv v u).y; have n3 := sq_nn (rv v u).z
  unfold vvG dot; omega
theorem pp_nn (p q : V3) : 0 ≤ ppG p q := by
  have n1 := sq_nn (rp p q).x; have n2 := sq_nn (rp p q).y; have n3 := sq_nn (rp p q).z
  unfold ppG dot; omega
theorem vv_pos (p q v u : V3) (h : pvG p q v u < 0) : 0 < vvG v u := by
  have n := vv_nn v u
  rcases Int.lt_or_le 0 (vvG v u) with g | g
  · exact g
  · have n1 := sq_nn (rv v u).x; have n2 := sq_nn (rv v u).y; have n3 := sq_nn (rv v u).z
    unfold vvG dot at g
    have e1 := sq0 (rv v u).x (by omega)
    have e2 := sq0 (rv v u).y (by omega)
    have e3 := sq0 (rv v u).z (by omega)
    unfold pvG dot at h
    rw [e1, e2, e3] at h
    omega
/-- The product of the lengths is at least the scalar product. -/
theorem schwarz (p q v u : V3) : pvG p q v u * pvG p q v u ≤ ppG p q * vvG v u := by
  unfold ppG pvG vvG dot
  generalize (rp p q).x = a; generalize (rp p q).y = b; generalize (rp p q).z = c
  generalize (rv v u).x = x; generalize (rv v u).y = y; generalize (rv v u).z = z
  have n1 := sq_nn (a * y - b * x); have n2 := sq_nn (a * z - c * x); have n3 := sq_nn (b * z - c * y)
  have e : (a * a + b * b + c * c) * (x * x + y * y + z * z) - (a * x + b * y + c * z) * (a * x + b * y + c * z) = (a * y - b * x) * (a * y - b * x) + (a * z - c * x) * (a * z - c * x) + (b * z - c * y) * (b * z - c * y) := by grind
  omega
/-- The quotient of the closest approach, before it is reduced. -/
theorem co_mul (p q v u : V3) (h : okG p q v u) (hn : pvG p q v u < 0) : ∃ g : Int, 0 < g ∧ -pvG p q v u = g * coN p q v u ∧ vvG v u = g * coD p q v u ∧ 0 < coD p q v u ∧ 0 < coN p q v u ∧ g = gcG p q v u := by
  have hv := vv_pos p q v u hn
  have hg : 0 < gcG p q v u := by
    unfold gcG
    have := Nat.gcd_pos_of_pos_left (m := (-pvG p q v u).toNat) (vvG v u).toNat (by omega)
    omega
  have d1 : (gcG p q v u) ∣ -pvG p q v u := by
    have := Nat.gcd_dvd_left (-pvG p q v u).toNat (vvG v u).toNat
    have e := Int.natCast_dvd_natCast.2 this
    rw [Int.toNat_of_nonneg (by omega)] at e
    exact e
  have d2 : (gcG p q v u) ∣ vvG v u := by
    have := Nat.gcd_dvd_right (-pvG p q v u).toNat (vvG v u).toNat
    have e := Int.natCast_dvd_natCast.2 this
    rw [Int.toNat_of_nonneg (a := vvG v u) (by omega)] at e
    exact e
  unfold coN coD
  rw [if_pos h, if_pos hn, if_pos h, if_pos hn]
  obtain ⟨a, ha⟩ := d1
  obtain ⟨b, hb⟩ := d2
  generalize gcG p q v u = g at *
  rw [ha, hb, Int.mul_ediv_cancel_left _ (by omega), Int.mul_ediv_cancel_left _ (by omega)]
  refine ⟨g, hg, rfl, rfl, ?_, ?_, rfl⟩
  · rcases Int.lt_or_le 0 b with k | k
    · exact k
    · have := Int.mul_le_mul_of_nonneg_left k (Int.le_of_lt hg)
      omega
  · rcases Int.lt_or_le 0 a with k | k
    · exact k
    · have := Int.mul_le_mul_of_nonneg_left k (Int.le_of_lt hg)
      omega
theorem co_ge (p q v u : V3) (h : okG p q v u) (hn : ¬ pvG p q v u < 0) : coN p q v u = 0 ∧ coD p q v u = 1 := by
  unfold coN coD
  rw [if_pos h, if_neg hn, if_pos h, if_neg hn]
  exact ⟨rfl, rfl⟩
/-- The time of closest approach is at most t exactly if the quotient is. -/
theorem co_le (p q v u : V3) (t : Int) (ht : 0 ≤ t) (h : okG p q v u) : coN p q v u ≤ t * coD p q v u ↔ -pvG p q v u ≤ t * vvG v u := by
  by_cases hn : pvG p q v u < 0
  · obtain ⟨g, hg, e1, e2, -⟩ := co_mul p q v u h hn
    rw [e1, e2]
    generalize coN p q v u = a; generalize coD p q v u = b
    have e : t * (g * b) = g * (t * b) := by grind
    rw [e]
    constructor
    · exact fun k => Int.mul_le_mul_of_nonneg_left k (Int.le_of_lt hg)
    · exact fun k => Int.le_of_mul_le_mul_left k hg
  · obtain ⟨e1, e2⟩ := co_ge p q v u h hn
    rw [e1, e2]
    have := Int.mul_nonneg ht (vv_nn v u)
    constructor <;> omega
theorem co_pos (p q v u : V3) (h : okG p q v u) : 0 ≤ coN p q v u ∧ 1 ≤ coD p q v u := by
  by_cases hn : pvG p q v u < 0
  · obtain ⟨g, hg, e1, e2, k1, k2, -⟩ := co_mul p q v u h hn
    omega
  · obtain ⟨e1, e2⟩ := co_ge p q v u h hn
    omega

theorem co_top (p q v u : V3) (h : okG p q v u) : coN p q v u ≤ 10000000000000 ∧ coD p q v u ≤ 10000000000000 := by
  obtain ⟨b1, b2, b3, b4, b5, b6⟩ := bdG p q v u h
  by_cases hn : pvG p q v u < 0
  · obtain ⟨g, hg, e1, e2, k1, k2, -⟩ := co_mul p q v u h hn
    have x1 := Int.mul_le_mul_of_nonneg_right (show 1 ≤ g by omega) (Int.le_of_lt k2)
    have x2 := Int.mul_le_mul_of_nonneg_right (show 1 ≤ g by omega) (Int.le_of_lt k1)
    omega
  · obtain ⟨e1, e2⟩ := co_ge p q v u h hn
    omega
/-! ### Bounds -/
theorem wiE_ok {p q v u : V3} {d t : Int} : wiE p q v u d t = 0 ↔ okG p q v u ∧ okW d t := by
  unfold wiE
  by_cases h : okG p q v u ∧ okW d t
  · rw [if_pos h]; simp [h]
  · rw [if_neg h]; simp [h]
theorem wiB_bad {p q v u : V3} {d t : Int} (h : wiE p q v u d t = 1) : wiB p q v u d t = false := by
  have hn : ¬ (okG p q v u ∧ okW d t) := fun g => by rw [wiE_ok.2 g] at h; cases h
  unfold wiB; rw [if_neg hn]
theorem wiB_d (p q v u : V3) (d t a : Int) (ha : 0 ≤ a) (h0 : wiE p q v u d t = 0) (h1 : wiE p q v u (d + a) t = 0) (h : wiB p q v u d t = true) : wiB p q v u (d + a) t = true := by
  have k0 := wiE_ok.1 h0
  have k1 := wiE_ok.1 h1
  have hd : 0 ≤ d := k0.2.1
  unfold wiB at h ⊢
  rw [if_pos k0] at h
  rw [if_pos k1]
  split at h
  · rename_i c; rw [if_pos c]; exact nearB_mono _ _ _ _ _ (vv_nn v u) hd (by omega) h
  · rename_i c
    rw [if_neg c]
    simp only [decide_eq_true_eq] at h ⊢
    have := sq_mono d (d + a) hd (by omega)
    omega
theorem wiB_t (p q v u : V3) (d t b : Int) (hb : 0 ≤ b) (h0 : wiE p q v u d t = 0) (h1 : wiE p q v u d (t + b) = 0) (h : wiB p q v u d t = true) : wiB p q v u d (t + b) = true := by
  have k0 := wiE_ok.1 h0
  have k1 := wiE_ok.1 h1
  have ht : 0 ≤ t := k0.2.2.2.1
  have hv := vv_nn v u
  have hm : t * vvG v u ≤ (t + b) * vvG v u := Int.mul_le_mul_of_nonneg_right (by omega) hv
  unfold wiB at h ⊢
  rw [if_pos k0, en_dot] at h
  rw [if_pos k1, en_dot]
  generalize hD : 9025 * d * d = D at h ⊢
  by_cases c : -pvG p q v u ≤ t * vvG v u
  · rw [if_pos c] at h
    rw [if_pos (by omega)]; exact h
  · rw [if_neg c] at h
    simp only [decide_eq_true_eq] at h
    have hp : pvG p q v u < 0 := by
      have := Int.mul_nonneg ht hv
      omega
    by_cases c' : -pvG p q v u ≤ (t + b) * vvG v u
    · rw [if_pos c']
      unfold nearB
      rw [hD]
      refine decide_eq_true (.inr ⟨hp, ?_⟩)
      have hv' := vv_pos p q v u hp
      have k : (ppG p q + 2 * t * pvG p q v u + t * t * vvG v u - D) * vvG v u < 0 := Int.mul_neg_of_neg_of_pos (by omega) hv'
      have s := sq_nn (t * vvG v u + pvG p q v u)
      have e : (ppG p q + 2 * t * pvG p q v u + t * t * vvG v u - D) * vvG v u = (ppG p q - D) * vvG v u + (t * vvG v u + pvG p q v u) * (t * vvG v u + pvG p q v u) - -pvG p q v u * -pvG p q v u := by grind
      omega
    · rw [if_neg c']
      refine decide_eq_true ?_
      have k : 0 ≤ b * (-(2 * pvG p q v u + (t * vvG v u + (t + b) * vvG v u))) := Int.mul_nonneg hb (by omega)
      have e : ppG p q + 2 * (t + b) * pvG p q v u + (t + b) * (t + b) * vvG v u + b * (-(2 * pvG p q v u + (t * vvG v u + (t + b) * vvG v u))) = ppG p q + 2 * t * pvG p q v u + t * t * vvG v u := by grind
      omega
theorem missG_bd (p q v u : V3) : 0 ≤ missG p q v u ∧ missG p q v u < 32768 := by
  unfold missG
  split
  · exact missR_bd _ _ _
  · omega
theorem ceil_bd (n d k : Int) (hd : 1 ≤ d) (hn : 0 ≤ n) (h : n ≤ k * d) : 0 ≤ (n + d - 1) / d ∧ (n + d - 1) / d ≤ k ∧ n ≤ (n + d - 1) / d * d := by
  have e := Int.mul_ediv_add_emod (n + d - 1) d
  have e1 := Int.emod_nonneg (n + d - 1) (show d ≠ 0 by omega)
  have e2 := Int.emod_lt_of_pos (n + d - 1) (show 0 < d by omega)
  have e3 : 0 ≤ (n + d - 1) / d := Int.ediv_nonneg (by omega) (by omega)
  have e4 : (n + d - 1) / d * d = d * ((n + d - 1) / d) := Int.mul_comm _ _
  refine ⟨e3, ?_, by omega⟩
  have : (n + d - 1) / d < k + 1 := Int.ediv_lt_of_lt_mul (by omega) (by rw [Int.add_mul]; omega)
  omega
theorem bound_hit (p q v u : V3) (h : okG p q v u) (h36 : coN p q v u ≤ 3600 * coD p q v u) :
    wiB p q v u (missG p q v u + 1) ((coN p q v u + coD p q v u - 1) / coD p q v u) = true ∧ wiE p q v u (missG p q v u + 1) ((coN p q v u + coD p q v u - 1) / coD p q v u) = 0 ∧
    wiB p q v u (missG p q v u) 3600 = false ∧ wiE p q v u (missG p q v u) 3600 = 0 := by
  obtain ⟨m0, m1⟩ := missG_bd p q v u
  obtain ⟨n0, d1⟩ := co_pos p q v u h
  obtain ⟨f0, f1, f2⟩ := ceil_bd _ _ _ d1 n0 h36
  generalize (coN p q v u + coD p q v u - 1) / coD p q v u = f at f0 f1 f2 ⊢
  have hv := vv_nn v u
  have w1 : okG p q v u ∧ okW (missG p q v u + 1) f := ⟨h, by omega, by omega, by omega, by omega⟩
  have w2 : okG p q v u ∧ okW (missG p q v u) 3600 := ⟨h, by omega, by omega, by omega, by omega⟩
  refine ⟨?_, wiE_ok.2 w1, ?_, wiE_ok.2 w2⟩
  · unfold wiB
    rw [if_pos w1, if_pos ((co_le p q v u f f0 h).1 f2)]
    rcases Int.lt_or_le (missG p q v u + 1) 32768 with g | g
    · have := missR_iff (ppG p q) (pvG p q v u) (vvG v u) (missG p q v u + 1) hv (by omega) g
      cases hn : nearB (ppG p q) (pvG p q v u) (vvG v u) (missG p q v u + 1)
      · have k := this.2 hn
        unfold missG at k
        rw [if_pos h] at k
        omega
      · rfl
    · have e : missG p q v u + 1 = 32768 := by omega
      rw [e]; exact near_top p q v u h
  · unfold wiB
    rw [if_pos w2, if_pos ((co_le p q v u 3600 (by omega) h).1 h36)]
    rcases Int.lt_or_le 0 (missG p q v u) with g | g
    · refine (missR_iff (ppG p q) (pvG p q v u) (vvG v u) (missG p q v u) hv g m1).1 ?_
      unfold missG
      rw [if_pos h]
      exact Int.le_refl _
    · have e : missG p q v u = 0 := by omega
      rw [e]
      refine decide_eq_false ?_
      have hp := pp_nn p q
      have hs := schwarz p q v u
      rintro (k | ⟨-, k⟩)
      · omega
      · rw [Int.neg_mul_neg] at k
        simp at k
        omega

/-! ### Turns -/
def Same (p q v u p' q' v' u' : V3) : Prop := s2G p' q' = s2G p q ∧ erS p' q' = erS p q ∧ clG p' q' v' u' = clG p q v u ∧ erG p' q' v' u' = erG p q v u ∧ coN p' q' v' u' = coN p q v u ∧ coD p' q' v' u' = coD p q v u ∧ missG p' q' v' u' = missG p q v u ∧
    (∀ d t, wiB p' q' v' u' d t = wiB p q v u d t) ∧ (∀ d t, wiE p' q' v' u' d t = wiE p q v u d t)
theorem same_of (p q v u p' q' v' u' : V3) (hS : okS p q ↔ okS p' q') (hG : okG p q v u ↔ okG p' q' v' u') (h1 : ppG p' q' = ppG p q) (h2 : pvG p' q' v' u' = pvG p q v u) (h3 : vvG v' u' = vvG v u) :
    Same p q v u p' q' v' u' := by
  have eS : (if okS p' q' then ppG p' q' else 0) = (if okS p q then ppG p q else 0) := by
    rw [h1]; by_cases h : okS p q
    · rw [if_pos h, if_pos (hS.1 h)]
    · rw [if_neg h, if_neg (fun g => h (hS.2 g))]
  have iteS : ∀ {α : Type} (a b : α), (if okS p' q' then a else b) = (if okS p q then a else b) := fun a b => by
    by_cases h : okS p q
    · rw [if_pos h, if_pos (hS.1 h)]
    · rw [if_neg h, if_neg (fun g => h (hS.2 g))]
  have iteG : ∀ {α : Type} (a b : α), (if okG p' q' v' u' then a else b) = (if okG p q v u then a else b) := fun a b => by
    by_cases h : okG p q v u
    · rw [if_pos h, if_pos (hG.1 h)]
    · rw [if_neg h, if_neg (fun g => h (hG.2 g))]
  have iteW : ∀ {α : Type} (d t : Int) (a b : α), (if okG p' q' v' u' ∧ okW d t then a else b) = (if okG p q v u ∧ okW d t then a else b) := fun d t a b => by
    by_cases h : okG p q v u ∧ okW d t
    · rw [if_pos h, if_pos ⟨hG.1 h.1, h.2⟩]
    · rw [if_neg h, if_neg (fun g => h ⟨hG.2 g.1, g.2⟩)]
  refine ⟨eS, iteS _ _, ?_, iteG _ _, ?_, ?_, ?_, fun d t => ?_, fun d t => iteW d t _ _⟩
  · unfold clG; rw [h2, iteG]
  · unfold coN gcG; rw [h2, h3, iteG]
  · unfold coD gcG; rw [h2, h3, iteG]
  · unfold missG; rw [h1, h2, h3, iteG]
  · unfold wiB; rw [en_dot, en_dot, h1, h2, h3, iteW]
def txy (p : V3) : V3 := ⟨p.y, p.x, p.z⟩
def tsg (p : V3) : V3 := ⟨-p.x, p.y, p.z⟩
theorem okP_txy (p : V3) : okP (txy p) ↔ okP p := by unfold okP txy; dsimp only; omega
theorem okV_txy (p : V3) : okV (txy p) ↔ okV p := by unfold okV txy; dsimp only; omega
theorem okP_tsg (p : V3) : okP (tsg p) ↔ okP p := by unfold okP tsg; dsimp only; omega
theorem okV_tsg (p : V3) : okV (tsg p) ↔ okV p := by unfold okV tsg; dsimp only; omega
theorem same_swap (p q v u : V3) : Same p q v u q p u v := same_of p q v u q p u v (by unfold okS; exact And.comm) (by unfold okG; constructor <;> rintro ⟨a, b, c, d⟩ <;> exact ⟨b, a, d, c⟩) (by unfold ppG dot rp; dsimp only; grind) (by unfold pvG dot rp rv; dsimp only; grind) (by unfold vvG dot rv; dsimp only; grind)
theorem same_txy (p q v u : V3) : Same p q v u (txy p) (txy q) (txy v) (txy u) := same_of p q v u (txy p) (txy q) (txy v) (txy u) (by unfold okS; rw [okP_txy, okP_txy]) (by unfold okG; rw [okP_txy, okP_txy, okV_txy, okV_txy]) (by unfold ppG dot rp txy; dsimp only; grind) (by unfold pvG dot rp rv txy; dsimp only; grind) (by unfold vvG dot rv txy; dsimp only; grind)
theorem same_tsg (p q v u : V3) : Same p q v u (tsg p) (tsg q) (tsg v) (tsg u) := same_of p q v u (tsg p) (tsg q) (tsg v) (tsg u) (by unfold okS; rw [okP_tsg, okP_tsg]) (by unfold okG; rw [okP_tsg, okP_tsg, okV_tsg, okV_tsg]) (by unfold ppG dot rp tsg; dsimp only; grind) (by unfold pvG dot rp rv tsg; dsimp only; grind) (by unfold vvG dot rv tsg; dsimp only; grind)
end Go.Proofs.Ytdflamblbhpngaa
