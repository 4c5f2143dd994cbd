/- Plain laws of chapter 16: moving on, moving both, and the exact distance. -/
import Derived.Test.YtdflamblbhpngaaGeY
namespace Go.Proofs.Ytdflamblbhpngaa
open Go.RowKit

/-! ### Moves -/
theorem shift_same (p q v u b : V3) (h : okG p q v u) (hp : okMv p b 1) (hq : okMv q b 1) : Same p q v u (mvP p b 1) (mvP q b 1) v u := by
  obtain ⟨h1, h2, h3, h4⟩ := h
  have kp := hp.2.2.2
  have kq := hq.2.2.2
  refine same_of p q v u _ _ v u ⟨fun _ => ⟨kp, kq⟩, fun _ => ⟨h1, h2⟩⟩ ⟨fun _ => ⟨kp, kq, h3, h4⟩, fun _ => ⟨h1, h2, h3, h4⟩⟩ ?_ ?_ rfl
  · unfold ppG dot rp mvP; dsimp only; grind
  · unfold pvG dot rp rv mvP; dsimp only; grind
theorem on_rp (p q v u : V3) (t : Int) : rp (mvP p v t) (mvP q u t) = enG p q v u t := by
  unfold rp mvP enG rp rv
  dsimp only
  congr 1 <;> grind
theorem on_pp (p q v u : V3) (t : Int) : ppG (mvP p v t) (mvP q u t) = ppG p q + 2 * t * pvG p q v u + t * t * vvG v u := by
  unfold ppG
  rw [on_rp, en_dot]
  rfl
theorem on_pv (p q v u : V3) (t : Int) : pvG (mvP p v t) (mvP q u t) v u = pvG p q v u + t * vvG v u := by
  unfold pvG
  rw [on_rp]
  unfold vvG dot enG
  dsimp only
  grind
theorem near_on (pp pv vv t D : Int) (hv : 0 < vv) (hn : pv < 0) (ht : t * vv ≤ -pv) :
    ((pp + 2 * t * pv + t * t * vv < D ∨ pv + t * vv < 0 ∧ (pp + 2 * t * pv + t * t * vv - D) * vv < -(pv + t * vv) * -(pv + t * vv)) ↔ (pp < D ∨ pv < 0 ∧ (pp - D) * vv < -pv * -pv)) := by
  have e : (pp + 2 * t * pv + t * t * vv - D) * vv - -(pv + t * vv) * -(pv + t * vv) = (pp - D) * vv - -pv * -pv := by grind
  have s1 := sq_nn pv
  have s2 := sq_nn (pv + t * vv)
  have e1 : -pv * -pv = pv * pv := Int.neg_mul_neg _ _
  have e2 : -(pv + t * vv) * -(pv + t * vv) = (pv + t * vv) * (pv + t * vv) := Int.neg_mul_neg _ _
  have a1 : pp + 2 * t * pv + t * t * vv < D → (pp + 2 * t * pv + t * t * vv - D) * vv < 0 := fun k => Int.mul_neg_of_neg_of_pos (by omega) hv
  have a2 : pp < D → (pp - D) * vv < 0 := fun k => Int.mul_neg_of_neg_of_pos (by omega) hv
  have a3 : ¬ pp + 2 * t * pv + t * t * vv < D → 0 ≤ (pp + 2 * t * pv + t * t * vv - D) * vv := fun k => Int.mul_nonneg (by omega) (by omega)
  rw [e1] at e ⊢
  rw [e2] at e ⊢
  have a4 : pv + t * vv = 0 → (pv + t * vv) * (pv + t * vv) = 0 := fun k => by rw [k]; rfl
  generalize (pp + 2 * t * pv + t * t * vv - D) * vv = A at *
  generalize (pp - D) * vv = B at *
  generalize (pv + t * vv) * (pv + t * vv) = C at *
  generalize pv * pv = E at *
  generalize pp + 2 * t * pv + t * t * vv = F at *
  omega
theorem okMv_t0 {p v : V3} (_h : okMv p v 0) : mvP p v 0 = p := by
  unfold mvP
  simp
/-- After t whole cycles, at most up to the time of closest approach. -/
theorem moved_on (p q v u : V3) (t : Int) (h : okG p q v u) (hp : okMv p v t) (hq : okMv q u t) (hle : t ≤ coN p q v u / coD p q v u) :
    okG (mvP p v t) (mvP q u t) v u ∧ coN (mvP p v t) (mvP q u t) v u = coN p q v u - t * coD p q v u ∧ coD (mvP p v t) (mvP q u t) v u = coD p q v u ∧
    missG (mvP p v t) (mvP q u t) v u = missG p q v u ∧ 0 ≤ t * coD p q v u ∧ t * coD p q v u ≤ coN p q v u := by
  have hG : okG (mvP p v t) (mvP q u t) v u := ⟨hp.2.2.2, hq.2.2.2, h.2.2.1, h.2.2.2⟩
  have ht : 0 ≤ t := hp.2.2.1.1
  refine ⟨hG, ?_⟩
  by_cases hn : pvG p q v u < 0
  · obtain ⟨g, hg, e1, e2, d0, n0, eg⟩ := co_mul p q v u h hn
    have hle' : t * coD p q v u ≤ coN p q v u := by
      have := (Int.le_ediv_iff_mul_le (c := coD p q v u) d0).1 hle
      exact this
    have hv := vv_pos p q v u hn
    have htv : t * vvG v u ≤ -pvG p q v u := by
      rw [e1, e2]
      have := Int.mul_le_mul_of_nonneg_left hle' (Int.le_of_lt hg)
      have e : t * (g * coD p q v u) = g * (t * coD p q v u) := by grind
      omega
    have hM : missG (mvP p v t) (mvP q u t) v u = missG p q v u := by
      unfold missG
      rw [if_pos h, if_pos hG, on_pp, on_pv]
      unfold missR
      have e : (fun r : Nat => !nearB (ppG p q + 2 * t * pvG p q v u + t * t * vvG v u) (pvG p q v u + t * vvG v u) (vvG v u) r) = (fun r : Nat => !nearB (ppG p q) (pvG p q v u) (vvG v u) r) := by
        funext r
        congr 1
        unfold nearB
        exact decide_eq_decide.2 (near_on _ _ _ _ _ hv hn htv)
      rw [e]
    refine ⟨?_, ?_, hM, Int.mul_nonneg ht (by omega), hle'⟩
    all_goals
      have eN : coN p q v u = -pvG p q v u / g := by unfold coN; rw [if_pos h, if_pos hn, eg]
      have eD : coD p q v u = vvG v u / g := by unfold coD; rw [if_pos h, if_pos hn, eg]
      have epv : -(pvG p q v u + t * vvG v u) = g * (coN p q v u - t * coD p q v u) := by
        have : -(pvG p q v u + t * vvG v u) = -pvG p q v u - t * vvG v u := by omega
        rw [this, e1, e2]
        grind
      have eg' : ((Nat.gcd (-(pvG p q v u + t * vvG v u)).toNat (vvG v u).toNat : Nat) : Int) = g := by
        have x1 : (-pvG p q v u).toNat = (-(pvG p q v u + t * vvG v u)).toNat + t.toNat * (vvG v u).toNat := by
          have y := Int.toNat_mul ht (Int.le_of_lt hv)
          have y' := Int.toNat_add (a := -(pvG p q v u + t * vvG v u)) (b := t * vvG v u) (by omega) (Int.mul_nonneg ht (Int.le_of_lt hv))
          rw [← y, ← y']
          congr 1
          omega
        have x2 : gcG p q v u = ((Nat.gcd (-pvG p q v u).toNat (vvG v u).toNat : Nat) : Int) := rfl
        rw [x1, Nat.gcd_add_mul_right_left] at x2
        rw [← x2, ← eg]
    · unfold coN gcG
      rw [if_pos hG, on_pv]
      unfold coN gcG at epv eN e1 n0 hle' hle
      rw [if_pos h, if_pos hn] at *
      rcases Int.lt_or_le (pvG p q v u + t * vvG v u) 0 with k | k
      · rw [if_pos k, eg', epv, Int.mul_ediv_cancel_left _ (by omega)]
      · rw [if_neg (by omega)]
        have z : g * (-pvG p q v u / ((Nat.gcd (-pvG p q v u).toNat (vvG v u).toNat : Nat) : Int) - t * coD p q v u) = 0 := by omega
        rcases Int.mul_eq_zero.1 z with z | z
        · omega
        · omega
    · unfold coD gcG
      rw [if_pos hG, on_pv]
      rcases Int.lt_or_le (pvG p q v u + t * vvG v u) 0 with k | k
      · rw [if_pos k, eg', if_pos h, if_pos hn]
        have : ((Nat.gcd (-pvG p q v u).toNat (vvG v u).toNat : Nat) : Int) = g := eg.symm
        rw [this]
      · rw [if_neg (by omega), if_pos h, if_pos hn]
        have k' : pvG p q v u + t * vvG v u = 0 := by omega
        rw [k'] at eg'
        have z0 : (-(0 : Int)).toNat = 0 := rfl
        rw [z0, Nat.gcd_zero_left, Int.toNat_of_nonneg (by omega)] at eg'
        have : ((Nat.gcd (-pvG p q v u).toNat (vvG v u).toNat : Nat) : Int) = g := eg.symm
        rw [this, ← eg', Int.ediv_self (by omega)]
  · obtain ⟨e1, e2⟩ := co_ge p q v u h hn
    rw [e1, e2] at hle ⊢
    have t0 : t = 0 := by
      have : (0 : Int) / 1 = 0 := rfl
      omega
    subst t0
    rw [okMv_t0 hp, okMv_t0 hq, e1, e2]
    simp

/-! ### The exact distance -/
def scG (p q v u : V3) (n d : Int) : V3 := ⟨95 * ((q.x - p.x) * d + (u.x - v.x) * n), 95 * ((q.y - p.y) * d + (u.y - v.y) * n), (q.z - p.z) * d + (u.z - v.z) * n⟩
def leB (p q v u : V3) (n d b : Int) : Bool := decide (dot (scG p q v u n d) (scG p q v u n d) < 9025 * b * b * d * d)
theorem sc_dot (p q v u : V3) (n d : Int) : dot (scG p q v u n d) (scG p q v u n d) = d * d * ppG p q + 2 * n * d * pvG p q v u + n * n * vvG v u := by
  unfold dot scG ppG pvG vvG dot rp rv
  dsimp only
  generalize q.x - p.x = a; generalize q.y - p.y = b; generalize q.z - p.z = c
  generalize u.x - v.x = x; generalize u.y - v.y = y; generalize u.z - v.z = z
  grind
def smP (p : V3) : Prop := -7 ≤ p.x ∧ p.x ≤ 7 ∧ -7 ≤ p.y ∧ p.y ≤ 7 ∧ -299 ≤ p.z ∧ p.z ≤ 299
def smV (p : V3) : Prop := -2 ≤ p.x ∧ p.x ≤ 2 ∧ -2 ≤ p.y ∧ p.y ≤ 2 ∧ -9 ≤ p.z ∧ p.z ≤ 9
theorem ok_small {p q v u : V3} (h1 : smP p) (h2 : smP q) (h3 : smV v) (h4 : smV u) : okG p q v u := by
  unfold smP at h1 h2
  unfold smV at h3 h4
  refine ⟨?_, ?_, ?_, ?_⟩
  · unfold okP; omega
  · unfold okP; omega
  · unfold okV; omega
  · unfold okV; omega
theorem small_pp {p q : V3} (h1 : smP p) (h2 : smP q) : ppG p q ≤ 4000000 := by
  unfold smP at h1 h2
  unfold ppG dot rp
  dsimp only
  have a := (mul_bd (a := 95 * (q.x - p.x)) (b := 95 * (q.x - p.x)) (A := 1330) (B := 1330) (by omega) (by omega) (by omega) (by omega)).2
  have b := (mul_bd (a := 95 * (q.y - p.y)) (b := 95 * (q.y - p.y)) (A := 1330) (B := 1330) (by omega) (by omega) (by omega) (by omega)).2
  have c := (mul_bd (a := q.z - p.z) (b := q.z - p.z) (A := 598) (B := 598) (by omega) (by omega) (by omega) (by omega)).2
  omega
theorem small_vv {v u : V3} (h1 : smV v) (h2 : smV u) : vvG v u ≤ 300000 := by
  unfold smV at h1 h2
  unfold vvG dot rv
  dsimp only
  have a := (mul_bd (a := 95 * (u.x - v.x)) (b := 95 * (u.x - v.x)) (A := 380) (B := 380) (by omega) (by omega) (by omega) (by omega)).2
  have b := (mul_bd (a := 95 * (u.y - v.y)) (b := 95 * (u.y - v.y)) (A := 380) (B := 380) (by omega) (by omega) (by omega) (by omega)).2
  have c := (mul_bd (a := u.z - v.z) (b := u.z - v.z) (A := 18) (B := 18) (by omega) (by omega) (by omega) (by omega)).2
  omega
theorem small_D {p q v u : V3} (h1 : smP p) (h2 : smP q) (h3 : smV v) (h4 : smV u) : coD p q v u ≤ 300000 := by
  have h := ok_small h1 h2 h3 h4
  by_cases hn : pvG p q v u < 0
  · obtain ⟨g, hg, e1, e2, d0, n0, eg⟩ := co_mul p q v u h hn
    have := small_vv h3 h4
    have x := Int.mul_le_mul_of_nonneg_right (show 1 ≤ g by omega) (Int.le_of_lt d0)
    omega
  · obtain ⟨e1, e2⟩ := co_ge p q v u h hn
    omega
/-- At the closest approach the scaled distance is at most that at the beginning. -/
theorem near_dot {p q v u : V3} (h1 : smP p) (h2 : smP q) (h3 : smV v) (h4 : smV u) : dot (scG p q v u (coN p q v u) (coD p q v u)) (scG p q v u (coN p q v u) (coD p q v u)) ≤ 1000000000000000000 := by
  have h := ok_small h1 h2 h3 h4
  have hD := small_D h1 h2 h3 h4
  have hP := small_pp h1 h2
  have hp := pp_nn p q
  obtain ⟨n0, d1⟩ := co_pos p q v u h
  rw [sc_dot]
  have hDD := (mul_bd (a := coD p q v u) (b := coD p q v u) (A := 300000) (B := 300000) (by omega) (by omega) (by omega) (by omega)).2
  have hDn := sq_nn (coD p q v u)
  have hX := (mul_bd (a := coD p q v u * coD p q v u) (b := ppG p q) (A := 90000000000) (B := 4000000) (by omega) (by omega) (by omega) (by omega)).2
  have hK : 2 * coN p q v u * coD p q v u * pvG p q v u + coN p q v u * coN p q v u * vvG v u ≤ 0 := by
    by_cases hn : pvG p q v u < 0
    · obtain ⟨g, hg, e1, e2, d0, n0, eg⟩ := co_mul p q v u h hn
      have e3 : pvG p q v u = -(g * coN p q v u) := by omega
      rw [e3, e2]
      generalize coN p q v u = N at *; generalize coD p q v u = D at *
      have e : 2 * N * D * -(g * N) + N * N * (g * D) = -(g * (N * (N * D))) := by grind
      have := Int.mul_nonneg (Int.le_of_lt hg) (Int.mul_nonneg (Int.le_of_lt n0) (Int.mul_nonneg (Int.le_of_lt n0) (Int.le_of_lt d0)))
      omega
    · obtain ⟨e1, e2⟩ := co_ge p q v u h hn
      rw [e1, e2]; simp
  omega
theorem cyc_dot {p q v u : V3} (h1 : smP p) (h2 : smP q) (h3 : smV v) (h4 : smV u) (n d : Int) (n0 : 0 ≤ n) (n1 : n ≤ 300) (d0 : 1 ≤ d) (d1 : d ≤ 12) : dot (scG p q v u n d) (scG p q v u n d) ≤ 1000000000000000000 := by
  unfold smP at h1 h2
  unfold smV at h3 h4
  unfold dot scG
  dsimp only
  obtain ⟨a1, a2⟩ := mul_bd (a := q.x - p.x) (b := d) (A := 14) (B := 12) (by omega) (by omega) (by omega) (by omega)
  obtain ⟨b1, b2⟩ := mul_bd (a := q.y - p.y) (b := d) (A := 14) (B := 12) (by omega) (by omega) (by omega) (by omega)
  obtain ⟨c1, c2⟩ := mul_bd (a := q.z - p.z) (b := d) (A := 598) (B := 12) (by omega) (by omega) (by omega) (by omega)
  obtain ⟨x1, x2⟩ := mul_bd (a := u.x - v.x) (b := n) (A := 4) (B := 300) (by omega) (by omega) (by omega) (by omega)
  obtain ⟨y1, y2⟩ := mul_bd (a := u.y - v.y) (b := n) (A := 4) (B := 300) (by omega) (by omega) (by omega) (by omega)
  obtain ⟨z1, z2⟩ := mul_bd (a := u.z - v.z) (b := n) (A := 18) (B := 300) (by omega) (by omega) (by omega) (by omega)
  generalize (q.x - p.x) * d = a at *; generalize (q.y - p.y) * d = b at *; generalize (q.z - p.z) * d = c at *
  generalize (u.x - v.x) * n = x at *; generalize (u.y - v.y) * n = y at *; generalize (u.z - v.z) * n = z at *
  have r1 := (mul_bd (a := 95 * (a + x)) (b := 95 * (a + x)) (A := 10000000) (B := 10000000) (by omega) (by omega) (by omega) (by omega)).2
  have r2 := (mul_bd (a := 95 * (b + y)) (b := 95 * (b + y)) (A := 10000000) (B := 10000000) (by omega) (by omega) (by omega) (by omega)).2
  have r3 := (mul_bd (a := c + z) (b := c + z) (A := 10000000) (B := 10000000) (by omega) (by omega) (by omega) (by omega)).2
  omega
theorem kd_assoc (K d : Int) : K * d * d = d * d * K := by grind
theorem exact_end (p q v u : V3) (b l : Int) (h : okG p q v u) (hw : okW b l) (hN : ¬ coN p q v u ≤ l * coD p q v u) : wiB p q v u b l = leB p q v u l 1 b := by
  unfold wiB leB
  rw [if_pos ⟨h, hw⟩, if_neg (fun k => hN ((co_le p q v u l hw.2.2.1 h).2 k)), sc_dot, en_dot]
  congr 1
  simp
theorem exact_near (p q v u : V3) (b l : Int) (h : okG p q v u) (hw : okW b l) (hN : coN p q v u ≤ l * coD p q v u) : wiB p q v u b l = leB p q v u (coN p q v u) (coD p q v u) b := by
  unfold wiB leB
  rw [if_pos ⟨h, hw⟩, if_pos ((co_le p q v u l hw.2.2.1 h).1 hN), sc_dot]
  unfold nearB
  apply decide_eq_decide.2
  rw [kd_assoc (9025 * b * b)]
  generalize 9025 * b * b = K
  have hp := pp_nn p q
  by_cases hn : pvG p q v u < 0
  · obtain ⟨g, hg, e1, e2, d0, n0, eg⟩ := co_mul p q v u h hn
    have e3 : pvG p q v u = -(g * coN p q v u) := by omega
    rw [e3, e2]
    have hv : 0 < g * coD p q v u := Int.mul_pos hg d0
    have hgn : 0 < g * coN p q v u := Int.mul_pos hg n0
    generalize coN p q v u = N at *; generalize coD p q v u = D at *; generalize ppG p q = P at *
    have hgd : 0 < g * g * (N * N) := Int.mul_pos (Int.mul_pos hg hg) (Int.mul_pos n0 n0)
    have x1 : (P - K) * (g * D) * D - - -(g * N) * - -(g * N) * D = g * (D * D * P + 2 * N * D * -(g * N) + N * N * (g * D) - D * D * K) := by grind
    have x2 : - -(g * N) * - -(g * N) = g * g * (N * N) := by grind
    have y1 : P < K → (P - K) * (g * D) < 0 := fun k => Int.mul_neg_of_neg_of_pos (by omega) hv
    constructor
    · rintro hor
      have k : (P - K) * (g * D) < - -(g * N) * - -(g * N) := by
        rcases hor with k | ⟨-, k⟩
        · have := y1 k; omega
        · exact k
      have k2 : ((P - K) * (g * D) - - -(g * N) * - -(g * N)) * D < 0 := Int.mul_neg_of_neg_of_pos (by omega) d0
      have k3 : ((P - K) * (g * D) - - -(g * N) * - -(g * N)) * D = (P - K) * (g * D) * D - - -(g * N) * - -(g * N) * D := Int.sub_mul _ _ _
      have k4 : g * (D * D * P + 2 * N * D * -(g * N) + N * N * (g * D) - D * D * K) < 0 := by omega
      rcases Int.lt_or_le (D * D * P + 2 * N * D * -(g * N) + N * N * (g * D) - D * D * K) 0 with k5 | k5
      · omega
      · have := Int.mul_nonneg (Int.le_of_lt hg) k5
        omega
    · intro k
      right
      refine ⟨by omega, ?_⟩
      have k4 : g * (D * D * P + 2 * N * D * -(g * N) + N * N * (g * D) - D * D * K) < 0 := Int.mul_neg_of_pos_of_neg hg (by omega)
      have k3 : ((P - K) * (g * D) - - -(g * N) * - -(g * N)) * D = (P - K) * (g * D) * D - - -(g * N) * - -(g * N) * D := Int.sub_mul _ _ _
      rcases Int.lt_or_le ((P - K) * (g * D) - - -(g * N) * - -(g * N)) 0 with k5 | k5
      · omega
      · have := Int.mul_nonneg k5 (Int.le_of_lt d0)
        omega
  · obtain ⟨e1, e2⟩ := co_ge p q v u h hn
    rw [e1, e2]
    simp [hn]
/-- Any time n/m up to l at which the distance is less than the bound. -/
theorem exact_any (p q v u : V3) (b l n m : Int) (h : okG p q v u) (hw : okW b l) (hn0 : 0 ≤ n) (hm : 1 ≤ m) (hl : n ≤ l * m) (hB : leB p q v u n m b = true) : wiB p q v u b l = true := by
  unfold leB at hB
  rw [sc_dot, kd_assoc (9025 * b * b) m] at hB
  have hB := of_decide_eq_true hB
  unfold wiB
  rw [if_pos ⟨h, hw⟩]
  have hv := vv_nn v u
  have l0 : 0 ≤ l := hw.2.2.1
  split
  · rename_i c
    unfold nearB
    refine decide_eq_true ?_
    generalize 9025 * b * b = K at *
    by_cases hn : pvG p q v u < 0
    · right
      refine ⟨hn, ?_⟩
      have hv' := vv_pos p q v u hn
      generalize pvG p q v u = V at *; generalize vvG v u = W at *; generalize ppG p q = P at *
      have k1 : (m * m * P + 2 * n * m * V + n * n * W - m * m * K) * W < 0 := Int.mul_neg_of_neg_of_pos (by omega) hv'
      have s := sq_nn (m * V + n * W)
      have e : (m * m * P + 2 * n * m * V + n * n * W - m * m * K) * W = m * m * ((P - K) * W - -V * -V) + (m * V + n * W) * (m * V + n * W) := by grind
      rcases Int.lt_or_le ((P - K) * W - -V * -V) 0 with k | k
      · omega
      · have := Int.mul_nonneg (Int.mul_nonneg (show 0 ≤ m by omega) (show 0 ≤ m by omega)) k
        omega
    · left
      have x1 : 0 ≤ n * m * pvG p q v u := Int.mul_nonneg (Int.mul_nonneg hn0 (by omega)) (by omega)
      have x2 : 0 ≤ n * n * vvG v u := Int.mul_nonneg (Int.mul_nonneg hn0 hn0) hv
      have x3 : 2 * n * m * pvG p q v u = 2 * (n * m * pvG p q v u) := by grind
      rcases Int.lt_or_le (ppG p q - K) 0 with k | k
      · omega
      · have := Int.mul_nonneg (Int.mul_nonneg (show 0 ≤ m by omega) (show 0 ≤ m by omega)) k
        have e : m * m * (ppG p q - K) = m * m * ppG p q - m * m * K := Int.mul_sub _ _ _
        omega
  · rename_i c
    refine decide_eq_true ?_
    rw [en_dot]
    generalize 9025 * b * b = K at *
    generalize pvG p q v u = V at *; generalize vvG v u = W at *; generalize ppG p q = P at *
    have a1 : 0 ≤ l * m - n := by omega
    have a2 : 2 * V * m + W * (l * m + n) ≤ 0 := by
      have b1 : W * (l * m + n) ≤ W * (l * m + l * m) := Int.mul_le_mul_of_nonneg_left (by omega) hv
      have b2 : W * (l * m + l * m) = 2 * (m * (l * W)) := by grind
      have b3 : m * (l * W) ≤ m * -V := Int.mul_le_mul_of_nonneg_left (by omega) (by omega)
      have b4 : 2 * V * m = -(2 * (m * -V)) := by grind
      omega
    have a3 : 0 ≤ (l * m - n) * -(2 * V * m + W * (l * m + n)) := Int.mul_nonneg a1 (by omega)
    have e : m * m * (P + 2 * l * V + l * l * W) = (m * m * P + 2 * n * m * V + n * n * W) + (-((l * m - n) * -(2 * V * m + W * (l * m + n)))) := by grind
    rcases Int.lt_or_le (P + 2 * l * V + l * l * W - K) 0 with k | k
    · omega
    · have x := Int.mul_nonneg (Int.mul_nonneg (show 0 ≤ m by omega) (show 0 ≤ m by omega)) k
      have e2 : m * m * (P + 2 * l * V + l * l * W - K) = m * m * (P + 2 * l * V + l * l * W) - m * m * K := Int.mul_sub _ _ _
      omega
end Go.Proofs.Ytdflamblbhpngaa
