/- Plain laws of the two tests: they stay passed. -/
import Derived.Lib.MinMax
import Derived.Test.YtbonniladhablaaKO
import Derived.Test.YtbonniladhablaaTaG
import Derived.WalkKit
import Derived.ProofKit
import Derived.OpenShut
import Derived.ShutString
import Derived.ChangeOld
import Derived.Below
import Derived.Lib.SmallJoins
namespace Go.Proofs.Ytbonniladhablaa
open Go.RowKit
attribute [local go_sem ↓] Go.wp_at_zero Go.wp_at_succ
attribute [local go_sem] wrap_lit

theorem okX_dn {R V N b0 b1 : Int} (h : okX R V N) (h0 : 0 ≤ b0) (h1 : 0 ≤ b1) : okX (max 0 (R - b0)) (max (-16384) (V - b1)) N := by
  obtain ⟨x1, x2, x3, x4, x5, x6⟩ := h
  exact ⟨by omega, by omega, by omega, by omega, x5, x6⟩
theorem okL_up {T Ne H Vv a b c d : Int} (h : okL T Ne H Vv) (h0 : 0 ≤ a) (h1 : 0 ≤ b) (h2 : 0 ≤ c) (h3 : 0 ≤ d) : okL (min 120 (T + a)) (min 1024 (Ne + b)) (min 10000 (H + c)) (min 120 (Vv + d)) := by
  obtain ⟨x1, x2, x3, x4, x5, x6, x7, x8⟩ := h
  exact ⟨by omega, by omega, by omega, by omega, by omega, by omega, by omega, by omega⟩
theorem hz_dn (R V T Ne R' V' : Int) (hT : 0 ≤ T) (hN : 0 ≤ Ne) (hr : 0 ≤ R') (h1 : R' ≤ R) (h2 : V' ≤ V) (h : hz R V T Ne = true) : hz R' V' T Ne = true := by
  unfold hz at h ⊢
  simp only [decide_eq_true_eq] at h ⊢
  have hD : 0 ≤ 256 * Ne := by omega
  generalize 256 * Ne = D at h ⊢ hD
  by_cases hd : R' ≤ D
  · exact .inl hd
  · rcases h with h | ⟨hv, h⟩
    · exact absurd (Int.le_trans h1 h) hd
    · refine .inr ⟨by omega, ?_⟩
      have hR : 0 < R := by omega
      have e1 : (R' * R' - D * D) * R ≤ (R * R - D * D) * R' := by
        have k1 : 0 ≤ (R - R') * (R * R' + D * D) := Int.mul_nonneg (by omega) (Int.add_nonneg (Int.mul_nonneg (by omega) hr) (Int.mul_nonneg hD hD))
        have k2 : (R * R - D * D) * R' - (R' * R' - D * D) * R = (R - R') * (R * R' + D * D) := by
          simp only [Int.sub_mul, Int.mul_add]
          have a1 : R * R * R' = R * (R * R') := Int.mul_assoc ..
          have a2 : R' * R' * R = R' * (R * R') := by rw [Int.mul_assoc, Int.mul_comm R' R]
          have a3 : D * D * R' = R' * (D * D) := Int.mul_comm ..
          have a4 : D * D * R = R * (D * D) := Int.mul_comm ..
          omega
        omega
      have e2 : (R * R - D * D) * R' ≤ (T * R * -V) * R' := Int.mul_le_mul_of_nonneg_right h hr
      have e3 : (T * R * -V) * R' = (T * R' * -V) * R := by
        rw [Int.mul_assoc T, Int.mul_assoc T, Int.mul_assoc T, Int.mul_assoc T, Int.mul_assoc R, Int.mul_assoc R', Int.mul_comm R, Int.mul_assoc]
        congr 1
        rw [Int.mul_comm R' (-V * R), Int.mul_assoc, Int.mul_comm R R']
      have e4 : (R' * R' - D * D) * R ≤ (T * R' * -V) * R := by omega
      have e5 : R' * R' - D * D ≤ T * R' * -V := Int.le_of_mul_le_mul_right e4 hR
      refine Int.le_trans e5 (Int.mul_le_mul_of_nonneg_left (by omega) (Int.mul_nonneg hT hr))
theorem hz_up (R V T Ne T' Ne' : Int) (hR : 0 ≤ R) (hN : 0 ≤ Ne) (h1 : T ≤ T') (h2 : Ne ≤ Ne') (h : hz R V T Ne = true) : hz R V T' Ne' = true := by
  unfold hz at h ⊢
  simp only [decide_eq_true_eq] at h ⊢
  rcases h with h | ⟨hv, h⟩
  · exact .inl (by omega)
  · refine .inr ⟨hv, ?_⟩
    have e1 : 256 * Ne * (256 * Ne) ≤ 256 * Ne' * (256 * Ne') := Int.mul_le_mul (by omega) (by omega) (by omega) (by omega)
    have e2 : T * R * -V ≤ T' * R * -V := Int.mul_le_mul_of_nonneg_right (Int.mul_le_mul_of_nonneg_right h1 hR) (by omega)
    omega
theorem vt0_dn (a r H Vv a' : Int) (h1 : a' ≤ a) (h : vt0 a r H Vv = true) : vt0 a' r H Vv = true := by
  unfold vt0 at h ⊢
  simp only [decide_eq_true_eq] at h ⊢
  omega
theorem vt0_up (a r H Vv H' V' : Int) (h1 : H ≤ H') (h2 : Vv ≤ V') (h : vt0 a r H Vv = true) : vt0 a r H' V' = true := by
  unfold vt0 at h ⊢
  simp only [decide_eq_true_eq] at h ⊢
  rcases h with h | ⟨hv, h⟩
  · exact .inl (by omega)
  · exact .inr ⟨hv, Int.le_trans h (Int.mul_le_mul_of_nonneg_right h2 (by omega))⟩
def nearA (a b : Int) : Int := if a < 0 then min 0 (a + b) else max 0 (a - b)
theorem vt_dn (a r H Vv b : Int) (hH : 0 ≤ H) (hb : 0 ≤ b) (h : vt a r H Vv = true) : vt (nearA a b) r H Vv = true := by
  unfold nearA
  by_cases ha : a < 0
  · rw [if_pos ha]
    unfold vt at h
    rw [if_pos ha] at h
    by_cases hn : min 0 (a + b) < 0
    · unfold vt; rw [if_pos hn]; exact vt0_dn _ _ _ _ _ (by omega) h
    · unfold vt; rw [if_neg hn]
      exact decide_eq_true (.inl (by omega))
  · rw [if_neg ha]
    unfold vt at h ⊢
    rw [if_neg ha] at h
    rw [if_neg (by omega)]
    by_cases hn : 0 ≤ a - b
    · exact vt0_dn _ _ _ _ _ (by omega) h
    · exact decide_eq_true (.inl (by omega))
theorem vt_up (a r H Vv H' V' : Int) (h1 : H ≤ H') (h2 : Vv ≤ V') (h : vt a r H Vv = true) : vt a r H' V' = true := by
  unfold vt at h ⊢
  split <;> rename_i hc
  · rw [if_pos hc] at h; exact vt0_up _ _ _ _ _ _ h1 h2 h
  · rw [if_neg hc] at h; exact vt0_up _ _ _ _ _ _ h1 h2 h
theorem okA_near (a r b : Int) (h : okA a r) (hb : 0 ≤ b) : okA (nearA a b) r := by
  unfold nearA
  unfold okA at h ⊢
  split <;> omega

end Go.Proofs.Ytbonniladhablaa
