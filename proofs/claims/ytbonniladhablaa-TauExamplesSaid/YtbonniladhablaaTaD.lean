/- What Time of package tau and of its reference return, and what the horizontal test makes of it. -/
import Derived.Test.YtbonniladhablaaTaB
import Derived.Test.YtbonniladhablaaTaC
namespace Go.Proofs.Ytbonniladhablaa
open Go.RowKit

def tm (R V N k : Int) : Int × Int × Int :=
  if ¬ (okX R V N ∧ 0 ≤ k ∧ k ≤ 8192) then (0, 0, 1)
  else if R ≤ 256 * k then (0, 1, 0)
  else if 0 ≤ V then (0, 0, 9)
  else (((R * R - 256 * k * (256 * k)).toNat : Int) / (Nat.gcd (R * R - 256 * k * (256 * k)).toNat (R * -V).toNat : Nat), ((R * -V).toNat : Int) / (Nat.gcd (R * R - 256 * k * (256 * k)).toNat (R * -V).toNat : Nat), 0)

theorem sq_pos (R d : Int) (hd : 0 ≤ d) (h : d < R) : 0 < R * R - d * d := by
  have e : R * R - d * d = (R - d) * (R + d) := by rw [Int.sub_mul, Int.mul_add, Int.mul_add, Int.mul_comm d R]; omega
  rw [e]
  exact Int.mul_pos (by omega) (by omega)

theorem time9 (R V N k : Int) (w : World) : Calls Try.prog 9 #[.agg #[.int .i64 R, .int .i64 V, .int .i64 N], .int .i64 k] w fun e w' => e = .returned (.tuple #[.int .i64 (tm R V N k).1, .int .i64 (tm R V N k).2.1, .int .i64 (tm R V N k).2.2]) ∧ Below w.heap.size w w' := by
  unfold tm
  by_cases h : okX R V N ∧ 0 ≤ k ∧ k ≤ 8192
  · obtain ⟨hx, hk0, hk1⟩ := h
    rw [if_neg (fun hn => hn ⟨hx, hk0, hk1⟩)]
    by_cases hd : R ≤ 256 * k
    · rw [if_pos hd]; exact tim9s R V N k w hx hk0 hk1 hd
    · rw [if_neg hd]
      by_cases hv : 0 ≤ V
      · rw [if_pos hv]; exact tim9v R V N k w hx hk0 hk1 (by omega) hv
      · rw [if_neg hv]
        have hp := sq_pos R (256 * k) (by omega) (by omega)
        have hq : 0 ≤ R * -V := Int.mul_nonneg (by omega) (by omega)
        exact tim9g R V N k w _ _ hx hk0 hk1 (by omega) (by omega) (Int.toNat_of_nonneg (by omega)).symm (Int.toNat_of_nonneg hq).symm (by omega)
  · rw [if_pos h]; exact tim9n R V N k w h

theorem time10 (R V N k : Int) (w : World) : Calls Try.prog 10 #[.agg #[.int .i64 R, .int .i64 V, .int .i64 N], .int .i64 k] w fun e w' => e = .returned (.tuple #[.int .i64 (tm R V N k).1, .int .i64 (tm R V N k).2.1, .int .i64 (tm R V N k).2.2]) ∧ Below w.heap.size w w' := by
  unfold tm
  by_cases h : okX R V N ∧ 0 ≤ k ∧ k ≤ 8192
  · obtain ⟨hx, hk0, hk1⟩ := h
    rw [if_neg (fun hn => hn ⟨hx, hk0, hk1⟩)]
    by_cases hd : R ≤ 256 * k
    · rw [if_pos hd]; exact tim10s R V N k w hx hk0 hk1 hd
    · rw [if_neg hd]
      by_cases hv : 0 ≤ V
      · rw [if_pos hv]; exact tim10v R V N k w hx hk0 hk1 (by omega) hv
      · rw [if_neg hv]
        have hp := sq_pos R (256 * k) (by omega) (by omega)
        have hq : 0 ≤ R * -V := Int.mul_nonneg (by omega) (by omega)
        exact tim10g R V N k w _ _ hx hk0 hk1 (by omega) (by omega) (Int.toNat_of_nonneg (by omega)).symm (Int.toNat_of_nonneg hq).symm (by omega)
  · rw [if_pos h]; exact tim10n R V N k w h

theorem tm_hz (R V N T Ne H Vv : Int) (hx : okX R V N) (hl : okL T Ne H Vv) : (decide ((tm R V N Ne).2.2 = 0) && decide ((tm R V N Ne).1 ≤ T * (tm R V N Ne).2.1)) = hz R V T Ne := by
  obtain ⟨l1, l2, l3, l4, l5, l6, l7, l8⟩ := hl
  unfold tm hz
  rw [if_neg (fun hn => hn ⟨hx, l5, by omega⟩)]
  obtain ⟨x1, x2, x3, x4, x5, x6⟩ := hx
  by_cases hd : R ≤ 256 * Ne
  · rw [if_pos hd]; simp [hd, l1]
  · rw [if_neg hd]
    by_cases hv : 0 ≤ V
    · rw [if_pos hv]; simp [hd]; omega
    · rw [if_neg hv]
      have hp := sq_pos R (256 * Ne) (by omega) (by omega)
      have hq : 0 ≤ R * -V := Int.mul_nonneg (by omega) (by omega)
      obtain ⟨p, hpe⟩ := Int.eq_ofNat_of_zero_le (show 0 ≤ R * R - 256 * Ne * (256 * Ne) by omega)
      obtain ⟨q, hqe⟩ := Int.eq_ofNat_of_zero_le hq
      have hv' : V < 0 := by omega
      rw [show T * R * -V = T * (R * -V) from Int.mul_assoc _ _ _, hpe, hqe]
      rw [Bool.eq_iff_iff]
      simp only [Bool.and_eq_true, decide_eq_true_eq, Int.toNat_natCast, true_and]
      have hp0 : 0 < p := by omega
      obtain ⟨g, hg⟩ : ∃ g, Nat.gcd p q = g := ⟨_, rfl⟩
      have g0 : 0 < g := by rw [← hg]; exact Nat.gcd_pos_of_pos_left _ hp0
      obtain ⟨a, ha⟩ : g ∣ p := hg ▸ Nat.gcd_dvd_left p q
      obtain ⟨b, hb⟩ : g ∣ q := hg ▸ Nat.gcd_dvd_right p q
      rw [hg]
      have e1 : (((g * a : Nat) : Int) / (g : Int)) = a := by rw [Int.natCast_mul]; exact Int.mul_ediv_cancel_left _ (by omega)
      have e2 : (((g * b : Nat) : Int) / (g : Int)) = b := by rw [Int.natCast_mul]; exact Int.mul_ediv_cancel_left _ (by omega)
      rw [ha, hb, e1, e2]
      have e3 : ((g * a : Nat) : Int) ≤ T * ((g * b : Nat) : Int) ↔ (a : Int) ≤ T * b := by
        rw [Int.natCast_mul, Int.natCast_mul, Int.mul_left_comm]
        constructor
        · intro h; exact Int.le_of_mul_le_mul_left h (by omega)
        · intro h; exact Int.mul_le_mul_of_nonneg_left h (by omega)
      rw [e3]
      constructor
      · intro h; exact Or.inr ⟨hv', h⟩
      · rintro (h | h)
        · exact absurd h hd
        · exact h.2
end Go.Proofs.Ytbonniladhablaa
