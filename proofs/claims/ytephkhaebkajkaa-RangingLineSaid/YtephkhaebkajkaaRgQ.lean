/- Plain laws of Run: mirrored measurements, measurements on a straight line. -/
import Derived.Test.YtephkhaebkajkaaRgP
namespace Go.Proofs.Ytephkhaebkajkaa

theorem nth_map (f : Int → Int) (l : List Int) (k : Nat) (h : k < l.length) : nth (l.map f) k = f (nth l k) := by
  simp [nth, List.getD_eq_getElem?_getD, h]
def mir (x : Int) : Int := if 0 ≤ x ∧ x ≤ 8192 then 8192 - x else x
theorem rnd_neg (p q : Int) (hq : 0 < q) : rnd (-p) q = -rnd p q := by
  unfold rnd
  rcases Int.lt_trichotomy p 0 with h | h | h
  · rw [if_neg (by omega), if_pos h, show 2 * -p + q = -(2 * p + -q) by omega, Int.neg_tdiv]
  · subst h
    simp only [Int.neg_zero, if_neg (Int.lt_irrefl 0), Int.mul_zero, Int.zero_add]
    rw [Int.tdiv_eq_ediv_of_nonneg (by omega), Int.ediv_eq_zero_of_lt (by omega) (by omega)]; rfl
  · rw [if_pos (by omega), if_neg (by omega), show 2 * -p + -q = -(2 * p + q) by omega, Int.neg_tdiv]
theorem rnd_mul (m q : Int) (hq : 0 < q) : rnd (q * m) q = m := by
  have key : ∀ m : Int, 0 ≤ m → rnd (q * m) q = m := by
    intro m hm
    have h0 : 0 ≤ q * m := Int.mul_nonneg (by omega) hm
    unfold rnd
    rw [if_neg (by omega), Int.tdiv_eq_ediv_of_nonneg (by omega)]
    have e : 2 * (q * m) + q = q + (2 * q) * m := by rw [Int.mul_assoc]; omega
    rw [e, Int.add_mul_ediv_left _ _ (by omega), Int.ediv_eq_zero_of_lt (by omega) (by omega)]
    omega
  rcases Int.lt_or_le m 0 with h | h
  · have := key (-m) (by omega)
    rw [Int.mul_neg, rnd_neg _ _ hq] at this
    omega
  · exact key m h
theorem gn_pos (N : Int) (h : 1 ≤ N) : 2 ≤ gn N := by unfold gn; omega
theorem gg_pos (N : Int) (h : 1 ≤ N) : 0 < gn N * (gn N + 1) := Int.mul_pos (by have := gn_pos N h; omega) (by have := gn_pos N h; omega)

theorem up_mir (R V N r c : Int) (h : okU R V N r c) :
    upR (2097152 - R) (-V) N (8192 - r) c = 2097152 - upR R V N r c ∧ upV (2097152 - R) (-V) N (8192 - r) c = - upV R V N r c := by
  obtain ⟨⟨x1, x2, x3, x4, x5, x6⟩, h7, h8, h9, h10⟩ := h
  have hg := gg_pos N x5
  have hgc : 0 < gn N * (gn N + 1) * c := Int.mul_pos hg (by omega)
  have e1 : 2097152 - R + c * -V = 2097152 - (R + c * V) := by rw [Int.mul_neg]; omega
  have e2 : 256 * (8192 - r) - (2097152 - R + c * -V) = -(256 * r - (R + c * V)) := by rw [e1]; omega
  constructor
  · unfold upR
    rw [e2, e1, Int.mul_neg, rnd_neg _ _ hg]
    unfold lim; omega
  · unfold upV
    rw [e2, Int.mul_neg, rnd_neg _ _ hgc]
    unfold lim; omega

def MirS (l m : List Int) (k : Nat) : Prop := sL m k = sL l k ∧ sN m k = sN l k ∧ ((sN l k = 0 ∧ sR l k = 0 ∧ sV l k = 0 ∧ sR m k = 0 ∧ sV m k = 0) ∨ (sN l k ≠ 0 ∧ sR m k = 2097152 - sR l k ∧ sV m k = - sV l k))
theorem okl_mir (l : List Int) : okl (l.map mir) ↔ okl l := by
  unfold okl
  simp only [List.length_map]
  constructor
  · intro h k hk
    have := h k hk
    rw [nth_map _ _ _ hk] at this
    unfold mir at this
    split at this <;> omega
  · intro h k hk
    have := h k hk
    rw [nth_map _ _ _ hk]
    unfold mir
    split <;> omega
theorem mir_st (l : List Int) (h : okl l) (k : Nat) (hk : k ≤ l.length) : MirS l (l.map mir) k := by
  induction k with
  | zero => exact ⟨rfl, rfl, .inl ⟨rfl, rfl, rfl, rfl, rfl⟩⟩
  | succ k ih =>
    have ih := ih (by omega)
    have hr := h k (by omega)
    have hm : nth (l.map mir) k = mir (nth l k) := nth_map _ _ _ (by omega)
    by_cases h0 : nth l k < 0
    · have hm0 : mir (nth l k) = nth l k := by unfold mir; rw [if_neg (by omega)]
      obtain ⟨e1, e2, e3, e4⟩ := s_neg l k h0
      obtain ⟨d1, d2, d3, d4⟩ := s_neg (l.map mir) k (by rw [hm, hm0]; exact h0)
      unfold MirS
      rw [e1, e2, e3, e4, d1, d2, d3, d4]
      exact ih
    · have hm0 : mir (nth l k) = 8192 - nth l k := by unfold mir; rw [if_pos (by omega)]
      obtain ⟨i1, i2, i3⟩ := ih
      by_cases hn : sL l k < 0 ∨ 16 < (k : Int) - sL l k
      · obtain ⟨e1, e2, e3, e4⟩ := s_new l k (by omega) hn
        obtain ⟨d1, d2, d3, d4⟩ := s_new (l.map mir) k (by rw [hm, hm0]; omega) (by rw [i1]; exact hn)
        have o1 : okr (nth l k) := ⟨by omega, by omega⟩
        have o2 : okr (8192 - nth l k) := ⟨by omega, by omega⟩
        unfold MirS
        rw [e1, e2, e3, e4, d1, d2, d3, d4, hm, hm0]
        unfold nwR nwN
        rw [if_pos o1, if_pos o1, if_pos o2, if_pos o2]
        exact ⟨rfl, rfl, .inr ⟨by omega, by omega, by omega⟩⟩
      · obtain ⟨e1, e2, e3, e4⟩ := s_upd l k (by omega) hn
        obtain ⟨d1, d2, d3, d4⟩ := s_upd (l.map mir) k (by rw [hm, hm0]; omega) (by rw [i1]; exact hn)
        have o1 := upd_ok l h k (by omega) (by omega) hn
        have o2 := upd_ok (l.map mir) ((okl_mir l).2 h) k (by rw [List.length_map]; omega) (by rw [hm, hm0]; omega) (by rw [i1]; exact hn)
        have hN : sN l k ≠ 0 := by have := o1.1; unfold okX at this; omega
        rcases i3 with ⟨z, _⟩ | ⟨_, i4, i5⟩
        · exact absurd z hN
        · obtain ⟨u1, u2⟩ := up_mir _ _ _ _ _ o1
          rw [i1, i2, i4, i5, hm, hm0] at o2
          unfold MirS
          rw [e1, e2, e3, e4, d1, d2, d3, d4, i1, i2, i4, i5, hm, hm0]
          unfold uR uV uN
          rw [if_pos o1, if_pos o1, if_pos o1, if_pos o2, if_pos o2, if_pos o2, u1, u2]
          refine ⟨rfl, rfl, .inr ⟨?_, rfl, rfl⟩⟩
          have := o1.1
          unfold okX at this
          unfold upN
          omega
theorem runE_mir (l : List Int) : runE (l.map mir) = runE l := by
  unfold runE; rw [List.length_map]
  simp only [okl_mir]
theorem runN_mir (l : List Int) : runN (l.map mir) = runN l := by
  unfold runN; rw [List.length_map]
  simp only [okl_mir]

/-! ### a straight line -/
def lineF (a s : Int) (ms : List Bool) (k : Nat) : Int := if ms.getD k false then -1 else a + k * s
def lineL (a s : Int) (ms : List Bool) (n : Nat) : List Int := (List.range n).map (lineF a s ms)
theorem lineL_len (a s : Int) (ms : List Bool) (n : Nat) : (lineL a s ms n).length = n := by simp [lineL]
theorem lineL_succ (a s : Int) (ms : List Bool) (n : Nat) : lineL a s ms (n + 1) = lineL a s ms n ++ [lineF a s ms n] := by simp [lineL, List.range_succ]
theorem nth_line (a s : Int) (ms : List Bool) (n k : Nat) (h : k < n) : nth (lineL a s ms n) k = lineF a s ms k := by
  simp [nth, lineL, List.getD_eq_getElem?_getD, h]
def inL (a s : Int) (n : Nat) : Prop := ∀ j, j < n → 0 ≤ a + (j : Nat) * s ∧ a + (j : Nat) * s ≤ 8192
theorem okl_line (a s : Int) (ms : List Bool) (n : Nat) (h : inL a s n) : okl (lineL a s ms n) := by
  intro k hk
  rw [lineL_len] at hk
  rw [nth_line _ _ _ _ _ hk]
  have := h k hk
  unfold lineF
  split <;> omega
def LinS (a s : Int) (l : List Int) (k : Nat) : Prop :=
  (sL l k = -1 ∧ sN l k = 0) ∨ (0 ≤ sL l k ∧ sL l k < k ∧ 1 ≤ sN l k ∧ sN l k ≤ k ∧ sR l k = 256 * (a + sL l k * s) ∧ sV l k = if sN l k = 1 then 0 else 256 * s)
theorem lin_st (a s : Int) (ms : List Bool) (n : Nat) (hs1 : -64 ≤ s) (hs2 : s ≤ 64) (hn : n ≤ 250) (h : inL a s n) (k : Nat) (hk : k ≤ n) : LinS a s (lineL a s ms n) k := by
  have hok := okl_line a s ms n h
  have hlen := lineL_len a s ms n
  generalize hl : lineL a s ms n = l at hok hlen ⊢
  induction k with
  | zero => exact .inl ⟨rfl, rfl⟩
  | succ k ih =>
    have ih := ih (by omega)
    have hr := h k (by omega)
    have hnk : nth l k = lineF a s ms k := by rw [← hl]; exact nth_line _ _ _ _ _ (by omega)
    by_cases h0 : nth l k < 0
    · obtain ⟨e1, e2, e3, e4⟩ := s_neg l k h0
      unfold LinS
      rw [e1, e2, e3, e4]
      rcases ih with ih | ⟨j1, j2, j3, j4, j5, j6⟩
      · exact .inl ih
      · exact .inr ⟨j1, by omega, j3, by omega, j5, j6⟩
    · have hv : nth l k = a + k * s := by
        rw [hnk] at h0 ⊢
        unfold lineF at h0 ⊢
        split at h0
        · omega
        · rename_i hh; rw [if_neg hh]
      by_cases hnw : sL l k < 0 ∨ 16 < (k : Int) - sL l k
      · obtain ⟨e1, e2, e3, e4⟩ := s_new l k (by omega) hnw
        have o1 : okr (nth l k) := ⟨by omega, by omega⟩
        unfold LinS
        rw [e1, e2, e3, e4]
        unfold nwR nwN
        rw [if_pos o1, if_pos o1, hv]
        exact .inr ⟨by omega, by omega, by omega, by omega, rfl, rfl⟩
      · obtain ⟨e1, e2, e3, e4⟩ := s_upd l k (by omega) hnw
        have o1 := upd_ok l hok k (by omega) (by omega) hnw
        rcases ih with ih | ⟨j1, j2, j3, j4, j5, j6⟩
        · omega
        · unfold LinS
          rw [e1, e2, e3, e4]
          unfold uR uV uN
          rw [if_pos o1, if_pos o1, if_pos o1]
          have hN : upN (sN l k) = sN l k + 1 := by unfold upN; omega
          have hg := gg_pos _ j3
          have hd : 0 < (k : Int) - sL l k := by omega
          have hgc : 0 < gn (sN l k) * (gn (sN l k) + 1) * (k - sL l k) := Int.mul_pos hg hd
          have hlin : a + k * s = (a + sL l k * s) + (k - sL l k) * s := by rw [Int.sub_mul]; omega
          refine .inr ⟨by omega, by omega, by omega, by omega, ?_, ?_⟩
          · unfold upR
            rw [hv]
            by_cases h1 : sN l k = 1
            · rw [if_pos h1] at j6
              have hgn : gn (sN l k) = 2 := by unfold gn; omega
              rw [j6, hgn, Int.mul_zero, Int.add_zero]
              rw [show (2 : Int) * (2 * 2 - 1) * (256 * (a + ↑k * s) - sR l k) = (2 * (2 + 1)) * (256 * (a + ↑k * s) - sR l k) by omega, rnd_mul _ _ (by omega)]
              unfold lim; omega
            · rw [if_neg h1] at j6
              have hz : 256 * (a + ↑k * s) - (sR l k + (↑k - sL l k) * sV l k) = 0 := by
                rw [j5, j6, hlin, Int.mul_left_comm]; omega
              rw [hz, Int.mul_zero]
              have h00 : rnd 0 (gn (sN l k) * (gn (sN l k) + 1)) = 0 := by have := rnd_mul 0 _ hg; rwa [Int.mul_zero] at this
              rw [h00]
              unfold lim; omega
          · rw [hN, if_neg (by omega)]
            unfold upV
            rw [hv]
            by_cases h1 : sN l k = 1
            · rw [if_pos h1] at j6
              have hgn : gn (sN l k) = 2 := by unfold gn; omega
              have hz : 256 * (a + ↑k * s) - (sR l k + (↑k - sL l k) * 0) = (k - sL l k) * (256 * s) := by
                rw [j5, hlin, Int.mul_left_comm]; omega
              rw [j6, hgn, hz]
              rw [show (6 : Int) * ((↑k - sL l k) * (256 * s)) = (2 * (2 + 1) * (↑k - sL l k)) * (256 * s) by rw [Int.mul_assoc]; rfl, rnd_mul _ _ (by omega)]
              unfold lim; omega
            · rw [if_neg h1] at j6
              have hz : 256 * (a + ↑k * s) - (sR l k + (↑k - sL l k) * sV l k) = 0 := by
                rw [j5, j6, hlin, Int.mul_left_comm]; omega
              rw [hz, Int.mul_zero]
              have h00 : rnd 0 (gn (sN l k) * (gn (sN l k) + 1) * (k - sL l k)) = 0 := by have := rnd_mul 0 _ hgc; rwa [Int.mul_zero] at this
              rw [h00, j6]
              unfold lim; omega
end Go.Proofs.Ytephkhaebkajkaa
