/- TauBetween returns true for every input: the modified time lies between the time until the range is near and the time until it is 0, and is at most twice the former; for near = 0 it is the latter. -/
import Derived.Test.YtbonniladhablaaTaI
import Derived.Test.YtbonniladhablaaKO
import Derived.WalkKit
import Derived.ProofKit
import Derived.OpenShut
import Derived.ShutString
import Derived.ChangeOld
import Derived.Below
import Derived.Lib.SmallJoins
namespace Go.Proofs.Ytbonniladhablaa
open Go.RowKit
attribute [local go_sem ↓] Go.wp_at_zero Go.wp_at_succ
attribute [local go_sem] wrap_lit
set_option linter.unusedVariables false

theorem div_gcd (p q : Nat) (hp : 0 < p) : ∃ g n m : Nat, 0 < g ∧ p = n * g ∧ q = m * g ∧ ((p : Int) / (Nat.gcd p q : Nat)) = n ∧ ((q : Int) / (Nat.gcd p q : Nat)) = m := by
  refine ⟨Nat.gcd p q, p / Nat.gcd p q, q / Nat.gcd p q, Nat.gcd_pos_of_pos_left _ hp, ?_, ?_, ?_, ?_⟩
  · rw [Nat.div_mul_cancel (Nat.gcd_dvd_left p q)]
  · rw [Nat.div_mul_cancel (Nat.gcd_dvd_right p q)]
  · exact (Int.natCast_ediv ..).symm
  · exact (Int.natCast_ediv ..).symm

/-- What the law asks of the three fractions. -/
def Btw (k n m e a b f c d g : Int) : Prop :=
  (e ≠ 0 ∧ e = f ∧ n = 0 ∧ m = 0) ∨
  (e = 0 ∧ f = 0 ∧ 1 ≤ m ∧ 0 ≤ n ∧ a * m ≤ n * b ∧ n * b ≤ 2 * a * m ∧ (k = 0 → n = c ∧ m = d) ∧ (g ≠ 0 ∨ n * d ≤ c * m) ∧
    0 ≤ a ∧ a ≤ 2097152 ∧ 0 ≤ b ∧ b ≤ 16384 ∧ n ≤ 4398046511104 ∧ m ≤ 34359738368 ∧ 0 ≤ c ∧ c ≤ 2097152 ∧ 0 ≤ d ∧ d ≤ 16384)

theorem le_of_cross (G g a m n b : Int) (hG : 0 < G) (hg : 0 < g) (h : (a * g) * (m * G) ≤ (n * G) * (b * g)) : a * m ≤ n * b := by
  have e : (n * G) * (b * g) - (a * g) * (m * G) = (n * b - a * m) * (g * G) := by grind
  have hgG : 0 < g * G := Int.mul_pos hg hG
  rcases Int.lt_or_le (n * b - a * m) 0 with hn | hn
  · have := Int.mul_neg_of_neg_of_pos hn hgG
    omega
  · omega

theorem btw (R V N k : Int) : Btw k (tm R V N k).1 (tm R V N k).2.1 (tm R V N k).2.2 (cN R V N k) (cD R V N k) (cE R V N k) (cN R V N 0) (cD R V N 0) (cE R V N 0) := by
  unfold tm cN cD cE
  by_cases h : okX R V N ∧ 0 ≤ k ∧ k ≤ 8192
  · have h' : okK R V N k := h
    have h0 : okK R V N 0 := ⟨h.1, by omega, by omega⟩
    have hnn : ¬ ¬ (okX R V N ∧ 0 ≤ k ∧ k ≤ 8192) := fun hn => hn h
    simp only [if_neg hnn, if_pos h', if_pos h0]
    obtain ⟨⟨x1, x2, x3, x4, x5, x6⟩, hk0, hk1⟩ := h
    by_cases hd : R ≤ 256 * k
    · simp only [if_pos hd]
      by_cases hR : R ≤ 0
      · simp only [if_pos (show R ≤ 256 * 0 by omega)]
        exact .inr (by simp)
      · simp only [if_neg (show ¬ R ≤ 256 * 0 by omega)]
        have hk : k ≠ 0 := by omega
        by_cases hv : 0 ≤ V
        · simp only [if_pos hv]
          exact .inr (by simp [hk])
        · simp only [if_neg hv]
          have hp := div_gcd (R - 256 * 0).toNat (-V).toNat (by omega)
          obtain ⟨g, n, m, hg, e1, e2, e3, e4⟩ := hp
          have f1 : ((R - 256 * 0).toNat : Int) = R - 256 * 0 := Int.toNat_of_nonneg (by omega)
          have f2 : ((-V).toNat : Int) = -V := Int.toNat_of_nonneg (by omega)
          rw [f1] at e3
          rw [f2] at e4
          unfold gK
          rw [e3, e4]
          have b1 : n ≤ n * g := Nat.le_mul_of_pos_right _ hg
          have b2 : m ≤ m * g := Nat.le_mul_of_pos_right _ hg
          exact .inr ⟨rfl, rfl, by omega, by omega, by omega, by omega, fun h => absurd h hk, .inr (by simp), by omega, by omega, by omega, by omega, by omega, by omega, by omega, by omega, by omega, by omega⟩
    · simp only [if_neg hd]
      by_cases hv : 0 ≤ V
      · simp only [if_pos hv]
        exact .inl (by simp)
      · simp only [if_neg hv, if_neg (show ¬ R ≤ 256 * 0 by omega)]
        obtain ⟨s, hs⟩ : ∃ s, s = -V := ⟨_, rfl⟩
        obtain ⟨D, hD⟩ : ∃ D, D = 256 * k := ⟨_, rfl⟩
        have hD0 : 0 ≤ D := by omega
        have hRD : D < R := by omega
        rw [← hs, ← hD]
        have hs0 : 0 < s := by omega
        have hs1 : s ≤ 16384 := by omega
        have hP : 0 < R * R - D * D := sq_pos R D hD0 hRD
        have hQ : 0 < R * s := Int.mul_pos (by omega) hs0
        obtain ⟨mR1, mR2⟩ := mul_bd (a := R) (A := 2097152) (b := R) (B := 2097152) (by omega) (by omega) (by omega) (by omega)
        obtain ⟨mQ1, mQ2⟩ := mul_bd (a := R) (A := 2097152) (b := s) (B := 16384) (by omega) (by omega) (by omega) (by omega)
        have hDD : 0 ≤ D * D := Int.mul_nonneg hD0 hD0
        obtain ⟨G, n, m, hG, e1, e2, e3, e4⟩ := div_gcd (R * R - D * D).toNat (R * s).toNat (by omega)
        obtain ⟨g, a, b, hg, e5, e6, e7, e8⟩ := div_gcd (R - D).toNat s.toNat (by omega)
        obtain ⟨g0, c, d, hg0, e9, e10, e11, e12⟩ := div_gcd (R - 256 * 0).toNat s.toNat (by omega)
        have q1 : ((R * R - D * D).toNat : Int) = R * R - D * D := Int.toNat_of_nonneg (by omega)
        have q2 : ((R * s).toNat : Int) = R * s := Int.toNat_of_nonneg (by omega)
        have q3 : ((R - D).toNat : Int) = R - D := Int.toNat_of_nonneg (by omega)
        have q4 : (s.toNat : Int) = s := Int.toNat_of_nonneg (by omega)
        have q5 : ((R - 256 * 0).toNat : Int) = R - 256 * 0 := Int.toNat_of_nonneg (by omega)
        unfold gK
        rw [← hD, ← hs]
        have E3 := e3
        have E4 := e4
        have E11 := e11
        have E12 := e12
        rw [q3] at e7
        rw [q4] at e8 e12
        rw [q5] at e11
        rw [e3, e4, e7, e8, e11, e12]
        have p1 : R * R - D * D = (n : Int) * G := by rw [← q1, e1]; simp
        have p2 : R * s = (m : Int) * G := by rw [← q2, e2]; simp
        have p3 : R - D = (a : Int) * g := by rw [← q3, e5]; simp
        have p4 : s = (b : Int) * g := by rw [← q4]; rw [e6]; simp
        have p5 : R = (c : Int) * g0 := by rw [show R = R - 256 * 0 by omega, ← q5, e9]; simp
        have p6 : s = (d : Int) * g0 := by rw [← q4]; rw [e10]; simp
        have hGi : (0 : Int) < G := by omega
        have hgi : (0 : Int) < g := by omega
        have hgi0 : (0 : Int) < g0 := by omega
        have b1 : n ≤ n * G := Nat.le_mul_of_pos_right _ hG
        have b2 : m ≤ m * G := Nat.le_mul_of_pos_right _ hG
        have b3 : a ≤ a * g := Nat.le_mul_of_pos_right _ hg
        have b4 : b ≤ b * g := Nat.le_mul_of_pos_right _ hg
        have b5 : c ≤ c * g0 := Nat.le_mul_of_pos_right _ hg0
        have b6 : d ≤ d * g0 := Nat.le_mul_of_pos_right _ hg0
        have hm : 0 < m := by
          rcases Nat.eq_zero_or_pos m with h | h
          · subst h; simp at p2; omega
          · exact h
        have w1 : (R * R - D * D) * s - (R - D) * (R * s) = (R - D) * (D * s) := by grind
        have w2 : 2 * (R - D) * (R * s) - (R * R - D * D) * s = (R - D) * ((R - D) * s) := by grind
        have w3 : R * (R * s) - (R * R - D * D) * s = D * D * s := by grind
        have v1 : 0 ≤ (R - D) * (D * s) := Int.mul_nonneg (by omega) (Int.mul_nonneg hD0 (by omega))
        have v2 : 0 ≤ (R - D) * ((R - D) * s) := Int.mul_nonneg (by omega) (Int.mul_nonneg (by omega) (by omega))
        have v3 : 0 ≤ D * D * s := Int.mul_nonneg hDD (by omega)
        have l1 : (a : Int) * m ≤ n * b := le_of_cross G g a m n b hGi hgi (by rw [← p3, ← p2, ← p1, ← p4]; omega)
        have l2 : (n : Int) * b ≤ (2 * a) * m := le_of_cross g G n b (2 * a) m hgi hGi (by rw [← p1, ← p4, Int.mul_assoc 2, ← p3, ← p2]; omega)
        have l3 : (n : Int) * d ≤ c * m := le_of_cross g0 G n d c m hgi0 hGi (by rw [← p1, ← p6, ← p5, ← p2]; omega)
        refine .inr ⟨rfl, rfl, by omega, by omega, l1, l2, fun hk => ?_, .inr l3, by omega, by omega, by omega, by omega, by omega, by omega, by omega, by omega, by omega, by omega⟩
        have hD' : D = 0 := by omega
        subst hD'
        have hRn : (R * R - 0 * 0).toNat = R.toNat * R.toNat := by
          have : ((R.toNat : Int)) = R := Int.toNat_of_nonneg (by omega)
          rw [show R * R - 0 * 0 = ((R.toNat * R.toNat : Nat) : Int) by rw [Int.natCast_mul, this]; omega]; rfl
        have hQn : (R * s).toNat = R.toNat * s.toNat := by
          have : ((R.toNat : Int)) = R := Int.toNat_of_nonneg (by omega)
          rw [show R * s = ((R.toNat * s.toNat : Nat) : Int) by rw [Int.natCast_mul, this, q4]]; rfl
        have hR0 : 0 < R.toNat := by omega
        have hR2 : (R - 256 * 0).toNat = R.toNat := by congr 1; omega
        rw [hR2] at E11 E12
        rw [hRn, hQn] at E3 E4
        rw [Nat.gcd_mul_left] at E3 E4
        rw [← Int.natCast_ediv] at E3 E4 E11 E12
        rw [Nat.mul_div_mul_left _ _ hR0] at E3 E4
        exact ⟨by rw [← E3, ← E11], by rw [← E4, ← E12]⟩
  · have h' : ¬ okK R V N k := h
    simp only [if_pos h, if_neg h']
    exact .inl ⟨by omega, rfl, rfl, rfl⟩

theorem less18t (a b c d : Int) (h : a * d ≤ c * b) (w : World) (h1 : -4611686018427387904 ≤ a * d) (h2 : a * d ≤ 4611686018427387904) (h3 : -4611686018427387904 ≤ c * b) (h4 : c * b ≤ 4611686018427387904) : Calls Try.prog 18 #[.int .i64 a, .int .i64 b, .int .i64 c, .int .i64 d] w fun e w' => e = .returned (.bool true) ∧ w = w' := by
  have := less18 a b c d w h1 h2 h3 h4
  rwa [decide_eq_true h] at this

set_option maxRecDepth 100000 in
set_option maxHeartbeats 1000000 in
theorem betwE (R V N k e a b c d g : Int) (w : World) (c1 : ∀ w, Calls Try.prog 9 #[.agg #[.int .i64 R, .int .i64 V, .int .i64 N], .int .i64 k] w fun e' w' => e' = .returned (.tuple #[.int .i64 0, .int .i64 0, .int .i64 e]) ∧ Below w.heap.size w w')
    (c2 : ∀ w, Calls Try.prog 17 #[.agg #[.int .i64 R, .int .i64 V, .int .i64 N], .int .i64 k] w fun e' w' => e' = .returned (.tuple #[.int .i64 a, .int .i64 b, .int .i64 e]) ∧ Below w.heap.size w w')
    (c3 : ∀ w, Calls Try.prog 17 #[.agg #[.int .i64 R, .int .i64 V, .int .i64 N], .int .i64 0] w fun e' w' => e' = .returned (.tuple #[.int .i64 c, .int .i64 d, .int .i64 g]) ∧ Below w.heap.size w w')
    (he : e ≠ 0) : Calls Try.prog 6 #[.agg #[.int .i64 R, .int .i64 V, .int .i64 N], .int .i64 k] w fun e w' => e = .returned (.bool true) ∧ Below w.heap.size w w' := by
  have t1 := Lib.hid c1
  have t2 := Lib.hid c2
  have t3 := Lib.hid c3
  clear c1 c2 c3
  have hE : (e != 0) = true := by simp [he]
  have HE := Lib.hid he; clear he
  go_enter Try.func6, Try.ntmps6
  go_wp2_with fail
  refine (t1.out _).mono ?_
  rintro e w1 ⟨rfl, hb1⟩
  have hc1 := (bcell hb1).1
  have hf1 := (bcell hb1).2
  have hs1 := hb1.size
  try simp at hs1
  have hz1_0 : w.heap.size < w1.heap.size := by omega
  have B1 : Below w.heap.size w w1 := ((Below.refl _ _).alloc (Nat.le_refl _) _).trans (hb1.mono (by first | omega | (simp; omega) | simp))
  go_wp2_with fail
  refine (t2.out _).mono ?_
  rintro e w2 ⟨rfl, hb2⟩
  have hc2 := (bcell hb2).1
  have hf2 := (bcell hb2).2
  have hs2 := hb2.size
  try simp at hs2
  have hz2_0 : w.heap.size < w2.heap.size := by omega
  have B2 : Below w.heap.size w w2 := (B1).trans (hb2.mono (by first | omega | (simp; omega) | simp))
  go_wp2_with fail
  refine (t3.out _).mono ?_
  rintro e w3 ⟨rfl, hb3⟩
  have hc3 := (bcell hb3).1
  have hf3 := (bcell hb3).2
  have hs3 := hb3.size
  try simp at hs3
  have hz3_0 : w.heap.size < w3.heap.size := by omega
  have B3 : Below w.heap.size w w3 := (B2).trans (hb3.mono (by first | omega | (simp; omega) | simp))
  go_wp2_with fail
  refine (awake15 _).mono ?_
  rintro e w4 ⟨rfl, hb4⟩
  have hc4 := (bcell hb4).1
  have hf4 := (bcell hb4).2
  have hs4 := hb4.size
  try simp at hs4
  have B4 : Below w.heap.size w w4 := (B3).trans (hb4.mono (by first | omega | (simp; omega) | simp))
  go_wp2_with fail
  go_ret
  exact ⟨rfl, B4⟩

set_option maxRecDepth 100000 in
set_option maxHeartbeats 1000000 in
theorem betw1 (R V N k n m a b c d g : Int) (w : World) (c1 : ∀ w, Calls Try.prog 9 #[.agg #[.int .i64 R, .int .i64 V, .int .i64 N], .int .i64 k] w fun e' w' => e' = .returned (.tuple #[.int .i64 n, .int .i64 m, .int .i64 0]) ∧ Below w.heap.size w w')
    (c2 : ∀ w, Calls Try.prog 17 #[.agg #[.int .i64 R, .int .i64 V, .int .i64 N], .int .i64 k] w fun e' w' => e' = .returned (.tuple #[.int .i64 a, .int .i64 b, .int .i64 0]) ∧ Below w.heap.size w w')
    (c3 : ∀ w, Calls Try.prog 17 #[.agg #[.int .i64 R, .int .i64 V, .int .i64 N], .int .i64 0] w fun e' w' => e' = .returned (.tuple #[.int .i64 c, .int .i64 d, .int .i64 g]) ∧ Below w.heap.size w w')
    (hm : 1 ≤ m) (hn : 0 ≤ n) (p1 : a * m ≤ n * b) (p2 : n * b ≤ 2 * a * m) (hg : g ≠ 0) (ha0 : 0 ≤ a) (ha1 : a ≤ 2097152) (hb0 : 0 ≤ b) (hb1 : b ≤ 16384) (hn1 : n ≤ 4398046511104) (hm1 : m ≤ 34359738368) (hc0 : 0 ≤ c) (hc1 : c ≤ 2097152) (hd0 : 0 ≤ d) (hd1 : d ≤ 16384) (hk : k ≠ 0) : Calls Try.prog 6 #[.agg #[.int .i64 R, .int .i64 V, .int .i64 N], .int .i64 k] w fun e w' => e = .returned (.bool true) ∧ Below w.heap.size w w' := by
  have t1 := Lib.hid c1
  have t2 := Lib.hid c2
  have t3 := Lib.hid c3
  clear c1 c2 c3
  obtain ⟨m1, m2⟩ := mul_bd (a := a) (A := 2097152) (b := m) (B := 34359738368) (by omega) (by omega) (by omega) (by omega)
  obtain ⟨m3, m4⟩ := mul_bd (a := n) (A := 4398046511104) (b := b) (B := 16384) (by omega) (by omega) (by omega) (by omega)
  obtain ⟨m5, m6⟩ := mul_bd (a := 2 * a) (A := 4194304) (b := m) (B := 34359738368) (by omega) (by omega) (by omega) (by omega)
  have u1 := Lib.hid (fun w => less18t a b n m p1 w (by omega) (by omega) (by omega) (by omega))
  have u2 := Lib.hid (fun w => less18t n m (2 * a) b p2 w (by omega) (by omega) (by omega) (by omega))
  clear p1 p2 m1 m2 m3 m4 m5 m6
  have hG : (g != 0) = true := by simp [hg]
  have Hg := Lib.hid hg; clear hg
  have hK : (k == 0) = false := by simp [hk]
  have Hk := Lib.hid hk; clear hk
  go_enter Try.func6, Try.ntmps6
  go_wp2_with fail
  refine (t1.out _).mono ?_
  rintro e w1 ⟨rfl, hb1⟩
  have hc1 := (bcell hb1).1
  have hf1 := (bcell hb1).2
  have hs1 := hb1.size
  try simp at hs1
  have hz1_0 : w.heap.size < w1.heap.size := by omega
  have B1 : Below w.heap.size w w1 := ((Below.refl _ _).alloc (Nat.le_refl _) _).trans (hb1.mono (by first | omega | (simp; omega) | simp))
  go_wp2_with fail
  refine (t2.out _).mono ?_
  rintro e w2 ⟨rfl, hb2⟩
  have hc2 := (bcell hb2).1
  have hf2 := (bcell hb2).2
  have hs2 := hb2.size
  try simp at hs2
  have hz2_0 : w.heap.size < w2.heap.size := by omega
  have B2 : Below w.heap.size w w2 := (B1).trans (hb2.mono (by first | omega | (simp; omega) | simp))
  go_wp2_with fail
  refine (t3.out _).mono ?_
  rintro e w3 ⟨rfl, hb3⟩
  have hc3 := (bcell hb3).1
  have hf3 := (bcell hb3).2
  have hs3 := hb3.size
  try simp at hs3
  have hz3_0 : w.heap.size < w3.heap.size := by omega
  have B3 : Below w.heap.size w w3 := (B2).trans (hb3.mono (by first | omega | (simp; omega) | simp))
  go_wp2_with fail
  refine (u1.out _).mono ?_
  rintro e' w9 ⟨rfl, rfl⟩
  go_wp2_with fail
  refine (u2.out _).mono ?_
  rintro e' w9 ⟨rfl, rfl⟩
  go_wp2_with fail
  refine (awake15 _).mono ?_
  rintro e w4 ⟨rfl, hb4⟩
  have hc4 := (bcell hb4).1
  have hf4 := (bcell hb4).2
  have hs4 := hb4.size
  try simp at hs4
  have B4 : Below w.heap.size w w4 := (B3).trans (hb4.mono (by first | omega | (simp; omega) | simp))
  go_wp2_with fail
  go_ret
  exact ⟨rfl, B4⟩

set_option maxRecDepth 100000 in
set_option maxHeartbeats 1000000 in
theorem betw2 (R V N k n m a b c d : Int) (w : World) (c1 : ∀ w, Calls Try.prog 9 #[.agg #[.int .i64 R, .int .i64 V, .int .i64 N], .int .i64 k] w fun e' w' => e' = .returned (.tuple #[.int .i64 n, .int .i64 m, .int .i64 0]) ∧ Below w.heap.size w w')
    (c2 : ∀ w, Calls Try.prog 17 #[.agg #[.int .i64 R, .int .i64 V, .int .i64 N], .int .i64 k] w fun e' w' => e' = .returned (.tuple #[.int .i64 a, .int .i64 b, .int .i64 0]) ∧ Below w.heap.size w w')
    (c3 : ∀ w, Calls Try.prog 17 #[.agg #[.int .i64 R, .int .i64 V, .int .i64 N], .int .i64 0] w fun e' w' => e' = .returned (.tuple #[.int .i64 c, .int .i64 d, .int .i64 0]) ∧ Below w.heap.size w w')
    (hm : 1 ≤ m) (hn : 0 ≤ n) (p1 : a * m ≤ n * b) (p2 : n * b ≤ 2 * a * m) (p3 : n * d ≤ c * m) (ha0 : 0 ≤ a) (ha1 : a ≤ 2097152) (hb0 : 0 ≤ b) (hb1 : b ≤ 16384) (hn1 : n ≤ 4398046511104) (hm1 : m ≤ 34359738368) (hc0 : 0 ≤ c) (hc1 : c ≤ 2097152) (hd0 : 0 ≤ d) (hd1 : d ≤ 16384) (hk : k ≠ 0) : Calls Try.prog 6 #[.agg #[.int .i64 R, .int .i64 V, .int .i64 N], .int .i64 k] w fun e w' => e = .returned (.bool true) ∧ Below w.heap.size w w' := by
  have t1 := Lib.hid c1
  have t2 := Lib.hid c2
  have t3 := Lib.hid c3
  clear c1 c2 c3
  obtain ⟨m1, m2⟩ := mul_bd (a := a) (A := 2097152) (b := m) (B := 34359738368) (by omega) (by omega) (by omega) (by omega)
  obtain ⟨m3, m4⟩ := mul_bd (a := n) (A := 4398046511104) (b := b) (B := 16384) (by omega) (by omega) (by omega) (by omega)
  obtain ⟨m5, m6⟩ := mul_bd (a := 2 * a) (A := 4194304) (b := m) (B := 34359738368) (by omega) (by omega) (by omega) (by omega)
  have u1 := Lib.hid (fun w => less18t a b n m p1 w (by omega) (by omega) (by omega) (by omega))
  have u2 := Lib.hid (fun w => less18t n m (2 * a) b p2 w (by omega) (by omega) (by omega) (by omega))
  obtain ⟨m7, m8⟩ := mul_bd (a := n) (A := 4398046511104) (b := d) (B := 16384) (by omega) (by omega) (by omega) (by omega)
  obtain ⟨m9, m10⟩ := mul_bd (a := c) (A := 2097152) (b := m) (B := 34359738368) (by omega) (by omega) (by omega) (by omega)
  have u3 := Lib.hid (fun w => less18t n m c d p3 w (by omega) (by omega) (by omega) (by omega))
  clear p1 p2 m1 m2 m3 m4 m5 m6
  clear p3 m7 m8 m9 m10
  have hK : (k == 0) = false := by simp [hk]
  have Hk := Lib.hid hk; clear hk
  go_enter Try.func6, Try.ntmps6
  go_wp2_with fail
  refine (t1.out _).mono ?_
  rintro e w1 ⟨rfl, hb1⟩
  have hc1 := (bcell hb1).1
  have hf1 := (bcell hb1).2
  have hs1 := hb1.size
  try simp at hs1
  have hz1_0 : w.heap.size < w1.heap.size := by omega
  have B1 : Below w.heap.size w w1 := ((Below.refl _ _).alloc (Nat.le_refl _) _).trans (hb1.mono (by first | omega | (simp; omega) | simp))
  go_wp2_with fail
  refine (t2.out _).mono ?_
  rintro e w2 ⟨rfl, hb2⟩
  have hc2 := (bcell hb2).1
  have hf2 := (bcell hb2).2
  have hs2 := hb2.size
  try simp at hs2
  have hz2_0 : w.heap.size < w2.heap.size := by omega
  have B2 : Below w.heap.size w w2 := (B1).trans (hb2.mono (by first | omega | (simp; omega) | simp))
  go_wp2_with fail
  refine (t3.out _).mono ?_
  rintro e w3 ⟨rfl, hb3⟩
  have hc3 := (bcell hb3).1
  have hf3 := (bcell hb3).2
  have hs3 := hb3.size
  try simp at hs3
  have hz3_0 : w.heap.size < w3.heap.size := by omega
  have B3 : Below w.heap.size w w3 := (B2).trans (hb3.mono (by first | omega | (simp; omega) | simp))
  go_wp2_with fail
  refine (u1.out _).mono ?_
  rintro e' w9 ⟨rfl, rfl⟩
  go_wp2_with fail
  refine (u2.out _).mono ?_
  rintro e' w9 ⟨rfl, rfl⟩
  go_wp2_with fail
  refine (u3.out _).mono ?_
  rintro e' w9 ⟨rfl, rfl⟩
  go_wp2_with fail
  refine (awake15 _).mono ?_
  rintro e w4 ⟨rfl, hb4⟩
  have hc4 := (bcell hb4).1
  have hf4 := (bcell hb4).2
  have hs4 := hb4.size
  try simp at hs4
  have B4 : Below w.heap.size w w4 := (B3).trans (hb4.mono (by first | omega | (simp; omega) | simp))
  go_wp2_with fail
  go_ret
  exact ⟨rfl, B4⟩

set_option maxRecDepth 100000 in
set_option maxHeartbeats 1000000 in
theorem betw3 (R V N n m a b g : Int) (w : World) (c1 : ∀ w, Calls Try.prog 9 #[.agg #[.int .i64 R, .int .i64 V, .int .i64 N], .int .i64 0] w fun e' w' => e' = .returned (.tuple #[.int .i64 n, .int .i64 m, .int .i64 0]) ∧ Below w.heap.size w w')
    (c2 : ∀ w, Calls Try.prog 17 #[.agg #[.int .i64 R, .int .i64 V, .int .i64 N], .int .i64 0] w fun e' w' => e' = .returned (.tuple #[.int .i64 a, .int .i64 b, .int .i64 0]) ∧ Below w.heap.size w w')
    (c3 : ∀ w, Calls Try.prog 17 #[.agg #[.int .i64 R, .int .i64 V, .int .i64 N], .int .i64 0] w fun e' w' => e' = .returned (.tuple #[.int .i64 n, .int .i64 m, .int .i64 g]) ∧ Below w.heap.size w w')
    (hm : 1 ≤ m) (hn : 0 ≤ n) (p1 : a * m ≤ n * b) (p2 : n * b ≤ 2 * a * m) (hg : g ≠ 0) (ha0 : 0 ≤ a) (ha1 : a ≤ 2097152) (hb0 : 0 ≤ b) (hb1 : b ≤ 16384) (hn1 : n ≤ 4398046511104) (hm1 : m ≤ 34359738368) (hn2 : n ≤ 2097152) (hm2 : m ≤ 16384) : Calls Try.prog 6 #[.agg #[.int .i64 R, .int .i64 V, .int .i64 N], .int .i64 0] w fun e w' => e = .returned (.bool true) ∧ Below w.heap.size w w' := by
  have t1 := Lib.hid c1
  have t2 := Lib.hid c2
  have t3 := Lib.hid c3
  clear c1 c2 c3
  obtain ⟨m1, m2⟩ := mul_bd (a := a) (A := 2097152) (b := m) (B := 34359738368) (by omega) (by omega) (by omega) (by omega)
  obtain ⟨m3, m4⟩ := mul_bd (a := n) (A := 4398046511104) (b := b) (B := 16384) (by omega) (by omega) (by omega) (by omega)
  obtain ⟨m5, m6⟩ := mul_bd (a := 2 * a) (A := 4194304) (b := m) (B := 34359738368) (by omega) (by omega) (by omega) (by omega)
  have u1 := Lib.hid (fun w => less18t a b n m p1 w (by omega) (by omega) (by omega) (by omega))
  have u2 := Lib.hid (fun w => less18t n m (2 * a) b p2 w (by omega) (by omega) (by omega) (by omega))
  clear p1 p2 m1 m2 m3 m4 m5 m6
  have hG : (g != 0) = true := by simp [hg]
  have Hg := Lib.hid hg; clear hg
  go_enter Try.func6, Try.ntmps6
  go_wp2_with fail
  refine (t1.out _).mono ?_
  rintro e w1 ⟨rfl, hb1⟩
  have hc1 := (bcell hb1).1
  have hf1 := (bcell hb1).2
  have hs1 := hb1.size
  try simp at hs1
  have hz1_0 : w.heap.size < w1.heap.size := by omega
  have B1 : Below w.heap.size w w1 := ((Below.refl _ _).alloc (Nat.le_refl _) _).trans (hb1.mono (by first | omega | (simp; omega) | simp))
  go_wp2_with fail
  refine (t2.out _).mono ?_
  rintro e w2 ⟨rfl, hb2⟩
  have hc2 := (bcell hb2).1
  have hf2 := (bcell hb2).2
  have hs2 := hb2.size
  try simp at hs2
  have hz2_0 : w.heap.size < w2.heap.size := by omega
  have B2 : Below w.heap.size w w2 := (B1).trans (hb2.mono (by first | omega | (simp; omega) | simp))
  go_wp2_with fail
  refine (t3.out _).mono ?_
  rintro e w3 ⟨rfl, hb3⟩
  have hc3 := (bcell hb3).1
  have hf3 := (bcell hb3).2
  have hs3 := hb3.size
  try simp at hs3
  have hz3_0 : w.heap.size < w3.heap.size := by omega
  have B3 : Below w.heap.size w w3 := (B2).trans (hb3.mono (by first | omega | (simp; omega) | simp))
  go_wp2_with fail
  refine (u1.out _).mono ?_
  rintro e' w9 ⟨rfl, rfl⟩
  go_wp2_with fail
  refine (u2.out _).mono ?_
  rintro e' w9 ⟨rfl, rfl⟩
  go_wp2_with fail
  refine (awake15 _).mono ?_
  rintro e w4 ⟨rfl, hb4⟩
  have hc4 := (bcell hb4).1
  have hf4 := (bcell hb4).2
  have hs4 := hb4.size
  try simp at hs4
  have B4 : Below w.heap.size w w4 := (B3).trans (hb4.mono (by first | omega | (simp; omega) | simp))
  go_wp2_with fail
  go_ret
  exact ⟨rfl, B4⟩

set_option maxRecDepth 100000 in
set_option maxHeartbeats 1000000 in
theorem betw4 (R V N n m a b : Int) (w : World) (c1 : ∀ w, Calls Try.prog 9 #[.agg #[.int .i64 R, .int .i64 V, .int .i64 N], .int .i64 0] w fun e' w' => e' = .returned (.tuple #[.int .i64 n, .int .i64 m, .int .i64 0]) ∧ Below w.heap.size w w')
    (c2 : ∀ w, Calls Try.prog 17 #[.agg #[.int .i64 R, .int .i64 V, .int .i64 N], .int .i64 0] w fun e' w' => e' = .returned (.tuple #[.int .i64 a, .int .i64 b, .int .i64 0]) ∧ Below w.heap.size w w')
    (c3 : ∀ w, Calls Try.prog 17 #[.agg #[.int .i64 R, .int .i64 V, .int .i64 N], .int .i64 0] w fun e' w' => e' = .returned (.tuple #[.int .i64 n, .int .i64 m, .int .i64 0]) ∧ Below w.heap.size w w')
    (hm : 1 ≤ m) (hn : 0 ≤ n) (p1 : a * m ≤ n * b) (p2 : n * b ≤ 2 * a * m) (p3 : n * m ≤ n * m) (ha0 : 0 ≤ a) (ha1 : a ≤ 2097152) (hb0 : 0 ≤ b) (hb1 : b ≤ 16384) (hn1 : n ≤ 4398046511104) (hm1 : m ≤ 34359738368) (hn2 : n ≤ 2097152) (hm2 : m ≤ 16384) : Calls Try.prog 6 #[.agg #[.int .i64 R, .int .i64 V, .int .i64 N], .int .i64 0] w fun e w' => e = .returned (.bool true) ∧ Below w.heap.size w w' := by
  have t1 := Lib.hid c1
  have t2 := Lib.hid c2
  have t3 := Lib.hid c3
  clear c1 c2 c3
  obtain ⟨m1, m2⟩ := mul_bd (a := a) (A := 2097152) (b := m) (B := 34359738368) (by omega) (by omega) (by omega) (by omega)
  obtain ⟨m3, m4⟩ := mul_bd (a := n) (A := 4398046511104) (b := b) (B := 16384) (by omega) (by omega) (by omega) (by omega)
  obtain ⟨m5, m6⟩ := mul_bd (a := 2 * a) (A := 4194304) (b := m) (B := 34359738368) (by omega) (by omega) (by omega) (by omega)
  have u1 := Lib.hid (fun w => less18t a b n m p1 w (by omega) (by omega) (by omega) (by omega))
  have u2 := Lib.hid (fun w => less18t n m (2 * a) b p2 w (by omega) (by omega) (by omega) (by omega))
  obtain ⟨m7, m8⟩ := mul_bd (a := n) (A := 4398046511104) (b := m) (B := 16384) (by omega) (by omega) (by omega) (by omega)
  obtain ⟨m9, m10⟩ := mul_bd (a := n) (A := 2097152) (b := m) (B := 34359738368) (by omega) (by omega) (by omega) (by omega)
  have u3 := Lib.hid (fun w => less18t n m n m p3 w (by omega) (by omega) (by omega) (by omega))
  clear p1 p2 m1 m2 m3 m4 m5 m6
  clear p3 m7 m8 m9 m10
  go_enter Try.func6, Try.ntmps6
  go_wp2_with fail
  refine (t1.out _).mono ?_
  rintro e w1 ⟨rfl, hb1⟩
  have hc1 := (bcell hb1).1
  have hf1 := (bcell hb1).2
  have hs1 := hb1.size
  try simp at hs1
  have hz1_0 : w.heap.size < w1.heap.size := by omega
  have B1 : Below w.heap.size w w1 := ((Below.refl _ _).alloc (Nat.le_refl _) _).trans (hb1.mono (by first | omega | (simp; omega) | simp))
  go_wp2_with fail
  refine (t2.out _).mono ?_
  rintro e w2 ⟨rfl, hb2⟩
  have hc2 := (bcell hb2).1
  have hf2 := (bcell hb2).2
  have hs2 := hb2.size
  try simp at hs2
  have hz2_0 : w.heap.size < w2.heap.size := by omega
  have B2 : Below w.heap.size w w2 := (B1).trans (hb2.mono (by first | omega | (simp; omega) | simp))
  go_wp2_with fail
  refine (t3.out _).mono ?_
  rintro e w3 ⟨rfl, hb3⟩
  have hc3 := (bcell hb3).1
  have hf3 := (bcell hb3).2
  have hs3 := hb3.size
  try simp at hs3
  have hz3_0 : w.heap.size < w3.heap.size := by omega
  have B3 : Below w.heap.size w w3 := (B2).trans (hb3.mono (by first | omega | (simp; omega) | simp))
  go_wp2_with fail
  refine (u1.out _).mono ?_
  rintro e' w9 ⟨rfl, rfl⟩
  go_wp2_with fail
  refine (u2.out _).mono ?_
  rintro e' w9 ⟨rfl, rfl⟩
  go_wp2_with fail
  refine (u3.out _).mono ?_
  rintro e' w9 ⟨rfl, rfl⟩
  go_wp2_with fail
  refine (awake15 _).mono ?_
  rintro e w4 ⟨rfl, hb4⟩
  have hc4 := (bcell hb4).1
  have hf4 := (bcell hb4).2
  have hs4 := hb4.size
  try simp at hs4
  have B4 : Below w.heap.size w w4 := (B3).trans (hb4.mono (by first | omega | (simp; omega) | simp))
  go_wp2_with fail
  go_ret
  exact ⟨rfl, B4⟩

theorem between_ (R V N k : Int) (w : World) : Calls Try.prog 6 #[.agg #[.int .i64 R, .int .i64 V, .int .i64 N], .int .i64 k] w fun e w' => e = .returned (.bool true) ∧ Below w.heap.size w w' := by
  have c1 := time9 R V N k
  have c2 := clo15 R V N k
  have c3 := clo15 R V N 0
  have H := btw R V N k
  generalize tm R V N k = x at c1 H
  obtain ⟨n, m, e⟩ := x
  generalize cN R V N k = a at c2 H
  generalize cD R V N k = b at c2 H
  generalize cE R V N k = f at c2 H
  generalize cN R V N 0 = c at c3 H
  generalize cD R V N 0 = d at c3 H
  generalize cE R V N 0 = g at c3 H
  rcases H with ⟨h1, h2, h3, h4⟩ | ⟨h1, h2, h3, h4, h5, h6, h7, h8, h9, h10, h11, h12, h13, h14, h15, h16, h17, h18⟩
  · simp only at h1 h2 h3 h4
    subst h2 h3 h4
    exact betwE R V N k e a b c d g w c1 c2 c3 h1
  · simp only at h1 h3 h4 h5 h6 h7 h8 h13 h14
    subst h1 h2
    by_cases hk : k = 0
    · obtain ⟨e1, e2⟩ := h7 hk
      subst e1 e2 hk
      by_cases hg : g = 0
      · subst hg
        exact betw4 R V N n m a b w c1 c2 c3 h3 h4 h5 h6 (Int.le_refl _) h9 h10 h11 h12 h13 h14 h16 h18
      · exact betw3 R V N n m a b g w c1 c2 c3 h3 h4 h5 h6 hg h9 h10 h11 h12 h13 h14 h16 h18
    · by_cases hg : g = 0
      · subst hg
        exact betw2 R V N k n m a b c d w c1 c2 c3 h3 h4 h5 h6 (by rcases h8 with h | h; exact absurd rfl h; exact h) h9 h10 h11 h12 h13 h14 h15 h16 h17 h18 hk
      · exact betw1 R V N k n m a b c d g w c1 c2 c3 h3 h4 h5 h6 hg h9 h10 h11 h12 h13 h14 h15 h16 h17 h18 hk

namespace tauBetweenRow
open Go.ChangeShapes Go.WideShapes Go.ChangeAt Go.RowKit
open Go.ChangeMaps (open_string shut_string)
set_option linter.unusedVariables false
theorem own : ownKnob Try.prog.godebug = none := by kernel_rfl
theorem laidOut : laidOutB Try.prog = true := by kernel_rfl
set_option maxRecDepth 100000 in
theorem lifted (os : Os) (started : os.Started) (H : Type) (enc : TypeId × Value → H) :
    ReturnsInHanded {} Try.checked os 6 .any (Rows.tauBetweenSpec.pre6 enc Try.prog Try.f6 Rows.tauBetweenRow.domain false) (Rows.tauBetweenSpec.post enc Try.prog Try.f6 false true false false) := by
  refine returnsInHanded_of_change (C := Try.checked) own started (by kernel_rfl) Try.func6
    (ChangeSpec.witness6 (enc := enc) (C := Try.checked) false ⟨#[], #[.agg #[.int .i64 0, .int .i64 0, .int .i64 0], .int .i64 0], []⟩ 8 (by kernel_rfl) (by kernel_rfl) (by kernel_rfl) (by kernel_rfl)) ?_
  intro W base args ds gs before hval0 hW hcnd _hsz
  have hval : ∀ (j : Nat) t v, Try.f6.params[j]? = some t → args[j]? = some v → Value.okWide Try.prog W .any base t v := hval0
  have hW' := hW
  obtain ⟨p, q, hA0, hV, rfl, hfz, hnd⟩ := hW
  have hA : DataW.TrodAll enc Try.prog W 0 (fun _ => true) true Try.f6.params.toList args.toList ds p := hA0
  rw [Try.params6] at hA hval
  obtain ⟨v0, vs0, d0, ds0, p0, q0, hargs, rfl, rfl, h0, r0⟩ := trodAll_cons hA
  obtain ⟨v1, vs1, d1, ds1, p1, q1, rfl, rfl, rfl, h1, r1⟩ := trodAll_cons r0
  obtain ⟨rfl, rfl, rfl⟩ := trodAll_nil r1
  obtain rfl : args = #[v0, v1] := by cases args; simp_all
  obtain ⟨rfl, rfl⟩ := trodVars_none hV
  have k0 := h0
  have lt0 : ∀ x ∈ p0, x.block < W.heap.size := by obtain ⟨m, hm⟩ := k0; exact DataW.trod_lt m _ _ _ hm
  have k1 := h1
  have lt1 : ∀ x ∈ p1, x.block < W.heap.size := by obtain ⟨m, hm⟩ := k1; exact DataW.trod_lt m _ _ _ hm
  obtain ⟨cs0, rfl, i0⟩ := open_leaves 9 [.i64, .i64, .i64] (by kernel_rfl) (by kernel_rfl) (hval 0 23 v0 rfl rfl) h0
  obtain ⟨a0_0, c0_0, rfl, w0_0, i0_0⟩ := i0
  obtain ⟨a0_1, c0_1, rfl, w0_1, i0_1⟩ := i0_0
  obtain ⟨a0_2, c0_2, rfl, w0_2, i0_2⟩ := i0_1
  obtain rfl : c0_2 = [] := i0_2
  obtain ⟨a1, rfl, -, -, w1⟩ := open_int Try.underlying3 (hval 1 3 v1 rfl rfl) h1
  clear hA0 hval0
  refine (between_ a0_0 a0_1 a0_2 a1 W).mono fun e W' ⟨he, bel⟩ => ?_
  subst he
  exact ⟨_, rfl, _, _, _, [], _, [], hW', trodAll_mk1 (shut_bool Try.underlying4 _), (trodAll_cons_mk (Below.trod laidOut (by kernel_rfl) (of_decide_eq_true (by kernel_rfl)) k0 bel lt0) (trodAll_cons_mk (Below.trod laidOut (by kernel_rfl) (of_decide_eq_true (by kernel_rfl)) k1 bel lt1) trodAll_mk0)), rfl, bel.frame _, fun h => by cases h⟩

theorem over : Rows.tauBetweenRow.holds Try.pinned (OpenSpec.ofChange Rows.tauBetweenSpec) :=
  OpenClaim.holds_of_wide 6 Try.f6 rfl rfl rfl rfl rfl rfl rfl ⟨rfl, rfl, rfl, rfl, rfl⟩ rfl rfl rfl rfl rfl (by kernel_rfl) Try.func6 (by kernel_rfl)
    (of_decide_eq_true (by kernel_rfl)) (by unfold Func.isWrapper; first | (rw [if_pos (by decide +kernel)]; kernel_rfl) | (rw [if_neg (by decide +kernel)]; exact ⟨rfl, rfl⟩))
    (fun os started H enc _ => lifted os started H enc)
theorem proved : Rows.TauBetweenSaid := over
end tauBetweenRow
end Go.Proofs.Ytbonniladhablaa
