/- The plain laws of Parse: a text of a number is read as that number. -/
import Derived.Test.YtmalpalepaomdaaDoorFxM
import Derived.Lib.IndexMore
import Derived.Lib.Strings
import Derived.Lib.ParseIntB
namespace Go.Proofs.YtmalpalepaomdaaDoor
open Go.RowKit

/-- The bits of a fraction r / s, j of them. -/
def bt : Nat → Nat → Nat → Nat
  | 0, _, _ => 0
  | j + 1, r, s => if s ≤ 2 * r then 2 ^ j + bt j (2 * r - s) s else bt j (2 * r) s
theorem bt_lt : ∀ (j r s : Nat), bt j r s < 2 ^ j
  | 0, _, _ => by simp [bt]
  | j + 1, r, s => by
    rw [bt, Nat.pow_succ]
    split
    · have := bt_lt j (2 * r - s) s; omega
    · have := bt_lt j (2 * r) s; omega
theorem bt_exact : ∀ (j r s n : Nat), 0 < s → n < 2 ^ j → r * 2 ^ j = n * s → bt j r s = n
  | 0, r, s, n, hs, hn, h => by
    have : n = 0 := by simpa using hn
    subst this; rfl
  | j + 1, r, s, n, hs, hn, h => by
    have h2 : 2 * r * 2 ^ j = n * s := by rw [← h, Nat.pow_succ]; rw [Nat.mul_comm 2 r, Nat.mul_assoc, Nat.mul_comm 2]
    have hp : 0 < 2 ^ j := Nat.pow_pos (by omega)
    rw [Nat.pow_succ] at hn
    rw [bt]
    split
    · rename_i hle
      have hge : 2 ^ j ≤ n := by
        rcases Nat.lt_or_ge n (2 ^ j) with g | g
        · have e1 : n * s < 2 ^ j * s := Nat.mul_lt_mul_of_pos_right g hs
          have e2 : s * 2 ^ j ≤ 2 * r * 2 ^ j := Nat.mul_le_mul_right _ hle
          rw [Nat.mul_comm s] at e2
          omega
        · exact g
      have := bt_exact j (2 * r - s) s (n - 2 ^ j) hs (by omega) (by
        rw [Nat.sub_mul, Nat.sub_mul, h2, Nat.mul_comm s])
      omega
    · rename_i hlt
      have hlt' : n < 2 ^ j := by
        rcases Nat.lt_or_ge n (2 ^ j) with g | g
        · exact g
        · have e1 : 2 ^ j * s ≤ n * s := Nat.mul_le_mul_right _ g
          have e2 : 2 * r * 2 ^ j < s * 2 ^ j := Nat.mul_lt_mul_of_pos_right (by omega) hp
          rw [Nat.mul_comm s] at e2
          omega
      exact bt_exact j (2 * r) s n hs hlt' h2
def isD (c : UInt8) : Prop := 48 ≤ c.toNat ∧ c.toNat ≤ 57
instance (c : UInt8) : Decidable (isD c) := by unfold isD; exact inferInstance
/-- The fraction, as package fixed reads it. -/
def rdF : List UInt8 → Nat → Nat → Nat × Nat
  | [], r, s => (r, s)
  | c :: l, r, s => if isD c ∧ s < 10000000000000000 then rdF l (r * 10 + (c.toNat - 48)) (s * 10) else (s, s)
theorem dig_toNat (d : Nat) (h : d < 10) : (dig d).toNat = 48 + d := by have := dig_nat d h; omega
theorem dig_isD (d : Nat) (h : d < 10) : isD (dig d) := by unfold isD; rw [dig_toNat d h]; omega
theorem frD_dig : ∀ (f n : Nat), n < 65536 → ∀ c ∈ frD f n, isD c
  | 0, n, _, c, h => by simp [frD] at h
  | f + 1, n, hn, c, h => by
    rw [frD] at h
    split at h
    · simp at h
    · rcases List.mem_cons.1 h with rfl | h
      · exact dig_isD _ (by omega)
      · exact frD_dig f _ (by omega) c h
theorem frD_len : ∀ (f n : Nat), (frD f n).length ≤ f
  | 0, n => by simp [frD]
  | f + 1, n => by
    rw [frD]
    split
    · simp
    · have := frD_len f (n * 10 % 65536); simp; omega
theorem rdF_fr (r0 : Nat) : ∀ (f k n R s : Nat), f + k = 16 → 2 ^ k ∣ n → n < 65536 → s = 10 ^ k → r0 * s = R * 65536 + n →
    (rdF (frD f n) R s).1 * 65536 = r0 * (rdF (frD f n) R s).2 ∧ 0 < (rdF (frD f n) R s).2
  | 0, k, n, R, s, hk, hd, hn, hs, h => by
    obtain rfl : k = 16 := by omega
    have h0 := dvd_end hd hn
    subst h0
    simp only [frD, rdF]
    exact ⟨by omega, by rw [hs]; decide⟩
  | f + 1, k, n, R, s, hk, hd, hn, hs, h => by
    by_cases h0 : n = 0
    · subst h0
      have e : frD (f + 1) 0 = [] := by simp [frD]
      rw [e, rdF]
      show R * 65536 = r0 * s ∧ 0 < s
      exact ⟨by omega, by rw [hs]; exact Nat.pow_pos (by omega)⟩
    · have e : frD (f + 1) n = dig (n * 10 / 65536) :: frD f (n * 10 % 65536) := by rw [frD, if_neg h0]
      have hd1 : n * 10 / 65536 < 10 := by omega
      have hlt : s < 10000000000000000 := by
        rw [hs]
        have : (10 : Nat) ^ k ≤ 10 ^ 15 := Nat.pow_le_pow_right (by omega) (by omega)
        omega
      rw [e, rdF, if_pos ⟨dig_isD _ hd1, hlt⟩, dig_toNat _ hd1]
      have e2 : 48 + n * 10 / 65536 - 48 = n * 10 / 65536 := by omega
      rw [e2]
      refine rdF_fr r0 f (k + 1) _ _ _ (by omega) (dvd_step (by omega) hd) (by omega) (by rw [hs, Nat.pow_succ]) ?_
      rw [← Nat.mul_assoc, h]
      omega
theorem rdF_text (r : Nat) (hr : r < 65536) : (rdF (frD 16 r) 0 1).1 * 65536 = r * (rdF (frD 16 r) 0 1).2 ∧ 0 < (rdF (frD 16 r) 0 1).2 :=
  rdF_fr r 16 0 r 0 1 (by omega) (by simp) hr (by simp) (by simp)
theorem bt_text (r : Nat) (hr : r < 65536) : bt 16 (rdF (frD 16 r) 0 1).1 (rdF (frD 16 r) 0 1).2 = r := by
  obtain ⟨h1, h2⟩ := rdF_text r hr
  exact bt_exact 16 _ _ r h2 hr h1
theorem bt_zero : ∀ (j s : Nat), 0 < s → bt j 0 s = 0
  | 0, _, _ => rfl
  | j + 1, s, h => by rw [bt, if_neg (by omega)]; exact bt_zero j s h
theorem dd_dig : ∀ (n : Nat), ∀ c ∈ Lib.decDigits n, isD c := by
  intro n
  induction n using Nat.strongRecOn with
  | ind n ih =>
    intro c h
    by_cases h0 : n / 10 = 0
    · rw [dd_one n h0] at h
      simp at h
      subst h
      exact dig_isD _ (by omega)
    · rw [dd_step n (by omega)] at h
      rcases List.mem_append.1 h with h | h
      · exact ih (n / 10) (by omega) c h
      · simp at h
        subst h
        exact dig_isD _ (by omega)
theorem dd_ne (n : Nat) : Lib.decDigits n ≠ [] := by
  by_cases h0 : n / 10 = 0
  · rw [dd_one n h0]; simp
  · rw [dd_step n (by omega)]; simp
theorem no46 {l : List UInt8} (h : ∀ c ∈ l, isD c) : (46 : UInt8) ∉ l := fun g => by have := h _ g; revert this; decide
theorem no45 {l : List UInt8} (h : ∀ c ∈ l, isD c) : (45 : UInt8) ∉ l := fun g => by have := h _ g; revert this; decide
theorem idx_none : ∀ {l : List UInt8} {c : UInt8}, c ∉ l → Lib.index l [c] = -1
  | [], c, _ => by simp [Lib.index]
  | x :: l, c, h => by
    have h1 : ¬ c = x := fun e => h (by simp [e])
    have h2 := idx_none (l := l) (c := c) (fun e => h (by simp [e]))
    simp [Lib.index, List.isPrefixOf, h1, h2]
theorem idx_at : ∀ {l m : List UInt8} {c : UInt8}, c ∉ l → Lib.index (l ++ c :: m) [c] = l.length
  | [], m, c, _ => by simp [Lib.index, List.isPrefixOf]
  | x :: l, m, c, h => by
    have h1 : ¬ c = x := fun e => h (by simp [e])
    have h2 := idx_at (l := l) (m := m) (c := c) (fun e => h (by simp [e]))
    have h3 : ¬ ((l.length : Int) = -1) := by omega
    simp [Lib.index, List.isPrefixOf, h1, h2, h3]
theorem cut_none {l : List UInt8} {c : UInt8} (h : c ∉ l) : Lib.cut l [c] = (l, [], false) := by
  unfold Lib.cut; rw [idx_none h]; rfl
theorem cut_at {l m : List UInt8} {c : UInt8} (h : c ∉ l) : Lib.cut (l ++ c :: m) [c] = (l, m, true) := by
  unfold Lib.cut
  rw [idx_at h, if_pos (by omega)]
  simp
theorem pM_app (M : Nat) : ∀ (a b : List UInt8) (acc v : Nat), Lib.parseUintM M acc a = .ok v → Lib.parseUintM M acc (a ++ b) = Lib.parseUintM M v b
  | [], b, acc, v, h => by simp [Lib.parseUintM] at h; subst h; rfl
  | c :: a, b, acc, v, h => by
    simp only [Lib.parseUintM, List.cons_append] at h ⊢
    split at h
    · rw [if_pos ‹_›]
      split at h
      · cases h
      · rw [if_neg ‹_›]
        split at h
        · cases h
        · rw [if_neg ‹_›]
          exact pM_app M a b _ v h
    · cases h
theorem pM_dd (M : Nat) (hM : M ≤ 8388607) : ∀ (n : Nat), n ≤ M → Lib.parseUintM M 0 (Lib.decDigits n) = .ok n := by
  intro n
  induction n using Nat.strongRecOn with
  | ind n ih =>
    intro hn
    have hd := dig_toNat (n % 10) (by omega)
    have h1 : 48 ≤ (dig (n % 10)).toNat ∧ (dig (n % 10)).toNat ≤ 57 := by omega
    have last : ∀ v : Nat, v * 10 + n % 10 = n → Lib.parseUintM M v [dig (n % 10)] = .ok n := by
      intro v hv
      simp only [Lib.parseUintM]
      rw [if_pos h1, if_neg (by omega), if_neg (by omega), hd]
      congr 1; omega
    by_cases h0 : n / 10 = 0
    · rw [dd_one n h0]
      exact last 0 (by omega)
    · rw [dd_step n (by omega), pM_app M _ _ 0 (n / 10) (ih (n / 10) (by omega) (by omega))]
      exact last _ (by omega)
theorem pU_dd (n : Nat) (h : n ≤ 8388607) : pU (Lib.decDigits n) = .ok n := by
  unfold pU; rw [if_neg (dd_ne n)]; exact pM_dd _ (by omega) n h
def sgnI (neg : Bool) (x : Int) : Int := if neg = true then -x else x
/-- The number that package fixed computes of a text. -/
def xP (l : List UInt8) : Option Int :=
  match pU (Lib.cut (Lib.trimPrefix l [45]) [46]).1 with
  | .ok q => some (sgnI (Lib.hasPrefix l [45]) ((q * 65536 + bt 16 (rdF (Lib.cut (Lib.trimPrefix l [45]) [46]).2.1 0 1).1 (rdF (Lib.cut (Lib.trimPrefix l [45]) [46]).2.1 0 1).2 : Nat) : Int))
  | _ => none
theorem txt2_head (q r : Nat) : ∃ c m, txt2 q r = c :: m ∧ isD c := by
  obtain ⟨c, m, h⟩ : ∃ c m, Lib.decDigits q = c :: m := by
    cases h : Lib.decDigits q with
    | nil => exact absurd h (dd_ne q)
    | cons c m => exact ⟨c, m, rfl⟩
  refine ⟨c, m ++ (if r = 0 then [] else 46 :: frD 16 r), by unfold txt2; rw [h]; rfl, dd_dig q c (by rw [h]; simp)⟩
theorem hp_txt2 (q r : Nat) : Lib.hasPrefix (txt2 q r) [45] = false := by
  obtain ⟨c, m, h, hc⟩ := txt2_head q r
  rw [h]
  have : ¬ (45 : UInt8) = c := fun e => by subst e; revert hc; decide
  simp [Lib.hasPrefix, List.isPrefixOf, this]
theorem tp_txt2 (q r : Nat) : Lib.trimPrefix (txt2 q r) [45] = txt2 q r := by unfold Lib.trimPrefix; rw [hp_txt2]; rfl
theorem hp_neg (l : List UInt8) : Lib.hasPrefix (45 :: l) [45] = true := by simp [Lib.hasPrefix, List.isPrefixOf]
theorem tp_neg (l : List UInt8) : Lib.trimPrefix (45 :: l) [45] = l := by unfold Lib.trimPrefix; rw [hp_neg]; rfl
theorem cut_txt2 (q r : Nat) (hr : r < 65536) : (Lib.cut (txt2 q r) [46]).1 = Lib.decDigits q ∧ bt 16 (rdF (Lib.cut (txt2 q r) [46]).2.1 0 1).1 (rdF (Lib.cut (txt2 q r) [46]).2.1 0 1).2 = r := by
  by_cases h : r = 0
  · have e : txt2 q r = Lib.decDigits q := by unfold txt2; rw [if_pos h]; simp
    rw [e, cut_none (no46 (dd_dig q))]
    refine ⟨rfl, ?_⟩
    rw [rdF, h]
    exact bt_zero 16 1 (by omega)
  · have e : txt2 q r = Lib.decDigits q ++ 46 :: frD 16 r := by unfold txt2; rw [if_neg h]
    rw [e, cut_at (no46 (dd_dig q))]
    exact ⟨rfl, bt_text r hr⟩
theorem xP_pos (q r : Nat) (hq : q ≤ 8388607) (hr : r < 65536) : xP (txt2 q r) = some ((q * 65536 + r : Nat) : Int) := by
  obtain ⟨h1, h2⟩ := cut_txt2 q r hr
  unfold xP
  rw [tp_txt2, h1, pU_dd q hq, hp_txt2]
  simp only [h2]
  rfl
theorem xP_neg (q r : Nat) (hq : q ≤ 8388607) (hr : r < 65536) : xP (45 :: txt2 q r) = some (-((q * 65536 + r : Nat) : Int)) := by
  obtain ⟨h1, h2⟩ := cut_txt2 q r hr
  unfold xP
  rw [tp_neg, h1, pU_dd q hq, hp_neg]
  simp only [h2]
  rfl
theorem txL_form {x : Int} (h : vF x = true) : ∃ q r : Nat, q ≤ 4194304 ∧ r < 65536 ∧ ((x < 0 ∧ txL x = 45 :: txt2 q r ∧ x = -((q * 65536 + r : Nat) : Int)) ∨ (0 ≤ x ∧ txL x = txt2 q r ∧ x = ((q * 65536 + r : Nat) : Int))) := by
  obtain ⟨h0, h1⟩ := vF_iff h
  by_cases hn : x < 0
  · refine ⟨(-x / 65536).toNat, (-x % 65536).toNat, by omega, by omega, .inl ⟨hn, ?_, by omega⟩⟩
    unfold txL; rw [if_pos hn]; rfl
  · refine ⟨(x / 65536).toNat, (x % 65536).toNat, by omega, by omega, .inr ⟨by omega, ?_, by omega⟩⟩
    unfold txL; rw [if_neg hn]; rfl
theorem xP_text {x : Int} (h : vF x = true) : xP (txL x) = some x := by
  obtain ⟨q, r, hq, hr, ⟨-, e, hx⟩ | ⟨-, e, hx⟩⟩ := txL_form h
  · rw [e, xP_neg q r (by omega) hr, ← hx]
  · rw [e, xP_pos q r (by omega) hr, ← hx]
theorem txL_len {x : Int} (h : vF x = true) : (txL x).length ≤ 26 := by
  obtain ⟨q, r, hq, hr, ⟨-, e, -⟩ | ⟨-, e, -⟩⟩ := txL_form h
  all_goals
    have h1 := dd_len 7 q (by omega) (by omega)
    have h2 := frD_len 16 r
    rw [e]
    unfold txt2
    split <;> simp <;> omega
/-- What Parse returns of a text that is read as x. -/
def chk (x : Int) (l : List UInt8) : Int × Int := if vF x = true ∧ txL x = l then (x, 0) else (0, 2)
def chkO (o : Option Int) (l : List UInt8) : Int × Int := match o with | some x => chk x l | none => (0, 2)
def parR (l : List UInt8) : Int × Int := if 26 < l.length then (0, 2) else chkO (xP l) l
theorem parR_text {x : Int} (h : vF x = true) : parR (txL x) = (x, 0) := by
  unfold parR
  rw [if_neg (by have := txL_len h; omega), xP_text h]
  show chk x (txL x) = (x, 0)
  unfold chk
  rw [if_pos ⟨h, rfl⟩]
theorem parR_ok (l : List UInt8) : (∃ x, vF x = true ∧ txL x = l ∧ parR l = (x, 0)) ∨ ((∀ x, vF x = true → txL x ≠ l) ∧ parR l = (0, 2)) := by
  by_cases h : ∃ x, vF x = true ∧ txL x = l
  · obtain ⟨x, h1, h2⟩ := h
    exact .inl ⟨x, h1, h2, by rw [← h2]; exact parR_text h1⟩
  · refine .inr ⟨fun x h1 h2 => h ⟨x, h1, h2⟩, ?_⟩
    unfold parR
    split
    · rfl
    · unfold chkO
      split
      · unfold chk
        rw [if_neg (fun g => h ⟨_, g.1, g.2⟩)]
      · rfl
/-- Whatever way a text is read, if texts of numbers are read as the numbers, the result is the same. -/
theorem parR_eq {l : List UInt8} {o : Option Int} (h : ∀ x, vF x = true → txL x = l → o = some x) : chkO o l = parR l := by
  rcases parR_ok l with ⟨x, h1, h2, h3⟩ | ⟨h1, h2⟩
  · have e := h x h1 h2
    subst e
    rw [h3]
    show chk x l = (x, 0)
    unfold chk
    rw [if_pos ⟨h1, h2⟩]
  · rw [h2]
    unfold chkO
    split
    · unfold chk
      rw [if_neg (fun g => h1 _ g.1 g.2)]
    · rfl
end Go.Proofs.YtmalpalepaomdaaDoor
