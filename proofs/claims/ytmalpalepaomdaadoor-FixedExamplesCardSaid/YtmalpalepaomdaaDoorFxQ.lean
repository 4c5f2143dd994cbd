/- The reference of fixed: Parse. -/
import Derived.Test.YtmalpalepaomdaaDoorRows
import Derived.WalkKit
import Derived.WalkLawsBesides
import Derived.WalkSpells
import Derived.ProofKit
import Derived.Below
import Derived.Outline
import Derived.Lib.Hide
import Derived.Deep.RegionWith
import Derived.Deep.RegionHeld3
import Derived.Deep.DrawnRows
import Derived.StillTailTactics
import Derived.BigQuiet
import Derived.Deep.QuietTactic
import Derived.Deep.LoopGhost
import Derived.IntWalk
import Derived.Deep.CutBlock
import Derived.Deep.DeepCutAuto
import Derived.Laws.Strings3
import Derived.Test.YtmalpalepaomdaaDoorFxP
namespace Go.Proofs.YtmalpalepaomdaaDoor
open Go.RowKit
attribute [local go_sem ↓] Go.wp_at_zero Go.wp_at_succ
attribute [local go_sem] wrap_lit
attribute [local go_sem] S_nil S_dot S_minus S_app S_size
/-- What the reference reads: the whole part, the fraction, its scale. -/
def rL : Nat → List UInt8 → Nat → Nat → Nat → Bool → Option (Nat × Nat × Nat)
  | _, [], W, F, S, _ => some (W, F, S)
  | i, c :: l, W, F, S, pt =>
    if c.toNat = 45 ∧ i = 0 then rL (i + 1) l W F S pt
    else if c.toNat = 46 ∧ pt = false then rL (i + 1) l W F S true
    else if ¬ isD c then none
    else if pt = true then (if S < 10000000000000000 then rL (i + 1) l W (10 * F + (c.toNat - 48)) (10 * S) pt else none)
    else if W < 10000000 then rL (i + 1) l (10 * W + (c.toNat - 48)) F S pt
    else rL (i + 1) l W F S pt
theorem rL_whole {i : Nat} {c : UInt8} {l : List UInt8} {W F S : Nat} (hc : isD c) (hW : W < 10000000) : rL i (c :: l) W F S false = rL (i + 1) l (10 * W + (c.toNat - 48)) F S false := by
  have h1 := hc.1
  rw [rL, if_neg (by omega), if_neg (by omega), if_neg (by simp [hc]), if_neg (by decide), if_pos hW]
theorem rL_frac {i : Nat} {c : UInt8} {l : List UInt8} {W F S : Nat} (hc : isD c) (hS : S < 10000000000000000) : rL i (c :: l) W F S true = rL (i + 1) l W (10 * F + (c.toNat - 48)) (10 * S) true := by
  have h1 := hc.1
  rw [rL, if_neg (by omega), if_neg (by omega), if_neg (by simp [hc]), if_pos rfl, if_pos hS]
theorem rL_dd (F S : Nat) (b : List UInt8) : ∀ (n : Nat), n < 10000000 → ∀ i, ∃ i', rL i (Lib.decDigits n ++ b) 0 F S false = rL i' b n F S false := by
  intro n
  induction n using Nat.strongRecOn generalizing b with
  | ind n ih =>
    intro hn i
    have hd := dig_toNat (n % 10) (by omega)
    have last : ∀ (v j : Nat), v * 10 + n % 10 = n → rL j (dig (n % 10) :: b) v F S false = rL (j + 1) b n F S false := by
      intro v j hv
      rw [rL_whole (dig_isD _ (by omega)) (by omega), hd]
      congr 1; omega
    by_cases h0 : n / 10 = 0
    · rw [dd_one n h0]
      exact ⟨_, last 0 i (by omega)⟩
    · rw [dd_step n (by omega), List.append_assoc]
      obtain ⟨i', h⟩ := ih (n / 10) (by omega) ([dig (n % 10)] ++ b) (by omega) i
      exact ⟨_, h.trans (last _ i' (by omega))⟩
theorem rL_fr (W : Nat) : ∀ (f k n F S i : Nat), f + k = 16 → 2 ^ k ∣ n → n < 65536 → S = 10 ^ k →
    rL i (frD f n) W F S true = some (W, (rdF (frD f n) F S).1, (rdF (frD f n) F S).2)
  | 0, k, n, F, S, i, hk, hd, hn, hs => by simp only [frD, rL, rdF]
  | f + 1, k, n, F, S, i, hk, hd, hn, hs => by
    by_cases h0 : n = 0
    · subst h0
      have e : frD (f + 1) 0 = [] := by simp [frD]
      rw [e, rL, rdF]
    · have e : frD (f + 1) n = dig (n * 10 / 65536) :: frD f (n * 10 % 65536) := by rw [frD, if_neg h0]
      have hd1 : n * 10 / 65536 < 10 := by omega
      have hlt : S < 10000000000000000 := by
        rw [hs]
        have : (10 : Nat) ^ k ≤ 10 ^ 15 := Nat.pow_le_pow_right (by omega) (by omega)
        omega
      rw [e, rL_frac (dig_isD _ hd1) hlt, rdF, if_pos ⟨dig_isD _ hd1, hlt⟩, Nat.mul_comm 10 F, Nat.mul_comm 10 S]
      exact rL_fr W f (k + 1) _ _ _ _ (by omega) (dvd_step (by omega) hd) (by omega) (by rw [hs, Nat.pow_succ])
theorem rL_txt2 (q r i : Nat) (hq : q < 10000000) (hr : r < 65536) : ∃ F S, rL i (txt2 q r) 0 0 1 false = some (q, F, S) ∧ bt 16 F S = r := by
  by_cases h : r = 0
  · have e : txt2 q r = Lib.decDigits q ++ [] := by unfold txt2; rw [if_pos h]
    obtain ⟨i', h'⟩ := rL_dd 0 1 [] q hq i
    rw [e, h', rL]
    exact ⟨0, 1, rfl, by rw [h]; exact bt_zero 16 1 (by omega)⟩
  · have e : txt2 q r = Lib.decDigits q ++ 46 :: frD 16 r := by unfold txt2; rw [if_neg h]
    obtain ⟨i', h'⟩ := rL_dd 0 1 (46 :: frD 16 r) q hq i
    rw [e, h', rL, if_neg (by simp), if_pos ⟨by decide, rfl⟩]
    exact ⟨_, _, rL_fr q 16 0 r 0 1 _ (by omega) (by simp) hr (by simp), bt_text r hr⟩
def hd45 (l : List UInt8) : Bool := match l with | c :: _ => decide (c.toNat = 45) | [] => false
def xR (l : List UInt8) : Option Int := match rL 0 l 0 0 1 false with
  | some (W, F, S) => some (sgnI (hd45 l) ((65536 * W + bt 16 F S : Nat) : Int))
  | none => none
theorem xR_text {x : Int} (h : vF x = true) : xR (txL x) = some x := by
  obtain ⟨q, r, hq, hr, ⟨-, e, hx⟩ | ⟨-, e, hx⟩⟩ := txL_form h
  · obtain ⟨F, S, h1, h2⟩ := rL_txt2 q r 1 (by omega) hr
    have h3 : rL 0 (45 :: txt2 q r) 0 0 1 false = some (q, F, S) := by rw [rL, if_pos ⟨by decide, rfl⟩]; exact h1
    unfold xR
    rw [e, h3]
    simp only [h2]
    have : hd45 (45 :: txt2 q r) = true := by simp [hd45]
    rw [this, hx]
    unfold sgnI
    simp; omega
  · obtain ⟨F, S, h1, h2⟩ := rL_txt2 q r 0 (by omega) hr
    unfold xR
    rw [e, h1]
    simp only [h2]
    obtain ⟨c, m, h4, hc⟩ := txt2_head q r
    have h5 := hc.1
    have : hd45 (txt2 q r) = false := by rw [h4]; simp [hd45]; omega
    rw [this, hx]
    unfold sgnI
    simp; omega
theorem xR_par (l : List UInt8) : chkO (xR l) l = parR l := parR_eq fun x h e => by rw [← e]; exact xR_text h
/-- What the loop over the text holds. -/
def Rd (l : List UInt8) (k : Nat) (a f s : Int) (pt : Bool) : Prop := ∃ W F S j : Nat, a = W ∧ f = F ∧ s = S ∧ S = 10 ^ j ∧ j ≤ 16 ∧ F < S ∧ W < 100000000 ∧ rL k (l.drop k) W F S pt = rL 0 l 0 0 1 false
theorem rL_at {l : List UInt8} {k : Nat} (hk : k < l.length) (W F S : Nat) (pt : Bool) : rL k (l.drop k) W F S pt = (if l[k].toNat = 45 ∧ k = 0 then rL (k + 1) (l.drop (k + 1)) W F S pt
    else if l[k].toNat = 46 ∧ pt = false then rL (k + 1) (l.drop (k + 1)) W F S true
    else if ¬ isD l[k] then none
    else if pt = true then (if S < 10000000000000000 then rL (k + 1) (l.drop (k + 1)) W (10 * F + (l[k].toNat - 48)) (10 * S) pt else none)
    else if W < 10000000 then rL (k + 1) (l.drop (k + 1)) (10 * W + (l[k].toNat - 48)) F S pt
    else rL (k + 1) (l.drop (k + 1)) W F S pt) := by
  rw [List.drop_eq_getElem_cons hk, rL]
section
variable {l : List UInt8} {k : Nat} {a f s c : Int}
theorem Rd_minus {pt : Bool} (hk : k < l.length) (h : Rd l k a f s pt) (hc : c = (l[k].toNat : Int)) (h1 : c = 45) (h2 : k = 0) : Rd l (k + 1) a f s pt := by
  obtain ⟨W, F, S, j, rfl, rfl, rfl, e1, e2, e3, e4, e5⟩ := h
  rw [rL_at hk, if_pos ⟨by omega, h2⟩] at e5
  exact ⟨W, F, S, j, rfl, rfl, rfl, e1, e2, e3, e4, e5⟩
theorem Rd_dot (hk : k < l.length) (h : Rd l k a f s false) (hc : c = (l[k].toNat : Int)) (h1 : c = 46) : Rd l (k + 1) a f s true := by
  obtain ⟨W, F, S, j, rfl, rfl, rfl, e1, e2, e3, e4, e5⟩ := h
  rw [rL_at hk, if_neg (by omega), if_pos ⟨by omega, rfl⟩] at e5
  exact ⟨W, F, S, j, rfl, rfl, rfl, e1, e2, e3, e4, e5⟩
theorem Rd_bad {pt : Bool} (hk : k < l.length) (h : Rd l k a f s pt) (hc : c = (l[k].toNat : Int)) (h1 : ¬ (c = 45 ∧ k = 0)) (h2 : ¬ (c = 46 ∧ pt = false)) (h3 : c < 48 ∨ 57 < c) : xR l = none := by
  obtain ⟨W, F, S, j, rfl, rfl, rfl, e1, e2, e3, e4, e5⟩ := h
  rw [rL_at hk, if_neg (fun g => h1 ⟨by omega, g.2⟩), if_neg (fun g => h2 ⟨by omega, g.2⟩), if_pos (by unfold isD; omega)] at e5
  unfold xR; rw [← e5]
theorem Rd_full (hk : k < l.length) (h : Rd l k a f s true) (hc : c = (l[k].toNat : Int)) (h1 : 48 ≤ c) (h2 : c ≤ 57) (h3 : 10000000000000000 ≤ s) : xR l = none := by
  obtain ⟨W, F, S, j, rfl, rfl, rfl, e1, e2, e3, e4, e5⟩ := h
  rw [rL_at hk, if_neg (by omega), if_neg (by omega), if_neg (by unfold isD; omega), if_pos rfl, if_neg (by omega)] at e5
  unfold xR; rw [← e5]
theorem Rd_frac (hk : k < l.length) (h : Rd l k a f s true) (hc : c = (l[k].toNat : Int)) (h1 : 48 ≤ c) (h2 : c ≤ 57) (h3 : s < 10000000000000000) : Rd l (k + 1) a (10 * f + (c - 48)) (10 * s) true ∧ 10 * f + (c - 48) < 10 * s ∧ 10 * s ≤ 10000000000000000 := by
  obtain ⟨W, F, S, j, rfl, rfl, rfl, e1, e2, e3, e4, e5⟩ := h
  rw [rL_at hk, if_neg (by omega), if_neg (by omega), if_neg (by unfold isD; omega), if_pos rfl, if_pos (by omega)] at e5
  have hj : j < 16 := by
    rcases Nat.lt_or_ge j 16 with g | g
    · exact g
    · obtain rfl : j = 16 := by omega
      omega
  have hs : 10 * S ≤ 10000000000000000 := by
    rw [e1, Nat.mul_comm, ← Nat.pow_succ]
    have : (10 : Nat) ^ (j + 1) ≤ 10 ^ 16 := Nat.pow_le_pow_right (by omega) (by omega)
    omega
  exact ⟨⟨W, 10 * F + (l[k].toNat - 48), 10 * S, j + 1, rfl, by omega, by omega, by rw [e1, Nat.pow_succ, Nat.mul_comm], by omega, by omega, e4, e5⟩, by omega, by omega⟩
theorem Rd_whole (hk : k < l.length) (h : Rd l k a f s false) (hc : c = (l[k].toNat : Int)) (h1 : 48 ≤ c) (h2 : c ≤ 57) (h3 : a < 10000000) : Rd l (k + 1) (10 * a + (c - 48)) f s false := by
  obtain ⟨W, F, S, j, rfl, rfl, rfl, e1, e2, e3, e4, e5⟩ := h
  rw [rL_at hk, if_neg (by omega), if_neg (by omega), if_neg (by unfold isD; omega), if_neg (by decide), if_pos (by omega)] at e5
  exact ⟨10 * W + (l[k].toNat - 48), F, S, j, by omega, rfl, rfl, e1, e2, e3, by omega, e5⟩
theorem Rd_skip (hk : k < l.length) (h : Rd l k a f s false) (hc : c = (l[k].toNat : Int)) (h1 : 48 ≤ c) (h2 : c ≤ 57) (h3 : 10000000 ≤ a) : Rd l (k + 1) a f s false := by
  obtain ⟨W, F, S, j, rfl, rfl, rfl, e1, e2, e3, e4, e5⟩ := h
  rw [rL_at hk, if_neg (by omega), if_neg (by omega), if_neg (by unfold isD; omega), if_neg (by decide), if_neg (by omega)] at e5
  exact ⟨W, F, S, j, rfl, rfl, rfl, e1, e2, e3, e4, e5⟩
theorem Rd_end {pt : Bool} (hk : l.length ≤ k) (h : Rd l k a f s pt) : ∃ W F S : Nat, a = W ∧ f = F ∧ s = S ∧ xR l = some (sgnI (hd45 l) ((65536 * W + bt 16 F S : Nat) : Int)) := by
  obtain ⟨W, F, S, j, rfl, rfl, rfl, e1, e2, e3, e4, e5⟩ := h
  rw [List.drop_of_length_le hk, rL] at e5
  exact ⟨W, F, S, rfl, rfl, rfl, by unfold xR; rw [← e5]⟩
end
/-- What the loop over the bits holds. -/
def Bu (N : Int) (k : Nat) (n f s : Int) : Prop := ∃ j r S : Nat, k + j = 16 ∧ f = r ∧ s = S ∧ n * ((2 ^ j : Nat) : Int) + (bt j r S : Nat) = N
theorem Bu_end {N n f s : Int} (h : Bu N 16 n f s) : n = N := by
  obtain ⟨j, r, S, h1, rfl, rfl, h2⟩ := h
  obtain rfl : j = 0 := by omega
  simpa [bt] using h2
theorem Bu_lo {N n f s : Int} {k : Nat} (h : Bu N k n f s) (hk : k < 16) (hl : 2 * f < s) : Bu N (k + 1) (2 * n) (2 * f) s := by
  obtain ⟨j, r, S, h1, rfl, rfl, h2⟩ := h
  cases j with
  | zero => omega
  | succ j =>
    refine ⟨j, 2 * r, S, by omega, by omega, rfl, ?_⟩
    rw [bt, if_neg (by omega), Nat.pow_succ] at h2
    rw [← h2, Int.natCast_mul, show ((2 : Nat) : Int) = 2 from rfl, Int.mul_comm 2 n, Int.mul_assoc, Int.mul_comm 2]
theorem Bu_hi {N n f s : Int} {k : Nat} (h : Bu N k n f s) (hk : k < 16) (hl : s ≤ 2 * f) : Bu N (k + 1) (2 * n + 1) (2 * f - s) s := by
  obtain ⟨j, r, S, h1, rfl, rfl, h2⟩ := h
  cases j with
  | zero => omega
  | succ j =>
    refine ⟨j, 2 * r - S, S, by omega, by omega, rfl, ?_⟩
    rw [bt, if_pos (by omega), Nat.pow_succ] at h2
    rw [← h2, Int.natCast_mul, show ((2 : Nat) : Int) = 2 from rfl, Int.add_mul, Int.mul_comm 2 n, Int.mul_assoc, Int.mul_comm 2]
    omega
theorem Bu_le {N n f s : Int} {k : Nat} (h : Bu N k n f s) (h0 : 0 ≤ n) : n ≤ N := by
  obtain ⟨j, r, S, h1, rfl, rfl, h2⟩ := h
  have : n * 1 ≤ n * ((2 ^ j : Nat) : Int) := Int.mul_le_mul_of_nonneg_left (by have := Nat.pow_pos (n := j) (show 0 < 2 by omega); omega) h0
  omega
theorem hd45_at {l : List UInt8} (h : 0 < l.length) : hd45 l = decide (l[0].toNat = 45) := by
  cases l with
  | nil => simp at h
  | cons c m => rfl
theorem hd45_nil {l : List UInt8} (h : l.length = 0) : hd45 l = false := by
  cases l with
  | nil => rfl
  | cons c m => simp at h
theorem idx_run (l : List UInt8) (k : Nat) (hk : k < l.length) (c : Int) (hc : c = (l[k].toNat : Int)) (W : World) : (Instr.index 9 (.string (S l)) (.int .i64 (k : Int))).run Tryd.prog W = .ok (.int .u8 c) W := by
  have h : 0 ≤ (k : Int) ∧ (k : Int) < (S l).size := by rw [S_size]; omega
  rw [run_index_string (h := Tryd.underlying9), dif_pos h]
  subst hc
  rfl
set_option maxRecDepth 100000 in
theorem parse30n (l : List UInt8) (w : World) (h : 26 < l.length) : Calls Tryd.prog 30 #[.string (S l)] w fun e w' => e = .returned (.tuple #[.int .i64 0, .int .i64 2]) ∧ w = w' := by
  have h1 : (26 : Int) < (l.length : Int) := by omega
  go_enter Tryd.func30, Tryd.ntmps30
  go_wp2_with fail
  go_ret2
  exact ⟨rfl, rfl⟩
set_option maxHeartbeats 8000000 in
set_option maxRecDepth 100000 in
theorem parse30b (l : List UInt8) (w : World) (h : l.length ≤ 26) : Calls Tryd.prog 30 #[.string (S l)] w fun e w' => e = .returned (.tuple #[.int .i64 (parR l).1, .int .i64 (parR l).2]) ∧ Below w.heap.size w w' := by
  have h1 : (l.length : Int) ≤ 26 := by omega
  go_enter Tryd.func30, Tryd.ntmps30
  go_wp2_with fail
  go_loop [4, 5, 6, 7, 8] (fun W F S pt i => ∃ (k : Nat) (a f s : Int) (p : Bool), k ≤ l.length ∧ W = .int .i64 a ∧ F = .int .i64 f ∧ S = .int .i64 s ∧ pt = .bool p ∧ i = .int .i64 k ∧ 0 ≤ a ∧ a ≤ 100000000 ∧ 0 ≤ f ∧ f ≤ s ∧ 1 ≤ s ∧ s ≤ 10000000000000000 ∧ Hid (Rd l k a f s p)) (fun _ _ _ _ i => l.length - (intOf i).toNat)
  case atStart => exact ⟨0, 0, 0, 1, false, by omega, rfl, rfl, rfl, rfl, rfl, by omega, by omega, by omega, by omega, by omega, by omega, Lib.hid ⟨0, 0, 1, 0, rfl, rfl, rfl, rfl, by omega, by omega, by omega, by simp⟩⟩
  case round =>
    obtain ⟨k, a, f, s, p, hk, rfl, rfl, rfl, rfl, rfl, a0, a1, f0, f1, s0, s1, HR⟩ := hrel
    by_cases hlt : k < l.length
    · have hlt' : (k : Int) < (l.length : Int) := by omega
      obtain ⟨c, hcc⟩ : ∃ c : Int, c = (l[k].toNat : Int) := ⟨_, rfl⟩
      have c0 : 0 ≤ c := by omega
      have c1 : c ≤ 255 := by have := l[k].toNat_lt; omega
      have hix := idx_run l k hlt c hcc
      have HCC := Lib.hid hcc
      clear hcc
      by_cases q45 : c = 45
      · by_cases k0 : k = 0
        · have HS := Lib.hid (Rd_minus hlt HR.out HCC.out q45 k0)
          have b1 : (c == 45) = true := by simp [q45]
          have b2 : ((k : Int) == 0) = true := by simp [k0]
          clear q45 k0
          go_wp2_with fail
          exact ⟨⟨k + 1, a, f, s, p, by omega, rfl, rfl, rfl, rfl, by go_num, a0, a1, f0, f1, s0, s1, HS⟩, by simp [intOf]; omega⟩
        · have HXR := Lib.hid (Rd_bad hlt HR.out HCC.out (by omega) (by omega) (by omega))
          have HV : Hid (parR l = (0, 2)) := Lib.hid (by rw [← xR_par, HXR.out]; rfl)
          have b1 : (c == 45) = true := by simp [q45]
          have b2 : ((k : Int) == 0) = false := by simp [k0]
          have b3 : (c == 46) = false := by simp [q45]
          have b4 : c < 48 := by omega
          clear q45 k0
          go_wp2_with fail
          go_ret2
          exact ⟨ret_pair HV.out, Below.refl _ _⟩
      · have b1 : (c == 45) = false := by simp [q45]
        by_cases q46 : c = 46
        · have b3 : (c == 46) = true := by simp [q46]
          cases p with
          | false =>
            have HS := Lib.hid (Rd_dot hlt HR.out HCC.out q46)
            clear q45 q46
            go_wp2_with fail
            exact ⟨⟨k + 1, a, f, s, true, by omega, rfl, rfl, rfl, rfl, by go_num, a0, a1, f0, f1, s0, s1, HS⟩, by simp [intOf]; omega⟩
          | true =>
            have HXR := Lib.hid (Rd_bad hlt HR.out HCC.out (by omega) (by simp) (by omega))
            have HV : Hid (parR l = (0, 2)) := Lib.hid (by rw [← xR_par, HXR.out]; rfl)
            have b4 : c < 48 := by omega
            clear q45 q46
            go_wp2_with fail
            go_ret2
            exact ⟨ret_pair HV.out, Below.refl _ _⟩
        · have b3 : (c == 46) = false := by simp [q46]
          by_cases d0 : c < 48
          · have HXR := Lib.hid (Rd_bad hlt HR.out HCC.out (by omega) (by omega) (by omega))
            have HV : Hid (parR l = (0, 2)) := Lib.hid (by rw [← xR_par, HXR.out]; rfl)
            clear q45 q46
            go_wp2_with fail
            go_ret2
            exact ⟨ret_pair HV.out, Below.refl _ _⟩
          · by_cases d1 : 57 < c
            · have HXR := Lib.hid (Rd_bad hlt HR.out HCC.out (by omega) (by omega) (by omega))
              have HV : Hid (parR l = (0, 2)) := Lib.hid (by rw [← xR_par, HXR.out]; rfl)
              clear q45 q46
              go_wp2_with fail
              go_ret2
              exact ⟨ret_pair HV.out, Below.refl _ _⟩
            · clear q45 q46
              cases p with
              | true =>
                by_cases d2 : s < 10000000000000000
                · obtain ⟨g1, g2, g3⟩ := Rd_frac hlt HR.out HCC.out (by omega) (by omega) d2
                  have HS := Lib.hid g1
                  clear g1
                  go_wp2_with fail
                  exact ⟨⟨k + 1, a, 10 * f + (c - 48), 10 * s, true, by omega, rfl, rfl, rfl, rfl, by go_num, a0, a1, by omega, by omega, by omega, g3, HS⟩, by simp [intOf]; omega⟩
                · have HXR := Lib.hid (Rd_full hlt HR.out HCC.out (by omega) (by omega) (by omega))
                  have HV : Hid (parR l = (0, 2)) := Lib.hid (by rw [← xR_par, HXR.out]; rfl)
                  go_wp2_with fail
                  go_ret2
                  exact ⟨ret_pair HV.out, Below.refl _ _⟩
              | false =>
                by_cases d2 : a < 10000000
                · have HS := Lib.hid (Rd_whole hlt HR.out HCC.out (by omega) (by omega) d2)
                  go_wp2_with fail
                  exact ⟨⟨k + 1, 10 * a + (c - 48), f, s, false, by omega, rfl, rfl, rfl, rfl, by go_num, by omega, by omega, f0, f1, s0, s1, HS⟩, by simp [intOf]; omega⟩
                · have HS := Lib.hid (Rd_skip hlt HR.out HCC.out (by omega) (by omega) (by omega))
                  go_wp2_with fail
                  exact ⟨⟨k + 1, a, f, s, false, by omega, rfl, rfl, rfl, rfl, by go_num, a0, a1, f0, f1, s0, s1, HS⟩, by simp [intOf]; omega⟩
    · have hlt' : ¬ (k : Int) < (l.length : Int) := by omega
      obtain ⟨W, F, S', rfl, rfl, rfl, hx⟩ := Rd_end (by omega) HR.out
      clear HR
      obtain ⟨a, ha⟩ : ∃ a : Int, a = (W : Int) := ⟨_, rfl⟩
      obtain ⟨f, hf⟩ : ∃ f : Int, f = (F : Int) := ⟨_, rfl⟩
      obtain ⟨s, hs⟩ : ∃ s : Int, s = (S' : Int) := ⟨_, rfl⟩
      obtain ⟨M, hM⟩ : ∃ M : Int, M = (bt 16 F S' : Int) := ⟨_, rfl⟩
      obtain ⟨N, hN⟩ : ∃ N : Int, N = 65536 * a + M := ⟨_, rfl⟩
      have hbt := bt_lt 16 F S'
      have M0 : 0 ≤ M := by omega
      have M1 : M ≤ 65535 := by omega
      have HST : Hid (Bu M 0 0 f s) := Lib.hid ⟨16, F, S', rfl, hf, hs, by rw [hM]; omega⟩
      have HX : Hid (xR l = some (sgnI (hd45 l) N)) := Lib.hid (by rw [hx]; congr 2; omega)
      have A0 : 0 ≤ a := by omega
      have A1 : a ≤ 100000000 := by omega
      have F0 : 0 ≤ f := by omega
      have F1 : f ≤ s := by omega
      have S0 : 1 ≤ s := by omega
      have S1 : s ≤ 10000000000000000 := by omega
      rw [← ha, ← hf, ← hs]
      have HN := Lib.hid hN
      clear hx ha hf hs hM hN hbt a0 a1 f0 f1 s0 s1
      go_wp2_with fail
      go_loop [5, 10, 11] (fun F n i => ∃ (k2 : Nat) (fi ni : Int), F = .int .i64 fi ∧ n = .int .i64 ni ∧ i = .int .i64 k2 ∧ k2 ≤ 16 ∧ 0 ≤ fi ∧ fi ≤ s ∧ 0 ≤ ni ∧ ni ≤ 65535 ∧ Hid (Bu M k2 ni fi s)) (fun _ _ i => 16 - (intOf i).toNat)
      case atStart => exact ⟨0, f, 0, rfl, rfl, rfl, by omega, F0, F1, by omega, by omega, HST⟩
      case round =>
        obtain ⟨k2, fi, ni, rfl, rfl, rfl, hk2, f0, f1, n0, n1, HB⟩ := hrel
        by_cases hlt2 : k2 < 16
        · by_cases hc : s ≤ 2 * fi
          · have HS := Lib.hid (Bu_hi HB.out hlt2 hc)
            have n2 : 2 * ni + 1 ≤ 65535 := by have := Bu_le HS.out (by omega); omega
            go_wp2_with fail
            exact ⟨⟨k2 + 1, 2 * fi - s, 2 * ni + 1, rfl, rfl, by go_num, by omega, by omega, by omega, by omega, n2, HS⟩, by simp [intOf]; omega⟩
          · have hc' : 2 * fi < s := by omega
            have HS := Lib.hid (Bu_lo HB.out hlt2 hc')
            have n2 : 2 * ni ≤ 65535 := by have := Bu_le HS.out (by omega); omega
            go_wp2_with fail
            exact ⟨⟨k2 + 1, 2 * fi, 2 * ni, rfl, rfl, by go_num, by omega, by omega, by omega, by omega, n2, HS⟩, by simp [intOf]; omega⟩
        · obtain rfl : k2 = 16 := by omega
          obtain rfl : ni = M := Bu_end HB.out
          clear HB hlt2
          have hX : 65536 * a + ni = N := HN.out.symm
          have N0 : 0 ≤ N := by omega
          have N1 : N ≤ 10000000000000 := by omega
          by_cases hl0 : 0 < l.length
          · have hl0' : (0 : Int) < (l.length : Int) := by omega
            obtain ⟨c, hcc⟩ : ∃ c : Int, c = (l[0].toNat : Int) := ⟨_, rfl⟩
            have hix : ∀ W : World, (Instr.index 9 (.string (S l)) (.int .i64 0)).run Tryd.prog W = .ok (.int .u8 c) W := idx_run l 0 hl0 c hcc
            by_cases q45 : c = 45
            · have b1 : (c == 45) = true := by simp [q45]
              have HXR : Hid (xR l = some (-N)) := Lib.hid (by rw [HX.out, hd45_at hl0, decide_eq_true (show l[0].toNat = 45 by omega)]; rfl)
              clear q45 hcc
              have HV : Hid (parR l = chk (-N) l) := Lib.hid (by rw [← xR_par, HXR.out]; rfl)
              cases hv : vF (-N) with
              | false =>
                have R0 := Lib.hid (show chk (-N) l = (0, 2) by unfold chk; rw [if_neg (by rw [hv]; simp)])
                have T1 := Lib.hid (show txE (-N) = 1 by unfold txE; rw [if_neg (by rw [hv]; decide)])
                clear hv
                go_wp2_with fail
                refine (ats_ rfl T1.out (text26 (-N) _)).mono ?_
                rintro e w4 ⟨rfl, hb4⟩
                have HB4 := Lib.hid hb4
                clear hb4
                go_wp2_with fail
                go_ret2
                exact ⟨ret_pair (by rw [HV.out, R0.out]), HB4.out⟩
              | true =>
                have T1 := Lib.hid (show txE (-N) = 0 by unfold txE; rw [if_pos hv])
                by_cases hl : txL (-N) = l
                · have R0 := Lib.hid (show chk (-N) l = ((-N), 0) by unfold chk; rw [if_pos ⟨hv, hl⟩])
                  have T2 := Lib.hid (show txV (-N) = S l by unfold txV; rw [if_pos hv, hl])
                  clear hv hl
                  go_wp2_with fail
                  refine (ats_ T2.out T1.out (text26 (-N) _)).mono ?_
                  rintro e w4 ⟨rfl, hb4⟩
                  have HB4 := Lib.hid hb4
                  clear hb4
                  go_wp2_with fail
                  go_ret2
                  exact ⟨ret_pair (by rw [HV.out, R0.out]), HB4.out⟩
                · have R0 := Lib.hid (show chk (-N) l = (0, 2) by unfold chk; rw [if_neg (fun g => hl g.2)])
                  obtain ⟨m, hm⟩ : ∃ m, txL (-N) = m := ⟨_, rfl⟩
                  have T2 := Lib.hid (show txV (-N) = S m by unfold txV; rw [if_pos hv, hm])
                  rw [hm] at hl
                  have hne : (m == l) = false := by simp [hl]
                  clear hv hl hm
                  go_wp2_with fail
                  refine (ats_ T2.out T1.out (text26 (-N) _)).mono ?_
                  rintro e w4 ⟨rfl, hb4⟩
                  have HB4 := Lib.hid hb4
                  clear hb4
                  go_wp2_with fail
                  go_ret2
                  exact ⟨ret_pair (by rw [HV.out, R0.out]), HB4.out⟩
            · have b1 : (c == 45) = false := by simp [q45]
              have HXR : Hid (xR l = some N) := Lib.hid (by rw [HX.out, hd45_at hl0, decide_eq_false (show ¬ l[0].toNat = 45 by omega)]; rfl)
              clear q45 hcc
              have HV : Hid (parR l = chk N l) := Lib.hid (by rw [← xR_par, HXR.out]; rfl)
              cases hv : vF N with
              | false =>
                have R0 := Lib.hid (show chk N l = (0, 2) by unfold chk; rw [if_neg (by rw [hv]; simp)])
                have T1 := Lib.hid (show txE N = 1 by unfold txE; rw [if_neg (by rw [hv]; decide)])
                clear hv
                go_wp2_with fail
                refine (ats_ rfl T1.out (text26 N _)).mono ?_
                rintro e w4 ⟨rfl, hb4⟩
                have HB4 := Lib.hid hb4
                clear hb4
                go_wp2_with fail
                go_ret2
                exact ⟨ret_pair (by rw [HV.out, R0.out]), HB4.out⟩
              | true =>
                have T1 := Lib.hid (show txE N = 0 by unfold txE; rw [if_pos hv])
                by_cases hl : txL N = l
                · have R0 := Lib.hid (show chk N l = (N, 0) by unfold chk; rw [if_pos ⟨hv, hl⟩])
                  have T2 := Lib.hid (show txV N = S l by unfold txV; rw [if_pos hv, hl])
                  clear hv hl
                  go_wp2_with fail
                  refine (ats_ T2.out T1.out (text26 N _)).mono ?_
                  rintro e w4 ⟨rfl, hb4⟩
                  have HB4 := Lib.hid hb4
                  clear hb4
                  go_wp2_with fail
                  go_ret2
                  exact ⟨ret_pair (by rw [HV.out, R0.out]), HB4.out⟩
                · have R0 := Lib.hid (show chk N l = (0, 2) by unfold chk; rw [if_neg (fun g => hl g.2)])
                  obtain ⟨m, hm⟩ : ∃ m, txL N = m := ⟨_, rfl⟩
                  have T2 := Lib.hid (show txV N = S m by unfold txV; rw [if_pos hv, hm])
                  rw [hm] at hl
                  have hne : (m == l) = false := by simp [hl]
                  clear hv hl hm
                  go_wp2_with fail
                  refine (ats_ T2.out T1.out (text26 N _)).mono ?_
                  rintro e w4 ⟨rfl, hb4⟩
                  have HB4 := Lib.hid hb4
                  clear hb4
                  go_wp2_with fail
                  go_ret2
                  exact ⟨ret_pair (by rw [HV.out, R0.out]), HB4.out⟩
          · have hl0' : ¬ (0 : Int) < (l.length : Int) := by omega
            have HXR : Hid (xR l = some N) := Lib.hid (by rw [HX.out, hd45_nil (by omega)]; rfl)
            have HV : Hid (parR l = chk N l) := Lib.hid (by rw [← xR_par, HXR.out]; rfl)
            cases hv : vF N with
            | false =>
              have R0 := Lib.hid (show chk N l = (0, 2) by unfold chk; rw [if_neg (by rw [hv]; simp)])
              have T1 := Lib.hid (show txE N = 1 by unfold txE; rw [if_neg (by rw [hv]; decide)])
              clear hv
              go_wp2_with fail
              refine (ats_ rfl T1.out (text26 N _)).mono ?_
              rintro e w4 ⟨rfl, hb4⟩
              have HB4 := Lib.hid hb4
              clear hb4
              go_wp2_with fail
              go_ret2
              exact ⟨ret_pair (by rw [HV.out, R0.out]), HB4.out⟩
            | true =>
              have T1 := Lib.hid (show txE N = 0 by unfold txE; rw [if_pos hv])
              by_cases hl : txL N = l
              · have R0 := Lib.hid (show chk N l = (N, 0) by unfold chk; rw [if_pos ⟨hv, hl⟩])
                have T2 := Lib.hid (show txV N = S l by unfold txV; rw [if_pos hv, hl])
                clear hv hl
                go_wp2_with fail
                refine (ats_ T2.out T1.out (text26 N _)).mono ?_
                rintro e w4 ⟨rfl, hb4⟩
                have HB4 := Lib.hid hb4
                clear hb4
                go_wp2_with fail
                go_ret2
                exact ⟨ret_pair (by rw [HV.out, R0.out]), HB4.out⟩
              · have R0 := Lib.hid (show chk N l = (0, 2) by unfold chk; rw [if_neg (fun g => hl g.2)])
                obtain ⟨m, hm⟩ : ∃ m, txL N = m := ⟨_, rfl⟩
                have T2 := Lib.hid (show txV N = S m by unfold txV; rw [if_pos hv, hm])
                rw [hm] at hl
                have hne : (m == l) = false := by simp [hl]
                clear hv hl hm
                go_wp2_with fail
                refine (ats_ T2.out T1.out (text26 N _)).mono ?_
                rintro e w4 ⟨rfl, hb4⟩
                have HB4 := Lib.hid hb4
                clear hb4
                go_wp2_with fail
                go_ret2
                exact ⟨ret_pair (by rw [HV.out, R0.out]), HB4.out⟩
end Go.Proofs.YtmalpalepaomdaaDoor
