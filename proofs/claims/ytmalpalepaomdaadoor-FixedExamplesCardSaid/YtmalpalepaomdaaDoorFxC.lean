/- Package fixed: From, Ratio, Add, Sub, Mul, Div, Floor, Round, Clamp. -/
import Derived.Test.YtmalpalepaomdaaDoorRows
import Derived.WalkKit
import Derived.WalkLawsBesides
import Derived.WalkSpells
import Derived.ProofKit
import Derived.Below
import Derived.Outline
import Derived.Lib.Hide
import Derived.Deep.RegionWith
import Derived.Deep.RegionHeld3
import Derived.Deep.DrawnRows
import Derived.StillTailTactics
import Derived.BigQuiet
import Derived.Deep.QuietTactic
import Derived.Deep.LoopGhost
import Derived.IntWalk
import Derived.Lib.MinMax
import Derived.Test.YtmalpalepaomdaaDoorFxB
namespace Go.Proofs.YtmalpalepaomdaaDoor
open Go.RowKit
attribute [local go_sem ↓] Go.wp_at_zero Go.wp_at_succ
attribute [local go_sem] wrap_lit
/-- The result of an operation of valid numbers whose exact result is x. -/
def rA (xs : List Int) (x : Int) : Int × Int := if xs.all vF = true then (fitV x, fitE x) else (0, 1)
def mulX (a b : Int) : Int := sg a b (rdN (absI a * absI b) 65536)
def divX (a b : Int) : Int := sg a b (rdN (absI a * 65536) (absI b))
def divR (a b : Int) : Int × Int := if [a, b].all vF = true then (if b = 0 then (0, 14) else (fitV (divX a b), fitE (divX a b))) else (0, 1)
def okR (p q : Int) : Bool := decide (-1099511627776 ≤ p) && decide (p ≤ 1099511627776) && decide (-1099511627776 ≤ q) && decide (q ≤ 1099511627776)
def ratR (p q : Int) : Int × Int := if okR p q = true then (if q = 0 then (0, 14) else (fitV (divX p q), fitE (divX p q))) else (0, 1)
def froR (n : Int) : Int × Int := if -4194304 ≤ n ∧ n ≤ 4194304 then (n * 65536, 0) else (0, 7)
def flrR (x : Int) : Int × Int := if vF x = true then (x / 65536, 0) else (0, 1)
def rndX (x : Int) : Int := if x < 0 then -rdN (-x) 65536 else rdN x 65536
def rndR (x : Int) : Int × Int := if vF x = true then (rndX x, 0) else (0, 1)
def clmX (x lo hi : Int) : Int := if x ≤ hi then (if lo ≤ x then x else lo) else (if lo ≤ hi then hi else lo)
def clmR (x lo hi : Int) : Int × Int := if [x, lo, hi].all vF = true then (if lo ≤ hi then (clmX x lo hi, 0) else (0, 1)) else (0, 1)
theorem clmX_eq {x lo hi : Int} (h : lo ≤ hi) : clmX x lo hi = max lo (min x hi) := by
  unfold clmX
  repeat' split
  all_goals omega
theorem ret_pair {R : Int × Int} {a b : Int} (h : R = (a, b)) : Ending.returned (.tuple #[.int .i64 a, .int .i64 b]) = .returned (.tuple #[.int .i64 R.1, .int .i64 R.2]) := by rw [h]
theorem all2 {a b : Int} (h : [a, b].all vF = true) : (-274877906944 ≤ a ∧ a ≤ 274877906944) ∧ -274877906944 ≤ b ∧ b ≤ 274877906944 := by
  simp at h; exact ⟨vF_iff h.1, vF_iff h.2⟩
theorem all3 {a b c : Int} (h : [a, b, c].all vF = true) : (-274877906944 ≤ a ∧ a ≤ 274877906944) ∧ (-274877906944 ≤ b ∧ b ≤ 274877906944) ∧ -274877906944 ≤ c ∧ c ≤ 274877906944 := by
  simp at h; exact ⟨vF_iff h.1, vF_iff h.2.1, vF_iff h.2.2⟩
theorem all1 {a : Int} (h : [a].all vF = true) : vF a = true := by simpa using h
theorem all1n {a : Int} (h : [a].all vF = false) : vF a = false := by simpa using h
theorem absI_bd {a N : Int} (h1 : -N ≤ a) (h2 : a ≤ N) : absI a ≤ N := by unfold absI; split <;> omega
theorem absI_0 {a : Int} (h : a ≠ 0) : 0 < absI a := by unfold absI; split <;> omega
theorem mul_le38 {p q : Int} (h0 : 0 ≤ p) (hp : p ≤ 274877906944) (h1 : 0 ≤ q) (hq : q ≤ 274877906944) : 0 ≤ p * q ∧ p * q ≤ 75557863725914323419136 := by
  have e1 := Int.mul_nonneg h0 h1
  have e2 : 0 ≤ (274877906944 - p) * q := Int.mul_nonneg (by omega) h1
  simp only [Int.sub_mul] at e2
  omega
theorem rd16_bd {x : Int} (h0 : 0 ≤ x) (h1 : x ≤ 75557863725914323419136) : 0 ≤ rdN x 65536 ∧ rdN x 65536 ≤ 2305843009213693952 := by
  unfold rdN; split <;> omega
theorem sg_bd {a b n N : Int} (h0 : 0 ≤ n) (h : n ≤ N) : -N ≤ sg a b n ∧ sg a b n ≤ N := by unfold sg; split <;> omega
theorem enter35 (args : Array Value) (w : World) : (callFunc 35 args).run Tryd.prog w = .ok (.enter 35 args) w := (enters_of Tryd.func35 (by kernel_rfl) rfl) args w
theorem enter52 (args : Array Value) (w : World) : (callFunc 52 args).run Tryd.prog w = .ok (.enter 52 args) w := (enters_of Tryd.func52 (by kernel_rfl) rfl) args w
set_option maxHeartbeats 1000000 in
theorem add17 (a b : Int) (w : World) : Calls Tryd.prog 17 #[.int .i64 a, .int .i64 b] w fun e w' => e = .returned (.tuple #[.int .i64 (rA [a, b] (a + b)).1, .int .i64 (rA [a, b] (a + b)).2]) ∧ Below w.heap.size w w' := by
  cases hv : [a, b].all vF with
  | false =>
    have HR : Hid (rA [a, b] (a + b) = (0, 1)) := Lib.hid (by unfold rA; rw [if_neg (by rw [hv]; decide)])
    have H1 := Lib.hid hv
    clear hv
    go_enter Tryd.func17, Tryd.ntmps17
    go_wp2_with fail
    refine (valid_new [a, b] _ _ _ rfl 2 rfl (by omega) _ rfl).mono ?_
    rintro e w1 ⟨rfl, rfl⟩
    rw [H1.out]
    go_wp2_with fail
    go_ret2
    exact ⟨ret_pair HR.out, (Below.refl _ _).alloc (Nat.le_refl _) _⟩
  | true =>
    have HR : Hid (rA [a, b] (a + b) = (fitV (a + b), fitE (a + b))) := Lib.hid (by unfold rA; rw [if_pos hv])
    obtain ⟨⟨a0, a1⟩, b0, b1⟩ := all2 hv
    have H1 := Lib.hid hv
    clear hv
    go_enter Tryd.func17, Tryd.ntmps17
    go_wp2_with fail
    refine (valid_new [a, b] _ _ _ rfl 2 rfl (by omega) _ rfl).mono ?_
    rintro e w1 ⟨rfl, rfl⟩
    rw [H1.out]
    go_wp2_with fail
    refine (fit37 _ _).mono ?_
    rintro e w2 ⟨rfl, hb2⟩
    go_wp2_with fail
    go_ret2
    exact ⟨ret_pair HR.out, ((Below.refl _ _).alloc (Nat.le_refl _) _).trans (hb2.mono (by simp))⟩
set_option maxHeartbeats 1000000 in
theorem sub18 (a b : Int) (w : World) : Calls Tryd.prog 18 #[.int .i64 a, .int .i64 b] w fun e w' => e = .returned (.tuple #[.int .i64 (rA [a, b] (a - b)).1, .int .i64 (rA [a, b] (a - b)).2]) ∧ Below w.heap.size w w' := by
  cases hv : [a, b].all vF with
  | false =>
    have HR : Hid (rA [a, b] (a - b) = (0, 1)) := Lib.hid (by unfold rA; rw [if_neg (by rw [hv]; decide)])
    have H1 := Lib.hid hv
    clear hv
    go_enter Tryd.func18, Tryd.ntmps18
    go_wp2_with fail
    refine (valid_new [a, b] _ _ _ rfl 2 rfl (by omega) _ rfl).mono ?_
    rintro e w1 ⟨rfl, rfl⟩
    rw [H1.out]
    go_wp2_with fail
    go_ret2
    exact ⟨ret_pair HR.out, (Below.refl _ _).alloc (Nat.le_refl _) _⟩
  | true =>
    have HR : Hid (rA [a, b] (a - b) = (fitV (a - b), fitE (a - b))) := Lib.hid (by unfold rA; rw [if_pos hv])
    obtain ⟨⟨a0, a1⟩, b0, b1⟩ := all2 hv
    have H1 := Lib.hid hv
    clear hv
    go_enter Tryd.func18, Tryd.ntmps18
    go_wp2_with fail
    refine (valid_new [a, b] _ _ _ rfl 2 rfl (by omega) _ rfl).mono ?_
    rintro e w1 ⟨rfl, rfl⟩
    rw [H1.out]
    go_wp2_with fail
    refine (fit37 _ _).mono ?_
    rintro e w2 ⟨rfl, hb2⟩
    go_wp2_with fail
    go_ret2
    exact ⟨ret_pair HR.out, ((Below.refl _ _).alloc (Nat.le_refl _) _).trans (hb2.mono (by simp))⟩
set_option maxHeartbeats 1000000 in
theorem divide39 (a b : Int) (w : World) (a0 : -1099511627776 ≤ a) (a1 : a ≤ 1099511627776) (b0 : -1099511627776 ≤ b) (b1 : b ≤ 1099511627776) (hb : b ≠ 0) : Calls Tryd.prog 39 #[.int .i64 a, .int .i64 b] w fun e w' => e = .returned (.tuple #[.int .i64 (fitV (divX a b)), .int .i64 (fitE (divX a b))]) ∧ Below w.heap.size w w' := by
  have p0 := absI_nn a
  have p1 := absI_bd a0 a1
  have q0 := absI_0 hb
  have q1 := absI_bd b0 b1
  have n0 := (rdN_bd (p := absI a * 65536) (q := absI b) (by omega) q0).1
  have n1 : rdN (absI a * 65536) (absI b) ≤ 2305843009213693952 := by have := (rdN_bd (p := absI a * 65536) (q := absI b) (by omega) q0).2; omega
  have HD := Lib.hid fun w => div52 (absI a) (absI b) w p0 p1 q0 q1
  have HX : Hid (sg a b (rdN (absI a * 65536) (absI b)) = divX a b) := Lib.hid rfl
  go_enter Tryd.func39, Tryd.ntmps39
  go_wp2_with fail
  refine (signed38 52 _).mono ?_
  rintro e w1 ⟨rfl, rfl⟩
  go_wp2_with fail
  refine (signed51 52 a b _ w.heap.size (w.heap.size + 1) _ (by simp [go_sem]) (by simp [go_sem]) enter52 HD.out a0 a1 b0 b1 n0 n1).mono ?_
  rintro e w2 ⟨rfl, n, rfl⟩
  rw [HX.out]
  go_wp2_with fail
  refine (fit37 _ _).mono ?_
  rintro e w3 ⟨rfl, hb3⟩
  go_wp2_with fail
  go_ret2
  exact ⟨rfl, (below_drewN (((Below.refl _ _).alloc (Nat.le_refl _) _).alloc (by simp) _) n).trans (hb3.mono (by simp; omega))⟩
set_option maxHeartbeats 1000000 in
theorem mul12 (a b : Int) (w : World) : Calls Tryd.prog 12 #[.int .i64 a, .int .i64 b] w fun e w' => e = .returned (.tuple #[.int .i64 (rA [a, b] (mulX a b)).1, .int .i64 (rA [a, b] (mulX a b)).2]) ∧ Below w.heap.size w w' := by
  cases hv : [a, b].all vF with
  | false =>
    have HR : Hid (rA [a, b] (mulX a b) = (0, 1)) := Lib.hid (by unfold rA; rw [if_neg (by rw [hv]; decide)])
    have H1 := Lib.hid hv
    clear hv
    go_enter Tryd.func12, Tryd.ntmps12
    go_wp2_with fail
    refine (valid_new [a, b] _ _ _ rfl 2 rfl (by omega) _ rfl).mono ?_
    rintro e w1 ⟨rfl, rfl⟩
    rw [H1.out]
    go_wp2_with fail
    go_ret2
    exact ⟨ret_pair HR.out, (Below.refl _ _).alloc (Nat.le_refl _) _⟩
  | true =>
    have HR : Hid (rA [a, b] (mulX a b) = (fitV (mulX a b), fitE (mulX a b))) := Lib.hid (by unfold rA; rw [if_pos hv])
    obtain ⟨⟨a0, a1⟩, b0, b1⟩ := all2 hv
    have H1 := Lib.hid hv
    clear hv
    have p0 := absI_nn a
    have p1 := absI_bd a0 a1
    have q0 := absI_nn b
    have q1 := absI_bd b0 b1
    have m0 := mul_le38 p0 p1 q0 q1
    obtain ⟨n0, n1⟩ := rd16_bd m0.1 m0.2
    clear m0
    have HD := Lib.hid fun w => (mul35' (absI a) (absI b) w p0 p1 q0 q1).mono fun e w' h => (⟨h.1, ⟨0, h.2⟩⟩ : _ ∧ DrN w w')
    have HX : Hid (sg a b (rdN (absI a * absI b) 65536) = mulX a b) := Lib.hid rfl
    go_enter Tryd.func12, Tryd.ntmps12
    go_wp2_with fail
    refine (valid_new [a, b] _ _ _ rfl 2 rfl (by omega) _ rfl).mono ?_
    rintro e w1 ⟨rfl, rfl⟩
    rw [H1.out]
    go_wp2_with fail
    refine (signed38 35 _).mono ?_
    rintro e w1 ⟨rfl, rfl⟩
    go_wp2_with fail
    refine (signed51 35 a b _ (w.heap.size + 1) (w.heap.size + 1 + 1) _ (by simp [go_sem]) (by simp [go_sem]) enter35 HD.out (by omega) (by omega) (by omega) (by omega) n0 n1).mono ?_
    rintro e w2 ⟨rfl, n, rfl⟩
    rw [HX.out]
    go_wp2_with fail
    refine (fit37 _ _).mono ?_
    rintro e w3 ⟨rfl, hb3⟩
    go_wp2_with fail
    go_ret2
    exact ⟨ret_pair HR.out, (below_drewN ((((Below.refl _ _).alloc (Nat.le_refl _) _).alloc (by simp) _).alloc (by simp; omega) _) n).trans (hb3.mono (by simp; omega))⟩
set_option maxHeartbeats 1000000 in
theorem div13 (a b : Int) (w : World) : Calls Tryd.prog 13 #[.int .i64 a, .int .i64 b] w fun e w' => e = .returned (.tuple #[.int .i64 (divR a b).1, .int .i64 (divR a b).2]) ∧ Below w.heap.size w w' := by
  cases hv : [a, b].all vF with
  | false =>
    have HR : Hid (divR a b = (0, 1)) := Lib.hid (by unfold divR; rw [if_neg (by rw [hv]; decide)])
    have H1 := Lib.hid hv
    clear hv
    go_enter Tryd.func13, Tryd.ntmps13
    go_wp2_with fail
    refine (valid_new [a, b] _ _ _ rfl 2 rfl (by omega) _ rfl).mono ?_
    rintro e w1 ⟨rfl, rfl⟩
    rw [H1.out]
    go_wp2_with fail
    go_ret2
    exact ⟨ret_pair HR.out, (Below.refl _ _).alloc (Nat.le_refl _) _⟩
  | true =>
    obtain ⟨⟨a0, a1⟩, b0, b1⟩ := all2 hv
    by_cases hb : b = 0
    · have HR : Hid (divR a b = (0, 14)) := Lib.hid (by unfold divR; rw [if_pos hv, if_pos hb])
      have H1 := Lib.hid hv
      have HB := Lib.hid hb
      have hb0 : (b == 0) = true := by simp [hb]
      clear hv hb
      go_enter Tryd.func13, Tryd.ntmps13
      go_wp2_with fail
      refine (valid_new [a, b] _ _ _ rfl 2 rfl (by omega) _ rfl).mono ?_
      rintro e w1 ⟨rfl, rfl⟩
      rw [H1.out]
      go_wp2_with fail
      go_ret2
      exact ⟨ret_pair HR.out, (Below.refl _ _).alloc (Nat.le_refl _) _⟩
    · have HR : Hid (divR a b = (fitV (divX a b), fitE (divX a b))) := Lib.hid (by unfold divR; rw [if_pos hv, if_neg hb])
      have H1 := Lib.hid hv
      have HB := Lib.hid hb
      have hb0 : (b == 0) = false := by simp [hb]
      clear hv hb
      go_enter Tryd.func13, Tryd.ntmps13
      go_wp2_with fail
      refine (valid_new [a, b] _ _ _ rfl 2 rfl (by omega) _ rfl).mono ?_
      rintro e w1 ⟨rfl, rfl⟩
      rw [H1.out]
      go_wp2_with fail
      refine (divide39 a b _ (by omega) (by omega) (by omega) (by omega) HB.out).mono ?_
      rintro e w2 ⟨rfl, hb2⟩
      go_wp2_with fail
      go_ret2
      exact ⟨ret_pair HR.out, ((Below.refl _ _).alloc (Nat.le_refl _) _).trans (hb2.mono (by simp))⟩
set_option maxHeartbeats 1000000 in
theorem floor14 (a : Int) (w : World) : Calls Tryd.prog 14 #[.int .i64 a] w fun e w' => e = .returned (.tuple #[.int .i64 (flrR a).1, .int .i64 (flrR a).2]) ∧ Below w.heap.size w w' := by
  cases hv : [a].all vF with
  | false =>
    have HR : Hid (flrR a = (0, 1)) := Lib.hid (by unfold flrR; rw [if_neg (by rw [all1n hv]; decide)])
    have H1 := Lib.hid hv
    clear hv
    go_enter Tryd.func14, Tryd.ntmps14
    go_wp2_with fail
    refine (valid_new [a] _ _ _ rfl 1 rfl (by omega) _ rfl).mono ?_
    rintro e w1 ⟨rfl, rfl⟩
    rw [H1.out]
    go_wp2_with fail
    go_ret2
    exact ⟨ret_pair HR.out, (Below.refl _ _).alloc (Nat.le_refl _) _⟩
  | true =>
    have HR : Hid (flrR a = (a / 65536, 0)) := Lib.hid (by unfold flrR; rw [if_pos (all1 hv)])
    obtain ⟨a0, a1⟩ := vF_iff (all1 hv)
    have H1 := Lib.hid hv
    clear hv
    go_enter Tryd.func14, Tryd.ntmps14
    go_wp2_with fail
    refine (valid_new [a] _ _ _ rfl 1 rfl (by omega) _ rfl).mono ?_
    rintro e w1 ⟨rfl, rfl⟩
    rw [H1.out]
    go_wp2_with fail
    go_ret2
    exact ⟨ret_pair HR.out, (Below.refl _ _).alloc (Nat.le_refl _) _⟩
set_option maxHeartbeats 1000000 in
theorem round15 (a : Int) (w : World) : Calls Tryd.prog 15 #[.int .i64 a] w fun e w' => e = .returned (.tuple #[.int .i64 (rndR a).1, .int .i64 (rndR a).2]) ∧ Below w.heap.size w w' := by
  cases hv : [a].all vF with
  | false =>
    have HR : Hid (rndR a = (0, 1)) := Lib.hid (by unfold rndR; rw [if_neg (by rw [all1n hv]; decide)])
    have H1 := Lib.hid hv
    clear hv
    go_enter Tryd.func15, Tryd.ntmps15
    go_wp2_with fail
    refine (valid_new [a] _ _ _ rfl 1 rfl (by omega) _ rfl).mono ?_
    rintro e w1 ⟨rfl, rfl⟩
    rw [H1.out]
    go_wp2_with fail
    go_ret2
    exact ⟨ret_pair HR.out, (Below.refl _ _).alloc (Nat.le_refl _) _⟩
  | true =>
    obtain ⟨a0, a1⟩ := vF_iff (all1 hv)
    by_cases ha : a < 0
    · have HR : Hid (rndR a = (-rdN (-a) 65536, 0)) := Lib.hid (by unfold rndR rndX; rw [if_pos (all1 hv), if_pos ha])
      have H1 := Lib.hid hv
      have n0 := rdN_bd (p := -a) (q := 65536) (by omega) (by omega)
      clear hv
      go_enter Tryd.func15, Tryd.ntmps15
      go_wp2_with fail
      refine (valid_new [a] _ _ _ rfl 1 rfl (by omega) _ rfl).mono ?_
      rintro e w1 ⟨rfl, rfl⟩
      rw [H1.out]
      go_wp2_with fail
      refine (rounded40 (-a) 65536 _ (by omega) (by omega) (by omega) (by omega)).mono ?_
      rintro e w2 ⟨rfl, n, rfl⟩
      go_wp2_with fail
      go_ret2
      exact ⟨ret_pair HR.out, below_drewN ((Below.refl _ _).alloc (Nat.le_refl _) _) n⟩
    · have HR : Hid (rndR a = (rdN a 65536, 0)) := Lib.hid (by unfold rndR rndX; rw [if_pos (all1 hv), if_neg ha])
      have H1 := Lib.hid hv
      have n0 := rdN_bd (p := a) (q := 65536) (by omega) (by omega)
      clear hv
      go_enter Tryd.func15, Tryd.ntmps15
      go_wp2_with fail
      refine (valid_new [a] _ _ _ rfl 1 rfl (by omega) _ rfl).mono ?_
      rintro e w1 ⟨rfl, rfl⟩
      rw [H1.out]
      go_wp2_with fail
      refine (rounded40 a 65536 _ (by omega) (by omega) (by omega) (by omega)).mono ?_
      rintro e w2 ⟨rfl, n, rfl⟩
      go_wp2_with fail
      go_ret2
      exact ⟨ret_pair HR.out, below_drewN ((Below.refl _ _).alloc (Nat.le_refl _) _) n⟩
set_option maxHeartbeats 1000000 in
theorem clamp16 (a b c : Int) (w : World) : Calls Tryd.prog 16 #[.int .i64 a, .int .i64 b, .int .i64 c] w fun e w' => e = .returned (.tuple #[.int .i64 (clmR a b c).1, .int .i64 (clmR a b c).2]) ∧ Below w.heap.size w w' := by
  cases hv : [a, b, c].all vF with
  | false =>
    have HR : Hid (clmR a b c = (0, 1)) := Lib.hid (by unfold clmR; rw [if_neg (by rw [hv]; decide)])
    have H1 := Lib.hid hv
    clear hv
    go_enter Tryd.func16, Tryd.ntmps16
    go_wp2_with fail
    refine (valid_new [a, b, c] _ _ _ rfl 3 rfl (by omega) _ rfl).mono ?_
    rintro e w1 ⟨rfl, rfl⟩
    rw [H1.out]
    go_wp2_with fail
    go_ret2
    exact ⟨ret_pair HR.out, (Below.refl _ _).alloc (Nat.le_refl _) _⟩
  | true =>
    obtain ⟨⟨a0, a1⟩, ⟨b0, b1⟩, c0, c1⟩ := all3 hv
    by_cases hb : b ≤ c
    · have HR : Hid (clmR a b c = (max b (min a c), 0)) := Lib.hid (by unfold clmR; rw [if_pos hv, if_pos hb, clmX_eq hb])
      have H1 := Lib.hid hv
      clear hv
      go_enter Tryd.func16, Tryd.ntmps16
      go_wp2_with fail
      refine (valid_new [a, b, c] _ _ _ rfl 3 rfl (by omega) _ rfl).mono ?_
      rintro e w1 ⟨rfl, rfl⟩
      rw [H1.out]
      go_wp2_with fail
      go_ret2
      exact ⟨ret_pair HR.out, (Below.refl _ _).alloc (Nat.le_refl _) _⟩
    · have HR : Hid (clmR a b c = (0, 1)) := Lib.hid (by unfold clmR; rw [if_pos hv, if_neg hb])
      have H1 := Lib.hid hv
      clear hv
      go_enter Tryd.func16, Tryd.ntmps16
      go_wp2_with fail
      refine (valid_new [a, b, c] _ _ _ rfl 3 rfl (by omega) _ rfl).mono ?_
      rintro e w1 ⟨rfl, rfl⟩
      rw [H1.out]
      go_wp2_with fail
      go_ret2
      exact ⟨ret_pair HR.out, (Below.refl _ _).alloc (Nat.le_refl _) _⟩
set_option maxHeartbeats 1000000 in
theorem from31 (a : Int) (w : World) : Calls Tryd.prog 31 #[.int .i64 a] w fun e w' => e = .returned (.tuple #[.int .i64 (froR a).1, .int .i64 (froR a).2]) ∧ Below w.heap.size w w' := by
  by_cases h1 : -4194304 ≤ a <;> by_cases h2 : a ≤ 4194304
  · have HR : Hid (froR a = (a * 65536, 0)) := Lib.hid (by unfold froR; rw [if_pos ⟨h1, h2⟩])
    go_enter Tryd.func31, Tryd.ntmps31
    go_wp2_with fail
    go_ret2
    exact ⟨ret_pair HR.out, Below.refl _ _⟩
  all_goals
    have HR : Hid (froR a = (0, 7)) := Lib.hid (by unfold froR; rw [if_neg (by omega)])
    go_enter Tryd.func31, Tryd.ntmps31
    go_wp2_with fail
    go_ret2
    exact ⟨ret_pair HR.out, Below.refl _ _⟩
theorem okR_iff {p q : Int} (h : okR p q = true) : ((-1099511627776 ≤ p ∧ p ≤ 1099511627776) ∧ -1099511627776 ≤ q) ∧ q ≤ 1099511627776 := by simpa [okR] using h
theorem okR_f {p q : Int} (h : ¬ (((-1099511627776 ≤ p ∧ p ≤ 1099511627776) ∧ -1099511627776 ≤ q) ∧ q ≤ 1099511627776)) : okR p q = false := by
  cases e : okR p q with
  | false => rfl
  | true => exact absurd (okR_iff e) h
set_option maxHeartbeats 1000000 in
theorem ratio32 (a b : Int) (w : World) : Calls Tryd.prog 32 #[.int .i64 a, .int .i64 b] w fun e w' => e = .returned (.tuple #[.int .i64 (ratR a b).1, .int .i64 (ratR a b).2]) ∧ Below w.heap.size w w' := by
  cases hv : okR a b with
  | false =>
    have HR : Hid (ratR a b = (0, 1)) := Lib.hid (by unfold ratR; rw [if_neg (by rw [hv]; decide)])
    have hn : ¬ (((-1099511627776 ≤ a ∧ a ≤ 1099511627776) ∧ -1099511627776 ≤ b) ∧ b ≤ 1099511627776) := fun h => by simp [okR, h] at hv
    clear hv
    by_cases h1 : -1099511627776 ≤ a
    · by_cases h2 : a ≤ 1099511627776
      · by_cases h3 : -1099511627776 ≤ b
        · have h4 : 1099511627776 < b := by omega
          clear hn
          go_enter Tryd.func32, Tryd.ntmps32
          go_wp2_with fail
          go_ret2
          exact ⟨ret_pair HR.out, Below.refl _ _⟩
        · clear hn
          go_enter Tryd.func32, Tryd.ntmps32
          go_wp2_with fail
          go_ret2
          exact ⟨ret_pair HR.out, Below.refl _ _⟩
      · clear hn
        go_enter Tryd.func32, Tryd.ntmps32
        go_wp2_with fail
        go_ret2
        exact ⟨ret_pair HR.out, Below.refl _ _⟩
    · clear hn
      go_enter Tryd.func32, Tryd.ntmps32
      go_wp2_with fail
      go_ret2
      exact ⟨ret_pair HR.out, Below.refl _ _⟩
  | true =>
    obtain ⟨⟨⟨a0, a1⟩, b0⟩, b1⟩ := okR_iff hv
    by_cases hb : b = 0
    · have HR : Hid (ratR a b = (0, 14)) := Lib.hid (by unfold ratR; rw [if_pos hv, if_pos hb])
      have hb0 : (b == 0) = true := by simp [hb]
      clear hv hb
      go_enter Tryd.func32, Tryd.ntmps32
      go_wp2_with fail
      go_ret2
      exact ⟨ret_pair HR.out, Below.refl _ _⟩
    · have HR : Hid (ratR a b = (fitV (divX a b), fitE (divX a b))) := Lib.hid (by unfold ratR; rw [if_pos hv, if_neg hb])
      have HB := Lib.hid hb
      have hb0 : (b == 0) = false := by simp [hb]
      clear hv hb
      go_enter Tryd.func32, Tryd.ntmps32
      go_wp2_with fail
      refine (divide39 a b _ (by omega) (by omega) (by omega) (by omega) HB.out).mono ?_
      rintro e w2 ⟨rfl, hb2⟩
      go_wp2_with fail
      go_ret2
      exact ⟨ret_pair HR.out, hb2⟩
end Go.Proofs.YtmalpalepaomdaaDoor
