/- Package fixed: Text. -/
import Derived.Test.YtmalpalepaomdaaDoorRows
import Derived.WalkKit
import Derived.WalkLawsBesides
import Derived.WalkSpells
import Derived.ProofKit
import Derived.Below
import Derived.Outline
import Derived.Lib.Hide
import Derived.Deep.RegionWith
import Derived.Deep.RegionHeld3
import Derived.Deep.DrawnRows
import Derived.StillTailTactics
import Derived.BigQuiet
import Derived.Deep.QuietTactic
import Derived.Deep.LoopGhost
import Derived.IntWalk
import Derived.Laws.BitsAllLaws
import Derived.Laws.Runes
import Derived.Lib.ItoaNum
import Derived.Lib.LaidTab
import Derived.Lib.AppendIntMem
import Derived.Test.YtmalpalepaomdaaDoorFxD
namespace Go.Proofs.YtmalpalepaomdaaDoor
open Go.RowKit
attribute [local go_sem ↓] Go.wp_at_zero Go.wp_at_succ
attribute [local go_sem] wrap_lit
abbrev S (l : List UInt8) : ByteArray := ⟨l.toArray⟩
theorem S_app (l m : List UInt8) : S l ++ S m = S (l ++ m) := by
  apply ByteArray.ext
  rw [ByteArray.data_append]
  simp
def dig (d : Nat) : UInt8 := UInt8.ofNat (48 + d)
/-- The digits of a fraction n / 65536, one after the other. -/
def frD : Nat → Nat → List UInt8
  | 0, _ => []
  | f + 1, n => if n = 0 then [] else dig (n * 10 / 65536) :: frD f (n * 10 % 65536)
def txt2 (q r : Nat) : List UInt8 := Lib.decDigits q ++ (if r = 0 then [] else 46 :: frD 16 r)
def txt (y : Int) : List UInt8 := txt2 (y / 65536).toNat (y % 65536).toNat
def txL (x : Int) : List UInt8 := if x < 0 then 45 :: txt (-x) else txt x
def txV (x : Int) : ByteArray := if vF x = true then S (txL x) else S []
def txE (x : Int) : Int := if vF x = true then 0 else 1
theorem itoa_nn (n : Nat) : Lib.itoa (n : Int) = Lib.decDigits n := by unfold Lib.itoa; rw [if_neg (by omega)]; simp
theorem ret_si {a b : ByteArray} {m n : Int} (h : a = b) (h' : m = n) : Ending.returned (.tuple #[.string a, .int .i64 m]) = .returned (.tuple #[.string b, .int .i64 n]) := by rw [h, h']
def Tab (w : World) : Prop := Lib.TabIs Tryd.prog w "internal/strconv.uint64pow10" .u64 Lib.pow10Tab
theorem low16 (y : Int) : bits .and .i64 y 65535 = y % 65536 := by
  have h16 : (BitVec.ofInt 64 65535).toNat = 2 ^ 16 - 1 := by decide
  have key : (BitVec.ofInt 64 y &&& BitVec.ofInt 64 65535).toNat = (y % ((2 ^ 64 : Nat) : Int)).toNat % 2 ^ 16 := by
    rw [BitVec.toNat_and, BitVec.toNat_ofInt, h16, Nat.and_two_pow_sub_one_eq_mod]
  show IntKind.i64.wrap ((BitVec.ofInt 64 y &&& BitVec.ofInt 64 65535).toNat : Nat) = _
  rw [key, IntKind.wrap_i64]
  omega
theorem var_below {P : Program} {w w' : World} {n : String} {cs : Array Value} (h : w.var? P n = some cs) (hb : Below w.heap.size w w') : w'.var? P n = some cs := by
  unfold World.var? at h ⊢
  cases hg : P.globalNamed n with
  | none => rw [hg] at h; cases h
  | some g =>
    rw [hg] at h
    simp only [Option.bind_some] at h ⊢
    have hlt : g < w.heap.size := by
      rcases Nat.lt_or_ge g w.heap.size with h' | h'
      · exact h'
      · rw [Array.getElem?_eq_none h'] at h; cases h
    rw [hb.block g hlt]
    exact h
theorem Tab.below {w w' : World} (h : Tab w) (hb : Below w.heap.size w w') : Tab w' := var_below h hb
theorem fmt46 (n : Nat) (w : World) (hn : n ≤ 9223372036854775807) (ht : Tab w) : Calls Tryd.prog 46 #[.int .i64 n, .int .i64 10] w fun e w' => e = .returned (.string (S (Lib.decDigits n))) ∧ Below w.heap.size w w' := by
  refine (Tryd.strconv_FormatInt_10 n (by omega) (by omega) w ht).mono ?_
  rintro e w' ⟨rfl, k, os, rfl⟩
  rw [itoa_nn]
  exact ⟨rfl, Lib.below_grow _ _ (Nat.le_refl _) _ _⟩
theorem S_nil (l : List UInt8) : (⟨#[]⟩ : ByteArray) ++ S l = S l := S_app [] l
theorem S_dot (l : List UInt8) : S l ++ (⟨#[46]⟩ : ByteArray) = S (l ++ [46]) := S_app l [46]
theorem S_minus (l : List UInt8) : (⟨#[45]⟩ : ByteArray) ++ S l = S (45 :: l) := S_app [45] l
theorem S_size (l : List UInt8) : (S l).size = l.length := by simp [ByteArray.size]
attribute [local go_sem] S_nil S_dot S_minus S_app S_size
theorem dd_len : ∀ (k n : Nat), 1 ≤ k → n < 10 ^ k → (Lib.decDigits n).length ≤ k
  | 0, _, h, _ => absurd h (by omega)
  | 1, n, _, h => by unfold Lib.decDigits; rw [dif_pos (by omega)]; simp
  | k + 2, n, _, h => by
    unfold Lib.decDigits
    split
    · simp
    · have := dd_len (k + 1) (n / 10) (by omega) (by rw [Nat.pow_succ] at h; omega)
      simp
      omega
theorem dvd_step {k n : Nat} (hk : k < 16) (h : 2 ^ k ∣ n) : 2 ^ (k + 1) ∣ n * 10 % 65536 := by
  have h2 : 2 ^ (k + 1) ∣ 65536 := by
    have : (65536 : Nat) = 2 ^ 16 := by decide
    rw [this]; exact Nat.pow_dvd_pow 2 (by omega)
  rw [Nat.dvd_mod_iff h2]
  obtain ⟨m, rfl⟩ := h
  exact ⟨m * 5, by rw [Nat.pow_succ]; simp only [Nat.mul_assoc]; congr 1; omega⟩
theorem dvd_end {n : Nat} (h : 2 ^ 16 ∣ n) (hn : n < 65536) : n = 0 := Nat.eq_zero_of_dvd_of_lt h hn
def szOf : Value → Nat
  | .string b => b.size
  | _ => 0
theorem enc_dig (n : Nat) (h : n < 10) : Utf8.encode (48 + (n : Int)) = S [dig n] := by
  rcases (by omega : n = 0 ∨ n = 1 ∨ n = 2 ∨ n = 3 ∨ n = 4 ∨ n = 5 ∨ n = 6 ∨ n = 7 ∨ n = 8 ∨ n = 9) with rfl | rfl | rfl | rfl | rfl | rfl | rfl | rfl | rfl | rfl <;> decide
set_option maxHeartbeats 2000000 in
theorem text27p (y : Int) (q r : Nat) (w : World) (ht : Tab w) (h0 : 0 ≤ y) (h1 : y ≤ 274877906944) (hq : y / 65536 = q) (hl : bits .and .i64 y 65535 = r) (hq1 : q ≤ 4194304) (hr1 : r < 65536) : Calls Tryd.prog 27 #[.int .i64 y] w fun e w' => e = .returned (.tuple #[.string (S (txt2 q r)), .int .i64 0]) ∧ Below w.heap.size w w' := by
  have hv : [y].all vF = true := by simp; exact vF_t (by omega) (by omega)
  have H1 := Lib.hid hv
  clear hv
  have HT := Lib.hid ht
  clear ht
  have HQ := Lib.hid hq
  have HL := Lib.hid hl
  clear hl hq
  go_enter Tryd.func27, Tryd.ntmps27
  go_wp2_with fail
  refine (valid_new [y] _ _ _ rfl 1 rfl (by omega) _ rfl).mono ?_
  rintro e w1 ⟨rfl, rfl⟩
  rw [H1.out]
  go_wp2_with fail
  rw [HQ.out]
  refine (fmt46 q _ (by omega) (HT.out.below ((Below.refl _ _).alloc (Nat.le_refl _) _))).mono ?_
  rintro e w2 ⟨rfl, hb2⟩
  have B2 : Below w.heap.size w w2 := ((Below.refl _ _).alloc (Nat.le_refl _) _).trans (hb2.mono (by simp))
  clear hb2
  have hl := HL.out
  have hL := dd_len 7 q (by omega) (by omega)
  by_cases hr : r = 0
  · have HX : Hid (txt2 q r = Lib.decDigits q) := Lib.hid (by unfold txt2; rw [if_pos hr]; simp)
    have hr0 : ((r : Int) != 0) = false := by simp [hr]
    clear hr
    go_wp2_with fail
    go_ret2
    exact ⟨ret_si (by rw [HX.out]) rfl, B2⟩
  · have HX : Hid ((Lib.decDigits q ++ [46]) ++ frD 16 r = txt2 q r) := Lib.hid (by unfold txt2; rw [if_neg hr]; simp)
    have hr0 : ((r : Int) != 0) = true := by simp [hr]
    clear hr
    obtain ⟨L, hLL⟩ : ∃ L, L = (Lib.decDigits q).length := ⟨_, rfl⟩
    have HLL := Lib.hid hLL
    rw [← hLL] at hL
    go_wp2_with fail
    clear hLL
    go_loop [5, 6] (fun s n => ∃ (k m : Nat) (l : List UInt8), k ≤ 16 ∧ l.length = L + 1 + k ∧ m < 65536 ∧ 2 ^ k ∣ m ∧ s = .string (S l) ∧ n = .int .i64 m ∧ Hid (l ++ frD (16 - k) m = txt2 q r)) (fun s _ => 30 - szOf s)
    case atStart => exact ⟨0, r, _, by omega, by simp; exact HLL.out.symm, hr1, ⟨r, by simp⟩, rfl, rfl, HX⟩
    case round =>
      obtain ⟨k, m, l, hk, hll, hm, hd, rfl, rfl, HI⟩ := hrel
      have HD := Lib.hid hd
      clear hd
      by_cases h0 : m = 0
      · have HE : Hid (txt2 q r = l) := Lib.hid (by rw [← HI.out, h0]; cases 16 - k <;> simp [frD])
        have hm0 : ((m : Int) != 0) = false := by simp [h0]
        clear h0
        go_wp2_with fail
        go_ret2
        exact ⟨ret_si (by rw [HE.out]) rfl, B2⟩
      · have hk16 : k < 16 := by
          rcases Nat.lt_or_ge k 16 with h | h
          · exact h
          · obtain rfl : k = 16 := by omega
            exact absurd (dvd_end HD.out hm) h0
        have hm0 : ((m : Int) != 0) = true := by simp [h0]
        obtain ⟨d, hd⟩ : ∃ d, d = m * 10 / 65536 := ⟨_, rfl⟩
        obtain ⟨m', hm'⟩ : ∃ m', m' = m * 10 % 65536 := ⟨_, rfl⟩
        have hd1 : d < 10 := by omega
        have hdi : (m : Int) * 10 / 65536 = d := by omega
        have hmi : bits .and .i64 ((m : Int) * 10) 65535 = m' := by rw [low16]; omega
        have henc := enc_dig d hd1
        have HN : Hid ((l ++ [dig d]) ++ frD (16 - (k + 1)) m' = txt2 q r) := Lib.hid (by
          rw [← HI.out]
          have e : 16 - k = (16 - (k + 1)) + 1 := by omega
          rw [e, frD, if_neg h0, hd, hm', List.append_assoc]; rfl)
        have HD' := Lib.hid (hm' ▸ dvd_step hk16 HD.out : 2 ^ (k + 1) ∣ m')
        have hm1 : m' < 65536 := by omega
        clear h0 hd hm'
        go_wp2_with fail
        exact ⟨⟨k + 1, m', _, by omega, by simp; omega, hm1, HD'.out, rfl, rfl, HN⟩, by simp [szOf, ByteArray.size]; omega⟩
set_option maxHeartbeats 2000000 in
theorem text27n (y : Int) (q r : Nat) (w : World) (ht : Tab w) (h0 : 1 ≤ y) (h1 : y ≤ 274877906944) (hq : y / 65536 = q) (hl : bits .and .i64 y 65535 = r) (hq1 : q ≤ 4194304) (hr1 : r < 65536) : Calls Tryd.prog 27 #[.int .i64 (-y)] w fun e w' => e = .returned (.tuple #[.string (S (45 :: txt2 q r)), .int .i64 0]) ∧ Below w.heap.size w w' := by
  have hv : [-y].all vF = true := by simp; exact vF_t (by omega) (by omega)
  have H1 := Lib.hid hv
  clear hv
  have HT := Lib.hid ht
  clear ht
  have HQ := Lib.hid hq
  have HL := Lib.hid hl
  clear hl hq
  go_enter Tryd.func27, Tryd.ntmps27
  go_wp2_with fail
  refine (valid_new [-y] _ _ _ rfl 1 rfl (by omega) _ rfl).mono ?_
  rintro e w1 ⟨rfl, rfl⟩
  rw [H1.out]
  go_wp2_with fail
  rw [HQ.out]
  refine (fmt46 q _ (by omega) (HT.out.below ((Below.refl _ _).alloc (Nat.le_refl _) _))).mono ?_
  rintro e w2 ⟨rfl, hb2⟩
  have B2 : Below w.heap.size w w2 := ((Below.refl _ _).alloc (Nat.le_refl _) _).trans (hb2.mono (by simp))
  clear hb2
  have hl := HL.out
  have hL := dd_len 7 q (by omega) (by omega)
  by_cases hr : r = 0
  · have HX : Hid (45 :: txt2 q r = 45 :: Lib.decDigits q) := Lib.hid (by unfold txt2; rw [if_pos hr]; simp)
    have hr0 : ((r : Int) != 0) = false := by simp [hr]
    clear hr
    go_wp2_with fail
    go_ret2
    exact ⟨ret_si (by rw [HX.out]) rfl, B2⟩
  · have HX : Hid ((45 :: Lib.decDigits q ++ [46]) ++ frD 16 r = 45 :: txt2 q r) := Lib.hid (by unfold txt2; rw [if_neg hr]; simp)
    have hr0 : ((r : Int) != 0) = true := by simp [hr]
    clear hr
    obtain ⟨L, hLL⟩ : ∃ L, L = (Lib.decDigits q).length := ⟨_, rfl⟩
    have HLL := Lib.hid hLL
    rw [← hLL] at hL
    go_wp2_with fail
    clear hLL
    go_loop [5, 6] (fun s n => ∃ (k m : Nat) (l : List UInt8), k ≤ 16 ∧ l.length = L + 2 + k ∧ m < 65536 ∧ 2 ^ k ∣ m ∧ s = .string (S l) ∧ n = .int .i64 m ∧ Hid (l ++ frD (16 - k) m = 45 :: txt2 q r)) (fun s _ => 40 - szOf s)
    case atStart => exact ⟨0, r, _, by omega, by simp; exact HLL.out.symm, hr1, ⟨r, by simp⟩, rfl, rfl, HX⟩
    case round =>
      obtain ⟨k, m, l, hk, hll, hm, hd, rfl, rfl, HI⟩ := hrel
      have HD := Lib.hid hd
      clear hd
      by_cases h0 : m = 0
      · have HE : Hid (45 :: txt2 q r = l) := Lib.hid (by rw [← HI.out, h0]; cases 16 - k <;> simp [frD])
        have hm0 : ((m : Int) != 0) = false := by simp [h0]
        clear h0
        go_wp2_with fail
        go_ret2
        exact ⟨ret_si (by rw [HE.out]) rfl, B2⟩
      · have hk16 : k < 16 := by
          rcases Nat.lt_or_ge k 16 with h | h
          · exact h
          · obtain rfl : k = 16 := by omega
            exact absurd (dvd_end HD.out hm) h0
        have hm0 : ((m : Int) != 0) = true := by simp [h0]
        obtain ⟨d, hd⟩ : ∃ d, d = m * 10 / 65536 := ⟨_, rfl⟩
        obtain ⟨m', hm'⟩ : ∃ m', m' = m * 10 % 65536 := ⟨_, rfl⟩
        have hd1 : d < 10 := by omega
        have hdi : (m : Int) * 10 / 65536 = d := by omega
        have hmi : bits .and .i64 ((m : Int) * 10) 65535 = m' := by rw [low16]; omega
        have henc := enc_dig d hd1
        have HN : Hid ((l ++ [dig d]) ++ frD (16 - (k + 1)) m' = 45 :: txt2 q r) := Lib.hid (by
          rw [← HI.out]
          have e : 16 - k = (16 - (k + 1)) + 1 := by omega
          rw [e, frD, if_neg h0, hd, hm', List.append_assoc]; rfl)
        have HD' := Lib.hid (hm' ▸ dvd_step hk16 HD.out : 2 ^ (k + 1) ∣ m')
        have hm1 : m' < 65536 := by omega
        clear h0 hd hm'
        go_wp2_with fail
        exact ⟨⟨k + 1, m', _, by omega, by simp; omega, hm1, HD'.out, rfl, rfl, HN⟩, by simp [szOf, ByteArray.size]; omega⟩
theorem txt_eq {y : Int} (h0 : 0 ≤ y) : ∃ q r : Nat, y / 65536 = q ∧ bits .and .i64 y 65535 = r ∧ r < 65536 ∧ txt2 q r = txt y ∧ ((q : Int) = y / 65536) := by
  refine ⟨(y / 65536).toNat, (y % 65536).toNat, by omega, by rw [low16]; omega, by omega, rfl, by omega⟩
theorem text27 (x : Int) (w : World) (ht : Tab w) : Calls Tryd.prog 27 #[.int .i64 x] w fun e w' => e = .returned (.tuple #[.string (txV x), .int .i64 (txE x)]) ∧ Below w.heap.size w w' := by
  cases hv : vF x with
  | true =>
    obtain ⟨h0, h1⟩ := vF_iff hv
    have eE : txE x = 0 := by unfold txE; rw [if_pos hv]
    have eV : txV x = S (txL x) := by unfold txV; rw [if_pos hv]
    rw [eE, eV]
    by_cases hn : x < 0
    · have eL : txL x = 45 :: txt (-x) := by unfold txL; rw [if_pos hn]
      obtain ⟨q, r, a, b, c, d, e⟩ := txt_eq (y := -x) (by omega)
      have K := text27n (-x) q r w ht (by omega) (by omega) a b (by omega) c
      rw [Int.neg_neg, d, ← eL] at K
      exact K
    · have eL : txL x = txt x := by unfold txL; rw [if_neg hn]
      obtain ⟨q, r, a, b, c, d, e⟩ := txt_eq (y := x) (by omega)
      have K := text27p x q r w ht (by omega) (by omega) a b (by omega) c
      rw [d, ← eL] at K
      exact K
  | false =>
    have HE : Hid (txE x = 1) := Lib.hid (by unfold txE; rw [if_neg (by rw [hv]; decide)])
    have HV : Hid (txV x = S []) := Lib.hid (by unfold txV; rw [if_neg (by rw [hv]; decide)])
    have h1 : [x].all vF = false := by simp [hv]
    have H1 := Lib.hid h1
    clear h1 hv
    go_enter Tryd.func27, Tryd.ntmps27
    go_wp2_with fail
    refine (valid_new [x] _ _ _ rfl 1 rfl (by omega) _ rfl).mono ?_
    rintro e w1 ⟨rfl, rfl⟩
    rw [H1.out]
    go_wp2_with fail
    go_ret2
    exact ⟨ret_si HV.out.symm HE.out.symm, (Below.refl _ _).alloc (Nat.le_refl _) _⟩
end Go.Proofs.YtmalpalepaomdaaDoor
