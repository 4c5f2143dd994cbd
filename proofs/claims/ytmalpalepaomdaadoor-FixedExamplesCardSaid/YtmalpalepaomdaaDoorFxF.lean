/- The reference of fixed: digits, Text. -/
import Derived.Test.YtmalpalepaomdaaDoorRows
import Derived.WalkKit
import Derived.WalkLawsBesides
import Derived.WalkSpells
import Derived.ProofKit
import Derived.Below
import Derived.Outline
import Derived.Lib.Hide
import Derived.Deep.RegionWith
import Derived.Deep.RegionHeld3
import Derived.Deep.DrawnRows
import Derived.StillTailTactics
import Derived.BigQuiet
import Derived.Deep.QuietTactic
import Derived.Deep.LoopGhost
import Derived.IntWalk
import Derived.Test.YtmalpalepaomdaaDoorFxE
namespace Go.Proofs.YtmalpalepaomdaaDoor
open Go.RowKit
attribute [local go_sem ↓] Go.wp_at_zero Go.wp_at_succ
attribute [local go_sem] wrap_lit
attribute [local go_sem] S_nil S_dot S_minus S_app S_size
theorem dig_nat (d : Nat) (h : d < 10) : ((dig d).toNat : Int) = 48 + d := by
  rcases (by omega : d = 0 ∨ d = 1 ∨ d = 2 ∨ d = 3 ∨ d = 4 ∨ d = 5 ∨ d = 6 ∨ d = 7 ∨ d = 8 ∨ d = 9) with rfl | rfl | rfl | rfl | rfl | rfl | rfl | rfl | rfl | rfl <;> decide
theorem conv1 (W : World) (d : Nat) (h : d < 10) (T : TypeId) (n m : Nat) : (convert 64 9 (.slice (some ⟨W.heap.size, 0, none⟩) 1 1)).run Tryd.prog (W.alloc (.cells #[.int .u8 (48 + (d : Int))] T (n, m))) = .ok (.string (S [dig d])) (W.alloc (.cells #[.int .u8 (48 + (d : Int))] T (n, m))) :=
  run_convert_bytes_back (W.alloc (.cells #[.int .u8 (48 + (d : Int))] T (n, m))) _ _ _ ⟨W.heap.size, 0, none⟩ 1 [dig d] Tryd.underlying64 Tryd.underlying5 Tryd.underlying9 (fun j hj => by
    obtain rfl : j = 0 := by simpa using hj
    have e := heap_alloc_new W (.cells #[.int .u8 (48 + (d : Int))] T (n, m))
    rw [Addr.add, if_pos rfl]
    simp only [World.cell?]
    rw [e]
    simp [dig_nat d h])
theorem dd_step (n : Nat) (h : 0 < n / 10) : Lib.decDigits n = Lib.decDigits (n / 10) ++ [dig (n % 10)] := by
  rw [Lib.decDigits, dif_neg (by omega)]; rfl
theorem dd_one (n : Nat) (h : n / 10 = 0) : Lib.decDigits n = [dig (n % 10)] := by
  rw [Lib.decDigits, dif_pos (by omega)]
  have : n % 10 = n := by omega
  rw [this]; rfl
set_option maxHeartbeats 2000000 in
theorem digits45 (n : Nat) (w : World) (hn : n ≤ 1000000000) : Calls Tryd.prog 45 #[.int .i64 n] w fun e w' => e = .returned (.string (S (Lib.decDigits n))) ∧ Below w.heap.size w w' := by
  obtain ⟨d, hd⟩ : ∃ d, d = n % 10 := ⟨_, rfl⟩
  obtain ⟨q, hq⟩ : ∃ q, q = n / 10 := ⟨_, rfl⟩
  have hdi : (n : Int) % 10 = d := by omega
  have hqi : (n : Int) / 10 = q := by omega
  have hd1 : d < 10 := by omega
  have hq1 : q ≤ 100000000 := by omega
  have hcv := fun (W : World) (T : TypeId) (a b : Nat) => conv1 W d hd1 T a b
  have HQ := Lib.hid hq
  have HD := Lib.hid hd
  clear hq hd
  go_enter Tryd.func45, Tryd.ntmps45
  go_wp2_with fail
  go_loopw [0, 3] (fun n0 s wr => ∃ (m : Nat) (l : List UInt8), m ≤ 100000000 ∧ l.length + m ≤ 1000000001 ∧ n0 = .int .i64 m ∧ s = .string (S l) ∧ Hid (if m = 0 then Lib.decDigits n = l else Lib.decDigits n = Lib.decDigits m ++ l) ∧ Below w.heap.size w wr) (fun n0 _ _ => (intOf n0).toNat)
  case atStart =>
    refine ⟨q, [dig d], hq1, by simp; omega, rfl, rfl, Lib.hid ?_, (Below.refl _ _).alloc (Nat.le_refl _) _⟩
    have e1 := HQ.out
    have e2 := HD.out
    subst e1; subst e2
    split
    · exact dd_one n (by omega)
    · exact dd_step n (by omega)
  case round =>
    clear hcv hdi hqi
    obtain ⟨m, l, hm, hl, rfl, rfl, HI, hB⟩ := hrel
    have hBs := hB.size
    by_cases h0 : m = 0
    · have HE : Hid (l = Lib.decDigits n) := Lib.hid (by have := HI.out; rw [if_pos h0] at this; exact this.symm)
      subst h0
      have HB := Lib.hid hB
      clear hB HI
      go_wp2_with fail
      go_ret
      exact ⟨by rw [HE.out]; rfl, HB.out⟩
    · have HE : Hid (Lib.decDigits n = Lib.decDigits m ++ l) := Lib.hid (by have := HI.out; rw [if_neg h0] at this; exact this)
      obtain ⟨d, hd⟩ : ∃ d, d = m % 10 := ⟨_, rfl⟩
      obtain ⟨q, hq⟩ : ∃ q, q = m / 10 := ⟨_, rfl⟩
      have hdi : (m : Int) % 10 = d := by omega
      have hqi : (m : Int) / 10 = q := by omega
      have hd1 : d < 10 := by omega
      have hm0 : 0 < m := by omega
      have hq1 : q < m := by omega
      have HN : Hid (if q = 0 then Lib.decDigits n = [dig d] ++ l else Lib.decDigits n = Lib.decDigits q ++ ([dig d] ++ l)) := Lib.hid (by
        rw [HE.out, hd, hq]
        split
        · rw [dd_one m (by omega)]
        · rw [dd_step m (by omega), List.append_assoc])
      have hcv := fun (W : World) (T : TypeId) (a b : Nat) => conv1 W d hd1 T a b
      have HB := Lib.hid hB
      clear h0 hd hq hB HE HI
      go_wp2_with fail
      exact ⟨⟨q, [dig d] ++ l, by omega, by simp; omega, rfl, rfl, HN, HB.out.alloc hBs _⟩, by simp [intOf]; omega⟩
theorem dig_dd (d : Nat) (h : d < 10) : Lib.decDigits d = [dig d] := by rw [Lib.decDigits, dif_pos h]; rfl
set_option maxHeartbeats 2000000 in
theorem text26v (x y : Int) (q r : Nat) (w : World) (hx : vF x = true) (hy : absI x = y) (h1 : y ≤ 274877906944) (hq : y / 65536 = q) (hl : y % 65536 = r) (hq1 : q ≤ 4194304) (hr1 : r < 65536) :
    Calls Tryd.prog 26 #[.int .i64 x] w fun e w' => e = .returned (.tuple #[.string (S (if x < 0 then 45 :: txt2 q r else txt2 q r)), .int .i64 0]) ∧ Below w.heap.size w w' := by
  have H1 := Lib.hid hx
  obtain ⟨x0, x1⟩ := vF_iff hx
  have HY := Lib.hid hy
  have h0 : 0 ≤ y := by rw [← hy]; exact absI_nn x
  have hL := dd_len 7 q (by omega) (by omega)
  clear hx hy
  go_enter Tryd.func26, Tryd.ntmps26
  go_wp2_with fail
  refine (valid41 x _).mono ?_
  rintro e w1 ⟨rfl, rfl⟩
  rw [H1.out]
  go_wp2_with fail
  refine (abs43 x _ (by omega)).mono ?_
  rintro e w1 ⟨rfl, rfl⟩
  rw [HY.out]
  go_wp2_with fail
  refine (digits45 q _ (by omega)).mono ?_
  rintro e w2 ⟨rfl, B2⟩
  obtain ⟨L, hLL⟩ : ∃ L, L = (Lib.decDigits q).length := ⟨_, rfl⟩
  have HLL := Lib.hid hLL
  have HL := Lib.hid hl
  rw [← hLL] at hL
  clear hl
  by_cases hr : r = 0
  · have HX : Hid (Lib.decDigits q ++ frD 16 r = txt2 q r) := Lib.hid (by unfold txt2; rw [if_pos hr, hr]; simp [frD])
    have hr0 : ¬ 0 < y % 65536 := by have := HL.out; omega
    clear hr
    go_wp2_with fail
    clear hLL
    go_loopw [5, 6] (fun s n wr => ∃ (k m : Nat) (l : List UInt8), k ≤ 16 ∧ l.length = L + 0 + k ∧ m < 65536 ∧ 2 ^ k ∣ m ∧ s = .string (S l) ∧ n = .int .i64 m ∧ Hid (l ++ frD (16 - k) m = txt2 q r) ∧ Below w.heap.size w wr) (fun s _ _ => 40 - szOf s)
    case atStart => exact ⟨0, r, Lib.decDigits q, by omega, by simp; exact HLL.out.symm, hr1, ⟨r, by simp⟩, rfl, by rw [HL.out], HX, B2⟩
    case round =>
      clear B2
      obtain ⟨k, m, l, hk, hll, hm, hd, rfl, rfl, HI, hB⟩ := hrel
      have hBs := hB.size
      have HB := Lib.hid hB
      have HD := Lib.hid hd
      clear hd hB
      by_cases h0 : m = 0
      · have HE : Hid (txt2 q r = l) := Lib.hid (by rw [← HI.out, h0]; cases 16 - k <;> simp [frD])
        have HM := Lib.hid h0
        have hm0 : decide (0 < m) = false := by simp [h0]
        clear h0
        by_cases hn : x < 0
        all_goals
          go_wp2_with fail
          go_ret2
          exact ⟨ret_si (by rw [HE.out]) rfl, HB.out⟩
      · have hk16 : k < 16 := by
          rcases Nat.lt_or_ge k 16 with h | h
          · exact h
          · obtain rfl : k = 16 := by omega
            exact absurd (dvd_end HD.out hm) h0
        have hm0 : 0 < m := by omega
        obtain ⟨d, hd⟩ : ∃ d, d = m * 10 / 65536 := ⟨_, rfl⟩
        obtain ⟨m', hm'⟩ : ∃ m', m' = m * 10 % 65536 := ⟨_, rfl⟩
        have hd1 : d < 10 := by omega
        have hdi : 10 * (m : Int) / 65536 = d := by omega
        have hmi : 10 * (m : Int) % 65536 = m' := by omega
        have HN : Hid ((l ++ [dig d]) ++ frD (16 - (k + 1)) m' = txt2 q r) := Lib.hid (by
          rw [← HI.out]
          have e : 16 - k = (16 - (k + 1)) + 1 := by omega
          rw [e, frD, if_neg h0, hd, hm', List.append_assoc]; rfl)
        have HD' := Lib.hid (hm' ▸ dvd_step hk16 HD.out : 2 ^ (k + 1) ∣ m')
        have hm1 : m' < 65536 := by omega
        have HG := Lib.hid (dig_dd d hd1)
        clear h0 hd hm'
        go_wp2_with fail
        refine (digits45 d _ (by omega)).mono ?_
        rintro e w3 ⟨rfl, hb3⟩
        rw [HG.out]
        have HB3 := Lib.hid (HB.out.trans (hb3.mono hBs))
        clear hb3
        go_wp2_with fail
        exact ⟨⟨k + 1, m', _, by omega, by simp; omega, hm1, HD'.out, rfl, by rw [hmi], HN, HB3.out⟩, by simp [szOf, ByteArray.size]; omega⟩
  · have HX : Hid ((Lib.decDigits q ++ [46]) ++ frD 16 r = txt2 q r) := Lib.hid (by unfold txt2; rw [if_neg hr]; simp)
    have hr0 : 0 < y % 65536 := by have := HL.out; omega
    clear hr
    go_wp2_with fail
    clear hLL
    go_loopw [5, 6] (fun s n wr => ∃ (k m : Nat) (l : List UInt8), k ≤ 16 ∧ l.length = L + 1 + k ∧ m < 65536 ∧ 2 ^ k ∣ m ∧ s = .string (S l) ∧ n = .int .i64 m ∧ Hid (l ++ frD (16 - k) m = txt2 q r) ∧ Below w.heap.size w wr) (fun s _ _ => 40 - szOf s)
    case atStart => exact ⟨0, r, Lib.decDigits q ++ [46], by omega, by simp; exact HLL.out.symm, hr1, ⟨r, by simp⟩, rfl, by rw [HL.out], HX, B2⟩
    case round =>
      clear B2
      obtain ⟨k, m, l, hk, hll, hm, hd, rfl, rfl, HI, hB⟩ := hrel
      have hBs := hB.size
      have HB := Lib.hid hB
      have HD := Lib.hid hd
      clear hd hB
      by_cases h0 : m = 0
      · have HE : Hid (txt2 q r = l) := Lib.hid (by rw [← HI.out, h0]; cases 16 - k <;> simp [frD])
        have HM := Lib.hid h0
        have hm0 : decide (0 < m) = false := by simp [h0]
        clear h0
        by_cases hn : x < 0
        all_goals
          go_wp2_with fail
          go_ret2
          exact ⟨ret_si (by rw [HE.out]) rfl, HB.out⟩
      · have hk16 : k < 16 := by
          rcases Nat.lt_or_ge k 16 with h | h
          · exact h
          · obtain rfl : k = 16 := by omega
            exact absurd (dvd_end HD.out hm) h0
        have hm0 : 0 < m := by omega
        obtain ⟨d, hd⟩ : ∃ d, d = m * 10 / 65536 := ⟨_, rfl⟩
        obtain ⟨m', hm'⟩ : ∃ m', m' = m * 10 % 65536 := ⟨_, rfl⟩
        have hd1 : d < 10 := by omega
        have hdi : 10 * (m : Int) / 65536 = d := by omega
        have hmi : 10 * (m : Int) % 65536 = m' := by omega
        have HN : Hid ((l ++ [dig d]) ++ frD (16 - (k + 1)) m' = txt2 q r) := Lib.hid (by
          rw [← HI.out]
          have e : 16 - k = (16 - (k + 1)) + 1 := by omega
          rw [e, frD, if_neg h0, hd, hm', List.append_assoc]; rfl)
        have HD' := Lib.hid (hm' ▸ dvd_step hk16 HD.out : 2 ^ (k + 1) ∣ m')
        have hm1 : m' < 65536 := by omega
        have HG := Lib.hid (dig_dd d hd1)
        clear h0 hd hm'
        go_wp2_with fail
        refine (digits45 d _ (by omega)).mono ?_
        rintro e w3 ⟨rfl, hb3⟩
        rw [HG.out]
        have HB3 := Lib.hid (HB.out.trans (hb3.mono hBs))
        clear hb3
        go_wp2_with fail
        exact ⟨⟨k + 1, m', _, by omega, by simp; omega, hm1, HD'.out, rfl, by rw [hmi], HN, HB3.out⟩, by simp [szOf, ByteArray.size]; omega⟩
theorem text26 (x : Int) (w : World) : Calls Tryd.prog 26 #[.int .i64 x] w fun e w' => e = .returned (.tuple #[.string (txV x), .int .i64 (txE x)]) ∧ Below w.heap.size w w' := by
  cases hv : vF x with
  | true =>
    obtain ⟨h0, h1⟩ := vF_iff hv
    have eE : txE x = 0 := by unfold txE; rw [if_pos hv]
    have eV : txV x = S (txL x) := by unfold txV; rw [if_pos hv]
    rw [eE, eV]
    have a0 := absI_nn x
    have a1 : absI x ≤ 274877906944 := absI_bd h0 h1
    have K := text26v x (absI x) (absI x / 65536).toNat (absI x % 65536).toNat w hv rfl a1 (by omega) (by omega) (by omega) (by omega)
    have e : (if x < 0 then 45 :: txt2 (absI x / 65536).toNat (absI x % 65536).toNat else txt2 (absI x / 65536).toNat (absI x % 65536).toNat) = txL x := by
      unfold txL txt
      by_cases hn : x < 0
      · rw [if_pos hn, if_pos hn, absI_n hn]
      · rw [if_neg hn, if_neg hn, absI_p (by omega)]
    rw [e] at K
    exact K
  | false =>
    have HE : Hid (txE x = 1) := Lib.hid (by unfold txE; rw [if_neg (by rw [hv]; decide)])
    have HV : Hid (txV x = S []) := Lib.hid (by unfold txV; rw [if_neg (by rw [hv]; decide)])
    have H1 := Lib.hid hv
    clear hv
    go_enter Tryd.func26, Tryd.ntmps26
    go_wp2_with fail
    refine (valid41 x _).mono ?_
    rintro e w1 ⟨rfl, rfl⟩
    rw [H1.out]
    go_wp2_with fail
    go_ret2
    exact ⟨ret_si HV.out.symm HE.out.symm, Below.refl _ _⟩
end Go.Proofs.YtmalpalepaomdaaDoor
