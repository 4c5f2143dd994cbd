/- Package fixed: Parse. -/
import Derived.Test.YtmalpalepaomdaaDoorRows
import Derived.WalkKit
import Derived.WalkLawsBesides
import Derived.WalkSpells
import Derived.ProofKit
import Derived.Below
import Derived.Outline
import Derived.Lib.Hide
import Derived.Deep.RegionWith
import Derived.Deep.RegionHeld3
import Derived.Deep.DrawnRows
import Derived.StillTailTactics
import Derived.BigQuiet
import Derived.Deep.QuietTactic
import Derived.Deep.LoopGhost
import Derived.IntWalk
import Derived.Deep.CutBlock
import Derived.Deep.DeepCutAuto
import Derived.WalkMore
import Derived.Lib.ParseIntBCases
import Derived.Laws.Strings3
import Derived.Test.YtmalpalepaomdaaDoorFxN
namespace Go.Proofs.YtmalpalepaomdaaDoor
open Go.RowKit
attribute [local go_sem ↓] Go.wp_at_zero Go.wp_at_succ
attribute [local go_sem] wrap_lit
attribute [local go_sem] S_nil S_dot S_minus S_app S_size
theorem S_list (l : List UInt8) : (S l).data.toList = l := by simp
theorem cutp47 (l : List UInt8) (w : World) : Calls Tryd.prog 47 #[.string (S l), .string ⟨#[45]⟩] w fun e w' => e = .returned (.tuple #[.string (S (Lib.trimPrefix l [45])), .bool (Lib.hasPrefix l [45])]) ∧ w = w' := by
  refine (Tryd.strings_CutPrefix (S l) ⟨#[45]⟩ w).mono ?_
  rintro e w' ⟨rfl, h⟩
  exact ⟨rfl, h.symm⟩
theorem cut48 (l : List UInt8) (hl : l.length ≤ 1000) (w : World) (E : Env w) : Calls Tryd.prog 48 #[.string (S l), .string ⟨#[46]⟩] w fun e w' => e = .returned (.tuple #[.string (S (Lib.cut l [46]).1), .string (S (Lib.cut l [46]).2.1), .bool (Lib.cut l [46]).2.2]) ∧ Below w.heap.size w w' := by
  obtain ⟨m, hm⟩ := E.mx
  refine (Tryd.strings_Cut (S l) ⟨#[46]⟩ m w (by rw [S_size]; omega) hm).mono ?_
  rintro e w' ⟨rfl, n, rfl⟩
  exact ⟨rfl, below_drewN (Below.refl _ _) n⟩
theorem tp_len (l : List UInt8) : (Lib.trimPrefix l [45]).length ≤ l.length := by unfold Lib.trimPrefix; split <;> simp
theorem cut_len (l : List UInt8) : (Lib.cut l [46]).1.length ≤ l.length ∧ (Lib.cut l [46]).2.1.length ≤ l.length := by unfold Lib.cut; split <;> simp <;> omega
theorem pU_le {l : List UInt8} {u : Nat} (h : pU l = .ok u) : u ≤ 8388607 := by
  unfold pU at h
  split at h
  · cases h
  · exact Lib.parseUintM_le 8388607 l 0 u (by omega) h
theorem rdF_at {l : List UInt8} {k : Nat} (hk : k < l.length) (R s : Nat) : rdF (l.drop k) R s = if isD l[k] ∧ s < 10000000000000000 then rdF (l.drop (k + 1)) (R * 10 + (l[k].toNat - 48)) (s * 10) else (s, s) := by
  rw [List.drop_eq_getElem_cons hk, rdF]
/-- What the loop over the bits holds. -/
def Bt (N t x a b : Int) : Prop := ∃ j r s : Nat, t = ((2 ^ j / 2 : Nat) : Int) ∧ a = r ∧ b = s ∧ j ≤ 16 ∧ x + (bt j r s : Nat) = N
theorem Bt_end {N x a b : Int} (h : Bt N 0 x a b) : x = N := by
  obtain ⟨j, r, s, h1, rfl, rfl, h2, h3⟩ := h
  cases j with
  | zero => simpa [bt] using h3
  | succ j =>
    have := Nat.pow_pos (n := j) (show 0 < 2 by omega)
    rw [Nat.pow_succ] at h1
    omega
theorem Bt_lo {N t x a b : Int} (h : Bt N t x a b) (ht : 0 < t) (hl : a * 2 < b) : Bt N (t / 2) x (a * 2) b := by
  obtain ⟨j, r, s, rfl, rfl, rfl, h2, h3⟩ := h
  cases j with
  | zero => simp at ht
  | succ j =>
    refine ⟨j, r * 2, s, by rw [Nat.pow_succ]; omega, by omega, rfl, by omega, ?_⟩
    rw [bt, if_neg (by omega), Nat.mul_comm 2 r] at h3
    exact h3
theorem Bt_hi {N t x a b : Int} (h : Bt N t x a b) (ht : 0 < t) (hl : b ≤ a * 2) : Bt N (t / 2) (x + t) (a * 2 - b) b := by
  obtain ⟨j, r, s, rfl, rfl, rfl, h2, h3⟩ := h
  cases j with
  | zero => simp at ht
  | succ j =>
    refine ⟨j, r * 2 - s, s, by rw [Nat.pow_succ]; omega, by omega, rfl, by omega, ?_⟩
    rw [bt, if_pos (by omega), Nat.mul_comm 2 r] at h3
    rw [Nat.pow_succ]
    omega
theorem Bt_le {N t x a b : Int} (h : Bt N t x a b) : x ≤ N := by
  obtain ⟨j, r, s, h1, rfl, rfl, h2, h3⟩ := h
  omega
theorem ne_S {l m : List UInt8} (h : l ≠ m) : S l ≠ S m := fun e => h (by have := congrArg (fun b => b.data.toList) e; simpa using this)
/-- What the loop over the fraction holds. -/
def Fr (fr : List UInt8) (k : Nat) (a b : Int) : Prop := ∃ R s j : Nat, a = R ∧ b = s ∧ s = 10 ^ j ∧ j ≤ 16 ∧ R < s ∧ rdF (fr.drop k) R s = rdF fr 0 1
/-- What it leaves. -/
def FrE (fr : List UInt8) (a b : Int) : Prop := a = ((rdF fr 0 1).1 : Int) ∧ b = ((rdF fr 0 1).2 : Int)
theorem Fr_bad {fr : List UInt8} {k : Nat} {a b : Int} (hk : k < fr.length) (h : Fr fr k a b) (hn : ¬ ((48 ≤ (fr[k].toNat : Int) ∧ (fr[k].toNat : Int) ≤ 57) ∧ b < 10000000000000000)) : FrE fr b b := by
  obtain ⟨R, s, j, rfl, rfl, h1, h2, h3, h4⟩ := h
  rw [rdF_at hk, if_neg (fun g => hn ⟨by have := g.1; unfold isD at this; omega, by have := g.2; omega⟩)] at h4
  unfold FrE
  rw [← h4]
  exact ⟨rfl, rfl⟩
theorem Fr_end {fr : List UInt8} {k : Nat} {a b : Int} (hk : fr.length ≤ k) (h : Fr fr k a b) : FrE fr a b := by
  obtain ⟨R, s, j, rfl, rfl, h1, h2, h3, h4⟩ := h
  rw [List.drop_of_length_le hk, rdF] at h4
  unfold FrE
  rw [← h4]
  exact ⟨rfl, rfl⟩
theorem Fr_step {fr : List UInt8} {k : Nat} {a b c : Int} (hk : k < fr.length) (h : Fr fr k a b) (hc : c = (fr[k].toNat : Int)) (c0 : 48 ≤ c) (c1 : c ≤ 57) (hb : b < 10000000000000000) : Fr fr (k + 1) (a * 10 + (c - 48)) (b * 10) ∧ a * 10 + (c - 48) ≤ b * 10 ∧ b * 10 ≤ 10000000000000000 := by
  obtain ⟨R, s, j, rfl, rfl, h1, h2, h3, h4⟩ := h
  have hd : isD fr[k] := by unfold isD; omega
  rw [rdF_at hk, if_pos ⟨hd, by omega⟩] at h4
  have hj : j < 16 := by
    rcases Nat.lt_or_ge j 16 with g | g
    · exact g
    · obtain rfl : j = 16 := by omega
      omega
  have hs : s * 10 ≤ 10000000000000000 := by
    rw [h1, ← Nat.pow_succ]
    have : (10 : Nat) ^ (j + 1) ≤ 10 ^ 16 := Nat.pow_le_pow_right (by omega) (by omega)
    omega
  have e : ((R * 10 + (fr[k].toNat - 48) : Nat) : Int) = (R : Int) * 10 + (c - 48) := by omega
  exact ⟨⟨R * 10 + (fr[k].toNat - 48), s * 10, j + 1, e.symm, by omega, by rw [h1, Nat.pow_succ], by omega, by omega, h4⟩, by omega, by omega⟩
set_option maxRecDepth 100000 in
theorem parse33n (l : List UInt8) (w : World) (h : 26 < l.length) : Calls Tryd.prog 33 #[.string (S l)] w fun e w' => e = .returned (.tuple #[.int .i64 0, .int .i64 2]) ∧ w = w' := by
  have h1 : (26 : Int) < (l.length : Int) := by omega
  go_enter Tryd.func33, Tryd.ntmps33
  go_wp2_with fail
  apply wp_scope_straight
  go_wp2_with fail
  (try rw [Exit.noGoto_ret])
  go_ret2
  exact ⟨rfl, rfl⟩
set_option maxHeartbeats 4000000 in
set_option maxRecDepth 100000 in
theorem parse33a (l : List UInt8) (w : World) (E : Env w) (h : l.length ≤ 26) (hn : ∀ u, pU (Lib.cut (Lib.trimPrefix l [45]) [46]).1 ≠ .ok u) : Calls Tryd.prog 33 #[.string (S l)] w fun e w' => e = .returned (.tuple #[.int .i64 0, .int .i64 2]) ∧ Below w.heap.size w w' := by
  have HE := Lib.hid E
  have HN := Lib.hid hn
  have h1 : (l.length : Int) ≤ 26 := by omega
  have h2 := tp_len l
  have h3 := cut_len (Lib.trimPrefix l [45])
  clear E hn
  go_enter Tryd.func33, Tryd.ntmps33
  go_wp2_with fail
  apply wp_scope_straight
  go_wp2_with fail
  refine (cutp47 l _).mono ?_
  rintro e w1 ⟨rfl, rfl⟩
  go_wp2_with fail
  refine (cut48 _ (by omega) _ HE.out).mono ?_
  rintro e w1 ⟨rfl, hb1⟩
  have HB1 := Lib.hid hb1
  clear hb1
  go_wp2_with fail
  refine (parse49n _ (by omega) HN.out _ (HE.out.below HB1.out)).mono ?_
  rintro e w2 ⟨⟨v, t, p, rfl⟩, hb2⟩
  have HB2 := Lib.hid (HB1.out.trans (hb2.mono HB1.out.size))
  clear hb2
  go_wp2_with fail
  (try rw [Exit.noGoto_ret])
  go_ret2
  exact ⟨rfl, HB2.out⟩
set_option maxHeartbeats 4000000 in
set_option maxRecDepth 100000 in
theorem parse33b (l : List UInt8) (q : Nat) (w : World) (E : Env w) (h : l.length ≤ 26) (hq : pU (Lib.cut (Lib.trimPrefix l [45]) [46]).1 = .ok q) : Calls Tryd.prog 33 #[.string (S l)] w fun e w' => e = .returned (.tuple #[.int .i64 (parR l).1, .int .i64 (parR l).2]) ∧ Below w.heap.size w w' := by
  have HE := Lib.hid E
  have HQ := Lib.hid hq
  have h1 : (l.length : Int) ≤ 26 := by omega
  have h2 := tp_len l
  have h3 := cut_len (Lib.trimPrefix l [45])
  have q1 : q ≤ 8388607 := pU_le hq
  clear E hq
  obtain ⟨fr, hfr⟩ : ∃ fr, fr = (Lib.cut (Lib.trimPrefix l [45]) [46]).2.1 := ⟨_, rfl⟩
  obtain ⟨wh, hwh⟩ : ∃ wh, wh = (Lib.cut (Lib.trimPrefix l [45]) [46]).1 := ⟨_, rfl⟩
  obtain ⟨ng, hng⟩ : ∃ ng, ng = Lib.hasPrefix l [45] := ⟨_, rfl⟩
  have HF := Lib.hid hfr
  have HW := Lib.hid hwh
  have HG := Lib.hid hng
  rw [← hfr] at h3
  have f1 : (fr.length : Int) ≤ 26 := by omega
  clear hfr hwh hng
  go_enter Tryd.func33, Tryd.ntmps33
  go_wp2_with fail
  apply wp_scope_straight
  go_wp2_with fail
  refine (cutp47 l _).mono ?_
  rintro e w1 ⟨rfl, rfl⟩
  rw [← HG.out]
  go_wp2_with fail
  refine (cut48 _ (by omega) _ HE.out).mono ?_
  rintro e w1 ⟨rfl, hb1⟩
  rw [← HF.out, ← HW.out]
  have HB1 := Lib.hid hb1
  clear hb1
  go_wp2_with fail
  refine (parse49 wh (by rw [HW.out]; omega) q (by rw [HW.out]; exact HQ.out) _).mono ?_
  rintro e w2 ⟨rfl, hb2⟩
  have HB2 := Lib.hid (HB1.out.trans (hb2.mono HB1.out.size))
  clear hb2
  have hcv := Lib.run_convert_string_bytes (P := Tryd.prog) w2 9 64 5 (S fr) (u := .string) Tryd.underlying9 Tryd.underlying64 Tryd.underlying5
  have hB : ∀ j, j < fr.length → (Lib.bytesWorld w2 5 (S fr)).cell? ⟨w2.heap.size, j, none⟩ = some (.int .u8 ((fr.getD j 0).toNat : Int)) := fun j hj => by have := Lib.bytesWorld_cell w2 5 (S fr) j (by rw [S_size]; exact hj); rw [S_list] at this; exact this
  have HW1 := Lib.hid (Lib.bytesWorld_below w2 5 (S fr))
  obtain ⟨W1, hW1⟩ : ∃ W1, W1 = Lib.bytesWorld w2 5 (S fr) := ⟨_, rfl⟩
  rw [← hW1] at hcv hB HW1
  have HC := Lib.hid hB
  clear hB hW1
  go_wp2_with fail
  apply wp_label
  go_upto_block 0 with fail
  go_cut [12, 13] (fun ra rb wx => ∃ a b : Int, ra = .int .u64 a ∧ rb = .int .u64 b ∧ 0 ≤ a ∧ a ≤ b ∧ 1 ≤ b ∧ b ≤ 10000000000000000 ∧ Hid (FrE fr a b) ∧ wx = W1)
  case first =>
    clear hcv
    go_wp2_with fail
    go_loop [12, 13, 46] (fun ra rb i => ∃ (k : Nat) (a b : Int), k ≤ fr.length ∧ i = .int .i64 k ∧ ra = .int .u64 a ∧ rb = .int .u64 b ∧ 0 ≤ a ∧ a ≤ b ∧ 1 ≤ b ∧ b ≤ 10000000000000000 ∧ Hid (Fr fr k a b)) (fun _ _ i => fr.length - (intOf i).toNat)
    case atStart => exact ⟨0, 0, 1, by omega, rfl, rfl, rfl, by omega, by omega, by omega, by omega, Lib.hid ⟨0, 1, 0, rfl, rfl, rfl, by omega, by omega, by simp⟩⟩
    case round =>
      obtain ⟨k, a, b, hk, rfl, rfl, rfl, a0, ab, b0, b1, HR⟩ := hrel
      by_cases hlt : k < fr.length
      · have hlt' : (k : Int) < (fr.length : Int) := by omega
        have hc := HC.out k hlt
        obtain ⟨c, hcc⟩ : ∃ c : Int, c = (fr[k].toNat : Int) := ⟨_, rfl⟩
        have e1 : fr.getD k 0 = fr[k] := by simp [List.getD, hlt]
        rw [e1, ← hcc] at hc
        have c0 : 0 ≤ c := by omega
        have c1 : c ≤ 255 := by have := fr[k].toNat_lt; omega
        by_cases d0 : c < 48
        · have HE1 := Lib.hid (Fr_bad hlt HR.out (fun h => by have := h.1.1; omega))
          clear hcc e1
          go_wp2_with fail
          go_meet
          exact ⟨b, b, rfl, rfl, by omega, by omega, b0, b1, HE1, rfl⟩
        · by_cases d1 : 57 < c
          · have HE1 := Lib.hid (Fr_bad hlt HR.out (fun h => by have := h.1.2; omega))
            clear hcc e1
            go_wp2_with fail
            go_meet
            exact ⟨b, b, rfl, rfl, by omega, by omega, b0, b1, HE1, rfl⟩
          · by_cases d2 : b < 10000000000000000
            · obtain ⟨g1, g2, g3⟩ := Fr_step hlt HR.out (c := c) hcc (by omega) (by omega) d2
              have HS := Lib.hid g1
              clear hcc e1 g1
              go_wp2_with fail
              exact ⟨⟨k + 1, a * 10 + (c - 48), b * 10, by omega, by go_num, rfl, rfl, by omega, g2, by omega, g3, HS⟩, by simp [intOf]; omega⟩
            · have HE1 := Lib.hid (Fr_bad hlt HR.out (fun h => by have := h.2; omega))
              clear hcc e1
              go_wp2_with fail
              go_meet
              exact ⟨b, b, rfl, rfl, by omega, by omega, b0, b1, HE1, rfl⟩
      · have hlt' : ¬ (k : Int) < (fr.length : Int) := by omega
        have HE1 := Lib.hid (Fr_end (by omega) HR.out)
        go_wp2_with fail
        go_meet
        exact ⟨a, b, rfl, rfl, a0, ab, b0, b1, HE1, rfl⟩
  case rest =>
    obtain ⟨a, b, rfl, rfl, a0, ab, b0, b1, HFE, rfl⟩ := hcut
    clear hcv HC
    have HB3 := Lib.hid (HB2.out.trans (HW1.out.mono HB2.out.size))
    obtain ⟨N, hN⟩ : ∃ N : Int, N = ((q * 65536 + bt 16 (rdF fr 0 1).1 (rdF fr 0 1).2 : Nat) : Int) := ⟨_, rfl⟩
    have N0 : 0 ≤ N := by omega
    have N1 : N ≤ 600000000000 := by have := bt_lt 16 (rdF fr 0 1).1 (rdF fr 0 1).2; omega
    have HN := Lib.hid hN
    have HXP : Hid (xP l = some (sgnI ng N)) := Lib.hid (by unfold xP; rw [HQ.out, HN.out, HG.out, HF.out])
    have HST : Hid (Bt N 32768 (q * 65536) a b) := Lib.hid ⟨16, (rdF fr 0 1).1, (rdF fr 0 1).2, by decide, HFE.out.1, HFE.out.2, by omega, by rw [hN]; omega⟩
    clear hN
    go_wp2_with fail
    go_loop [11, 12, 16] (fun x r t => ∃ xi ai ti : Int, x = .int .i64 xi ∧ r = .int .u64 ai ∧ t = .int .i64 ti ∧ 0 ≤ xi ∧ xi ≤ 600000000000 ∧ 0 ≤ ai ∧ ai ≤ b ∧ 0 ≤ ti ∧ ti ≤ 32768 ∧ Hid (Bt N ti xi ai b)) (fun _ _ t => (intOf t).toNat)
    case atStart => exact ⟨q * 65536, a, 32768, rfl, rfl, rfl, by omega, by omega, a0, ab, by omega, by omega, HST⟩
    case round =>
      obtain ⟨xi, ai, ti, rfl, rfl, rfl, x0, x1, ai0, ai1, t0, t1, HB⟩ := hrel
      by_cases ht : 0 < ti
      · by_cases hc : b ≤ ai * 2
        · have HS := Lib.hid (Bt_hi HB.out ht hc)
          have x2 : xi + ti ≤ 600000000000 := by have := Bt_le HS.out; omega
          go_wp2_with fail
          exact ⟨⟨xi + ti, ai * 2 - b, ti / 2, rfl, rfl, rfl, by omega, x2, by omega, by omega, by omega, by omega, HS⟩, by simp [intOf]; omega⟩
        · have hc' : ai * 2 < b := by omega
          have HS := Lib.hid (Bt_lo HB.out ht hc')
          go_wp2_with fail
          exact ⟨⟨xi, ai * 2, ti / 2, rfl, rfl, rfl, by omega, x1, by omega, by omega, by omega, by omega, HS⟩, by simp [intOf]; omega⟩
      · obtain rfl : ti = 0 := by omega
        obtain rfl : N = xi := (Bt_end HB.out).symm
        clear HB ht
        cases ng with
        | false =>
          unfold sgnI at HXP
          have HV : Hid (parR l = chk N l) := Lib.hid (by unfold parR; rw [if_neg (by omega), HXP.out]; rfl)
          cases hv : vF N with
          | false =>
            have R0 := Lib.hid (show chk N l = (0, 2) by unfold chk; rw [if_neg (by rw [hv]; simp)])
            have T1 := Lib.hid (show txE N = 1 by unfold txE; rw [if_neg (by rw [hv]; decide)])
            clear hv
            go_wp2_with fail
            refine (ats_ rfl T1.out (text27 N _ (HE.out.below HB3.out).tab)).mono ?_
            rintro e w4 ⟨rfl, hb4⟩
            have HB4 := Lib.hid (HB3.out.trans (hb4.mono HB3.out.size))
            clear hb4
            go_wp2_with fail
            (try rw [Exit.noGoto_ret])
            go_ret2
            exact ⟨ret_pair (by rw [HV.out, R0.out]), HB4.out⟩
          | true =>
            have T1 := Lib.hid (show txE N = 0 by unfold txE; rw [if_pos hv])
            by_cases hl : txL N = l
            · have R0 := Lib.hid (show chk N l = (N, 0) by unfold chk; rw [if_pos ⟨hv, hl⟩])
              have T2 := Lib.hid (show txV N = S l by unfold txV; rw [if_pos hv, hl])
              clear hv hl
              go_wp2_with fail
              refine (ats_ T2.out T1.out (text27 N _ (HE.out.below HB3.out).tab)).mono ?_
              rintro e w4 ⟨rfl, hb4⟩
              have HB4 := Lib.hid (HB3.out.trans (hb4.mono HB3.out.size))
              clear hb4
              go_wp2_with fail
              (try rw [Exit.noGoto_ret])
              go_ret2
              exact ⟨ret_pair (by rw [HV.out, R0.out]), HB4.out⟩
            · have R0 := Lib.hid (show chk N l = (0, 2) by unfold chk; rw [if_neg (fun g => hl g.2)])
              obtain ⟨m, hm⟩ : ∃ m, txL N = m := ⟨_, rfl⟩
              have T2 := Lib.hid (show txV N = S m by unfold txV; rw [if_pos hv, hm])
              rw [hm] at hl
              have hne : (m == l) = false := by simp [hl]
              clear hv hl hm
              go_wp2_with fail
              refine (ats_ T2.out T1.out (text27 N _ (HE.out.below HB3.out).tab)).mono ?_
              rintro e w4 ⟨rfl, hb4⟩
              have HB4 := Lib.hid (HB3.out.trans (hb4.mono HB3.out.size))
              clear hb4
              go_wp2_with fail
              (try rw [Exit.noGoto_ret])
              go_ret2
              exact ⟨ret_pair (by rw [HV.out, R0.out]), HB4.out⟩
        | true =>
          unfold sgnI at HXP
          have HV : Hid (parR l = chk (-N) l) := Lib.hid (by unfold parR; rw [if_neg (by omega), HXP.out]; rfl)
          cases hv : vF (-N) with
          | false =>
            have R0 := Lib.hid (show chk (-N) l = (0, 2) by unfold chk; rw [if_neg (by rw [hv]; simp)])
            have T1 := Lib.hid (show txE (-N) = 1 by unfold txE; rw [if_neg (by rw [hv]; decide)])
            clear hv
            go_wp2_with fail
            refine (ats_ rfl T1.out (text27 (-N) _ (HE.out.below HB3.out).tab)).mono ?_
            rintro e w4 ⟨rfl, hb4⟩
            have HB4 := Lib.hid (HB3.out.trans (hb4.mono HB3.out.size))
            clear hb4
            go_wp2_with fail
            (try rw [Exit.noGoto_ret])
            go_ret2
            exact ⟨ret_pair (by rw [HV.out, R0.out]), HB4.out⟩
          | true =>
            have T1 := Lib.hid (show txE (-N) = 0 by unfold txE; rw [if_pos hv])
            by_cases hl : txL (-N) = l
            · have R0 := Lib.hid (show chk (-N) l = ((-N), 0) by unfold chk; rw [if_pos ⟨hv, hl⟩])
              have T2 := Lib.hid (show txV (-N) = S l by unfold txV; rw [if_pos hv, hl])
              clear hv hl
              go_wp2_with fail
              refine (ats_ T2.out T1.out (text27 (-N) _ (HE.out.below HB3.out).tab)).mono ?_
              rintro e w4 ⟨rfl, hb4⟩
              have HB4 := Lib.hid (HB3.out.trans (hb4.mono HB3.out.size))
              clear hb4
              go_wp2_with fail
              (try rw [Exit.noGoto_ret])
              go_ret2
              exact ⟨ret_pair (by rw [HV.out, R0.out]), HB4.out⟩
            · have R0 := Lib.hid (show chk (-N) l = (0, 2) by unfold chk; rw [if_neg (fun g => hl g.2)])
              obtain ⟨m, hm⟩ : ∃ m, txL (-N) = m := ⟨_, rfl⟩
              have T2 := Lib.hid (show txV (-N) = S m by unfold txV; rw [if_pos hv, hm])
              rw [hm] at hl
              have hne : (m == l) = false := by simp [hl]
              clear hv hl hm
              go_wp2_with fail
              refine (ats_ T2.out T1.out (text27 (-N) _ (HE.out.below HB3.out).tab)).mono ?_
              rintro e w4 ⟨rfl, hb4⟩
              have HB4 := Lib.hid (HB3.out.trans (hb4.mono HB3.out.size))
              clear hb4
              go_wp2_with fail
              (try rw [Exit.noGoto_ret])
              go_ret2
              exact ⟨ret_pair (by rw [HV.out, R0.out]), HB4.out⟩
end Go.Proofs.YtmalpalepaomdaaDoor
