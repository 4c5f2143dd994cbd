/- encounter: the reference's decimal and number. -/
import Derived.Test.YtnnnpliigdfipaaGreatDoorRows
import Derived.WalkKit
import Derived.WalkLawsBesides
import Derived.WalkSpells
import Derived.ProofKit
import Derived.Below
import Derived.Outline
import Derived.Lib.Hide
import Derived.Deep.RegionWith
import Derived.Deep.RegionHeld3
import Derived.Deep.DrawnRows
import Derived.StillTailTactics
import Derived.BigQuiet
import Derived.Deep.QuietTactic
import Derived.Deep.LoopGhost
import Derived.IntWalk
import Derived.Lib.MinMax
import Derived.Deep.CutBlock
import Derived.Deep.DeepCutAuto
import Derived.Laws.Strings3
import Derived.Test.YtnnnpliigdfipaaGreatDoorEnHA
import Derived.Test.YtnnnpliigdfipaaGreatDoorEnW
import Derived.Test.YtnnnpliigdfipaaGreatDoorRC
namespace Go.Proofs.YtnnnpliigdfipaaGreatDoor
open Go.RowKit
attribute [local go_sem ↓] Go.wp_at_zero Go.wp_at_succ
attribute [local go_sem] wrap_lit
theorem S_app (l m : Tx) : S l ++ S m = S (l ++ m) := by
  apply ByteArray.ext
  apply Array.ext'
  simp
def dg (n : Nat) : UInt8 := UInt8.ofNat (48 + n)
theorem conv1 (w : World) (H : Nat) (d : Int) (h : w.cell? ⟨H, 0, none⟩ = some (.int .u8 (48 + d))) (d0 : 0 ≤ d) (d9 : d < 10) : (convert 71 9 (.slice (some ⟨H, 0, none⟩) 1 1)).run Tryz.prog w = .ok (.string (S [dg d.toNat])) w :=
  run_convert_bytes_back w 71 9 5 ⟨H, 0, none⟩ 1 [dg d.toNat] Tryz.underlying71 Tryz.underlying5 Tryz.underlying9 (fun j hj => by
    have hj0 : j = 0 := by simpa using hj
    subst hj0
    have e : ((dg d.toNat).toNat : Int) = 48 + d := by
      unfold dg
      rw [(dig_isD d.toNat (by omega)).2]; omega
    have ea : (⟨H, 0, none⟩ : Addr).add 0 = ⟨H, 0, none⟩ := rfl
    rw [ea, h, ← e]
    rfl)
theorem dd_1 {k : Nat} (h : k < 10) : Lib.decDigits k = [dg k] := by rw [Lib.decDigits, dif_pos h]; rfl
theorem dd_2 {k : Nat} (h : ¬ k < 10) : Lib.decDigits k = Lib.decDigits (k / 10) ++ [dg (k % 10)] := by rw [Lib.decDigits, dif_neg h]; rfl
attribute [local go_sem] S_app S_size
theorem dd_le (k : Nat) (h : k < 1000000000000) : (Lib.decDigits k).length ≤ 12 := by rw [Lib.decDigits_length]; exact nD_le 12 k (by omega) (by simpa using h)
set_option maxRecDepth 100000 in
set_option maxHeartbeats 4000000 in
theorem dec_nn : ∀ (k : Nat) (n : Int) (w : World), n = k → k < 1000000000000 → Calls Tryz.prog 94 #[.int .i64 n] w fun e w' => e = .returned (.string (S (Lib.decDigits k))) ∧ Below w.heap.size w w' := by
  intro k
  induction k using Nat.strongRecOn with
  | _ k ih =>
    intro n w hn hk
    have n0 : 0 ≤ n := by omega
    have n1 : n < 1000000000000 := by omega
    have HN := Lib.hid hn
    by_cases h10 : n < 10
    · have HD : Hid (Lib.decDigits k = [dg k]) := Lib.hid (dd_1 (by omega))
      have hcv := fun W H h => conv1 W H n h n0 h10
      obtain ⟨q, hq⟩ : ∃ q, q = n.toNat := ⟨_, rfl⟩
      have hnk : q = k := by omega
      rw [← hnk] at HD
      rw [← hq] at hcv
      have HQK := Lib.hid hnk
      clear hn hq hnk
      go_enter Tryz.func94, Tryz.ntmps94
      go_wp2_with fail
      go_ret
      exact ⟨by rw [← HQK.out, HD.out]; rfl, (Below.refl _ _).alloc (Nat.le_refl _) _⟩
    · have HD : Hid (Lib.decDigits k = Lib.decDigits (k / 10) ++ [dg (n % 10).toNat]) := Lib.hid (by
        rw [show (n % 10).toNat = k % 10 by omega]; exact dd_2 (by omega))
      have r0 : 0 ≤ n % 10 := by omega
      have r9 : n % 10 < 10 := by omega
      have hcv := fun W H h => conv1 W H (n % 10) h r0 r9
      have IH := Lib.hid (fun w' => ih (k / 10) (by omega) (n / 10) w' (by omega) (by omega))
      clear hn ih
      go_enter Tryz.func94, Tryz.ntmps94
      go_wp2_with fail
      have e1 : IntKind.i64.wrap (n.tdiv 10) = n / 10 := IntWalk.i64_quo _ _ (by omega)
      have e2 : n.tmod 10 = n % 10 := IntWalk.rem_in _ _ n0
      have e3 : IntKind.u8.wrap (n % 10) = n % 10 := IntWalk.u8_in _ (by omega)
      have e4 : IntKind.u8.wrap (48 + n % 10) = 48 + n % 10 := IntWalk.u8_in _ (by omega)
      have hL : (Lib.decDigits (k / 10)).length ≤ 12 := dd_le _ (by omega)
      refine wp_region_held_drew (S := fun _ => True) (by kernel_rfl) trivial (fun hS => ?_)
      refine wpAnyH_take (i := 0) (v := ?v0) rfl (by kernel_rfl) (by kernel_rfl) (by kernel_rfl) (fun _ _ _ h => h) (Or.inl ⟨by rfl, ?h0⟩) hS ?r0
      case h0 => (intro w1 _; go_simp; try with_reducible rfl)
      (try simp only [Act.put])
      refine wpAnyH_take (i := 1) (v := ?v1) rfl (by kernel_rfl) (by kernel_rfl) (by kernel_rfl) (fun _ _ _ h => h) (Or.inl ⟨by rfl, ?h1⟩) hS ?r1
      case h1 => (intro w1 _; go_simp; try with_reducible rfl)
      (try simp only [Act.put])
      refine wpAnyH_take (i := 3) (v := ?v3) rfl (by kernel_rfl) (by kernel_rfl) (by kernel_rfl) (fun _ _ _ h => h) (Or.inl ⟨by rfl, ?h3⟩) hS ?r3
      case h3 => (intro w1 _; go_simp; try with_reducible rfl)
      (try simp only [Act.put])
      refine wpAnyH_take (i := 4) (v := ?v4) rfl (by kernel_rfl) (by kernel_rfl) (by kernel_rfl) (fun _ _ _ h => h) (Or.inl ⟨by rfl, ?h4⟩) hS ?r4
      case h4 => (intro w1 _; go_simp; try with_reducible rfl)
      (try simp only [Act.put])
      refine wpAnyH_take (i := 5) (v := ?v5) rfl (by kernel_rfl) (by kernel_rfl) (by kernel_rfl) (fun _ _ _ h => h) (Or.inl ⟨by rfl, ?h5⟩) hS ?r5
      case h5 => (intro w1 _; go_simp; try with_reducible rfl)
      (try simp only [Act.put])
      refine wpAnyH_take (i := 6) (v := ?v6) rfl (by kernel_rfl) (by kernel_rfl) (by kernel_rfl) (fun _ _ _ h => h) (Or.inl ⟨by rfl, ?h6⟩) hS ?r6
      case h6 => (intro w1 _; go_simp; try with_reducible rfl)
      (try simp only [Act.put])
      refine wpAnyH_ready (rs := [2, 7]) (by kernel_rfl) (by simp) (AllReadyH.cons rfl (fun K hK => ?w1) (AllReadyH.cons rfl (fun K hK => ?w2) AllReadyH.nil))
      case w1 =>
        go_simp
        refine (IH.out _).mono ?_
        rintro e w1 ⟨rfl, hb⟩
        have hc := (bcell hb).1
        refine hK.out _ _ trivial (fun hS => ?_)
        clear hK K
        refine wpAnyH_ready (rs := [7]) (by kernel_rfl) (by simp) (AllReadyH.cons rfl (fun K hK => ?_) AllReadyH.nil)
        go_simp
        refine hK.out _ _ trivial (fun hS => ?_)
        clear hK K
        refine wpAnyH_ready (rs := [8]) (by kernel_rfl) (by simp) (AllReadyH.cons rfl (fun K hK => ?_) AllReadyH.nil)
        go_simp
        refine hK.out _ _ trivial (fun hS => ?_)
        clear hK K
        refine wpAnyH_ready (rs := [9]) (by kernel_rfl) (by simp) (AllReadyH.cons rfl (fun K hK => ?_) AllReadyH.nil)
        go_simp
        rw [if_neg (by omega)]
        go_simp
        refine hK.out _ _ trivial (fun hS => ?_)
        clear hK K
        refine wpAnyH_ready (rs := [10]) (by kernel_rfl) (by simp) (AllReadyH.cons rfl (fun K hK => ?_) AllReadyH.nil)
        go_simp
        refine hK.out _ _ trivial (fun hS => ?_)
        clear hK K
        refine wpAnyH_done (by kernel_rfl) ?_ _
        go_wp2_with fail
        go_ret
        exact ⟨by rw [HD.out]; rfl, ((Below.refl _ _).drew.trans hb).alloc (by have := hb.size; simpa using this) _⟩
      case w2 =>
        go_simp
        refine hK.out _ _ trivial (fun hS => ?_)
        clear hK K
        refine wpAnyH_ready (rs := [2, 8]) (by kernel_rfl) (by simp) (AllReadyH.cons rfl (fun K hK => ?w3) (AllReadyH.cons rfl (fun K hK => ?w4) AllReadyH.nil))
        case w3 =>
          go_simp
          refine (IH.out _).mono ?_
          rintro e w1 ⟨rfl, hb⟩
          have hc := (bcell hb).1
          refine hK.out _ _ trivial (fun hS => ?_)
          clear hK K
          refine wpAnyH_ready (rs := [8]) (by kernel_rfl) (by simp) (AllReadyH.cons rfl (fun K hK => ?_) AllReadyH.nil)
          go_simp
          refine hK.out _ _ trivial (fun hS => ?_)
          clear hK K
          refine wpAnyH_ready (rs := [9]) (by kernel_rfl) (by simp) (AllReadyH.cons rfl (fun K hK => ?_) AllReadyH.nil)
          go_simp
          rw [if_neg (by omega)]
          go_simp
          refine hK.out _ _ trivial (fun hS => ?_)
          clear hK K
          refine wpAnyH_ready (rs := [10]) (by kernel_rfl) (by simp) (AllReadyH.cons rfl (fun K hK => ?_) AllReadyH.nil)
          go_simp
          refine hK.out _ _ trivial (fun hS => ?_)
          clear hK K
          refine wpAnyH_done (by kernel_rfl) ?_ _
          go_wp2_with fail
          go_ret
          exact ⟨by rw [HD.out]; rfl, ((Below.refl _ _).drew.alloc (Nat.le_refl _) _).trans (hb.mono (by simp))⟩
        case w4 =>
          go_simp
          refine hK.out _ _ trivial (fun hS => ?_)
          clear hK K
          refine wpAnyH_ready (rs := [2]) (by kernel_rfl) (by simp) (AllReadyH.cons rfl (fun K hK => ?_) AllReadyH.nil)
          go_simp
          refine (IH.out _).mono ?_
          rintro e w1 ⟨rfl, hb⟩
          have hc := (bcell hb).1
          refine hK.out _ _ trivial (fun hS => ?_)
          clear hK K
          refine wpAnyH_ready (rs := [9]) (by kernel_rfl) (by simp) (AllReadyH.cons rfl (fun K hK => ?_) AllReadyH.nil)
          go_simp
          rw [if_neg (by omega)]
          go_simp
          refine hK.out _ _ trivial (fun hS => ?_)
          clear hK K
          refine wpAnyH_ready (rs := [10]) (by kernel_rfl) (by simp) (AllReadyH.cons rfl (fun K hK => ?_) AllReadyH.nil)
          go_simp
          refine hK.out _ _ trivial (fun hS => ?_)
          clear hK K
          refine wpAnyH_done (by kernel_rfl) ?_ _
          go_wp2_with fail
          go_ret
          exact ⟨by rw [HD.out]; rfl, ((Below.refl _ _).drew.alloc (Nat.le_refl _) _).trans (hb.mono (by simp))⟩
theorem itoa_nn {n : Int} {k : Nat} (h : n = k) : Lib.itoa n = Lib.decDigits k := by unfold Lib.itoa; rw [if_neg (by omega), show n.toNat = k by omega]
theorem itoa_ng {n : Int} {k : Nat} (h : -n = k) (h0 : n < 0) : Lib.itoa n = [45] ++ Lib.decDigits k := by unfold Lib.itoa; rw [if_pos h0, show n.natAbs = k by omega]; rfl
set_option maxRecDepth 100000 in
theorem decimal94 (n : Int) (w : World) (h0 : -1000000000000 < n) (h1 : n < 1000000000000) : Calls Tryz.prog 94 #[.int .i64 n] w fun e w' => e = .returned (.string (S (Lib.itoa n))) ∧ Below w.heap.size w w' := by
  by_cases hn : n < 0
  · have HN := Lib.hid (itoa_ng (n := n) (k := n.natAbs) (by omega) hn)
    have hL : (Lib.decDigits n.natAbs).length ≤ 12 := dd_le _ (by omega)
    have IH := Lib.hid (fun w' => dec_nn n.natAbs (-n) w' (by omega) (by omega))
    have em : (⟨#[45]⟩ : ByteArray) = S [45] := rfl
    obtain ⟨l, hl⟩ : ∃ l, l = Lib.decDigits n.natAbs := ⟨_, rfl⟩
    rw [← hl] at HN hL IH
    clear hl
    go_enter Tryz.func94, Tryz.ntmps94
    go_wp2_with fail
    refine (IH.out _).mono ?_
    rintro e w1 ⟨rfl, hb⟩
    go_wp2_with fail
    go_ret
    exact ⟨by rw [HN.out]; rfl, hb⟩
  · have h := dec_nn n.toNat n w (by omega) (by omega)
    rw [itoa_nn (n := n) (k := n.toNat) (by omega)]
    exact h
theorem idx_run (l : List UInt8) (k : Nat) (hk : k < l.length) (c : Int) (hc : c = (l[k].toNat : Int)) (W : World) : (Instr.index 9 (.string (S l)) (.int .i64 (k : Int))).run Tryz.prog W = .ok (.int .u8 c) W := by
  have h : 0 ≤ (k : Int) ∧ (k : Int) < (S l).size := by rw [S_size]; omega
  rw [run_index_string (h := Tryz.underlying9), dif_pos h]
  subst hc
  rfl
theorem idx_run0 (l : List UInt8) (hk : 0 < l.length) (c : Int) (hc : c = (l[0].toNat : Int)) (W : World) : (Instr.index 9 (.string (S l)) (.int .i64 0)).run Tryz.prog W = .ok (.int .u8 c) W := idx_run l 0 hk c hc W
theorem S_tail (c : UInt8) (m : Tx) (n : Nat) (hn : n = m.length + 1) : (S (c :: m)).extract 1 n = S m := by
  subst hn
  apply ByteArray.ext
  apply Array.ext'
  simp [ByteArray.data_extract, List.take_of_length_le]
theorem numb_no {s : Tx} (h : numO s = none) : Ending.returned (.tuple #[.int .i64 0, .bool false]) = .returned (.tuple #[.int .i64 ((numO s).getD 0), .bool (numO s).isSome]) := by rw [h]; rfl
theorem numb_yes {s : Tx} {a : Int} (h : numO s = some a) : Ending.returned (.tuple #[.int .i64 a, .bool true]) = .returned (.tuple #[.int .i64 ((numO s).getD 0), .bool (numO s).isSome]) := by rw [h]; rfl
theorem u8_eq {c : UInt8} {k : Nat} (hk : k < 256) : c = UInt8.ofNat k ↔ (c.toNat : Int) = k := by
  constructor
  · rintro rfl; simp; omega
  · intro h; apply UInt8.toNat_inj.1; simp; omega
/-- the rest of number: the digits d of s -/
theorem numO_len {s d : Tx} (hd : digs s = d) (h : d.length = 0 ∨ 9 < d.length ∨ (d.headD 0 = 48 ∧ (1 < d.length ∨ 1 < s.length))) : numO s = none := by
  rw [← refN_eq]; unfold refN; rw [hd, if_pos h]
theorem numO_bad {s d : Tx} (hd : digs s = d) {c : UInt8} (hc : c ∈ d) (h : ¬ isD c) : numO s = none := by
  rw [← refN_eq]; unfold refN; rw [hd]
  split
  · rfl
  · rw [if_neg (fun g => h (g c hc))]
theorem numO_good {s d : Tx} (hd : digs s = d) (h : ¬ (d.length = 0 ∨ 9 < d.length ∨ (d.headD 0 = 48 ∧ (1 < d.length ∨ 1 < s.length)))) (hg : ∀ c ∈ d, isD c) : numO s = some (if d.length < s.length then - (dval 0 d : Int) else (dval 0 d : Int)) := by
  rw [← refN_eq]; unfold refN; rw [hd, if_neg h, if_pos hg]
theorem dval_take {d : Tx} {k : Nat} (hk : k < d.length) : dval 0 (d.take (k + 1)) = 10 * dval 0 (d.take k) + (d[k].toNat - 48) := by
  rw [List.take_succ_eq_append_getElem hk, dval_snoc]
theorem dval_take_lt {d : Tx} {k : Nat} (hl : d.length ≤ 9) (hd : ∀ c ∈ d.take k, isD c) : dval 0 (d.take k) < 1000000000 := by
  have h := dval_lt (d.take k) 0 0 hd (by simp)
  have hl2 : (d.take k).length ≤ 9 := by rw [List.length_take]; omega
  have : (10 : Nat) ^ (0 + (d.take k).length) ≤ 10 ^ 9 := Nat.pow_le_pow_right (by omega) (by omega)
  omega
theorem headD_0 {d : Tx} (h : 0 < d.length) : d.headD 0 = d[0] := by cases d with | nil => simp at h | cons c m => rfl
set_option maxRecDepth 100000 in
set_option maxHeartbeats 4000000 in
theorem number95 (s : Tx) (hl : s.length ≤ 100000) (w : World) : Calls Tryz.prog 95 #[.string (S s)] w fun e w' => e = .returned (.tuple #[.int .i64 ((numO s).getD 0), .bool (numO s).isSome]) ∧ w = w' := by
  have hsl : (s.length : Int) ≤ 100000 := by omega
  cases s with
  | nil =>
    have HV : Hid (numO [] = none) := Lib.hid (numO_len (d := []) rfl (.inl rfl))
    have e0 : (S []).size = 0 := rfl
    go_enter Tryz.func95, Tryz.ntmps95
    go_wp2_with fail
    go_ret2
    exact ⟨numb_no HV.out, rfl⟩
  | cons c m =>
    obtain ⟨s, hs⟩ : ∃ s, s = c :: m := ⟨_, rfl⟩
    rw [← hs] at hl hsl ⊢
    have hs0 : 0 < s.length := by rw [hs]; simp
    obtain ⟨cc, hcc⟩ : ∃ cc : Int, cc = (c.toNat : Int) := ⟨_, rfl⟩
    have hix := idx_run0 s (by rw [hs]; simp) cc (by rw [hcc]; simp [hs])
    have hpos : 0 < (s.length : Int) := by rw [hs]; simp
    by_cases h45 : c = 45
    · have bq : (cc == 45) = true := by rw [hcc, h45]; rfl
      obtain ⟨d, hd⟩ : ∃ d, d = m := ⟨_, rfl⟩
      have HDG : Hid (digs s = d) := Lib.hid (by rw [hs, hd, h45]; rfl)
      have hext : (S s).extract 1 s.length = S d := by rw [hs, hd]; exact S_tail c m _ rfl
      have hsd : (d.length : Int) < (s.length : Int) := by rw [hs, hd]; simp; omega
      have hdl : (d.length : Int) ≤ 100000 := by omega
      have HSG := Lib.hid (show s.length = d.length + 1 by rw [hs, hd]; rfl)
      clear hs hd hcc h45
      go_enter Tryz.func95, Tryz.ntmps95
      go_upto_region 4 with (fail)
      have hdp : (d.length : Int) ≤ 100000 := by omega
      by_cases hlen : d.length = 0 ∨ 9 < d.length ∨ (d.headD 0 = 48 ∧ (1 < d.length ∨ 1 < s.length))
      · have HV := Lib.hid (numO_len HDG.out hlen)
        by_cases l0 : d.length = 0
        · have b1 : ((d.length : Int) == 0) = true := by simp [l0]
          have l0I : (d.length : Int) = 0 := by omega
          clear l0 hlen
          go_wp2_with fail
          go_ret2
          exact ⟨numb_no HV.out, rfl⟩
        · have b1 : ((d.length : Int) == 0) = false := by rw [beq_eq_false_iff_ne]; omega
          by_cases l9 : 9 < d.length
          · have l9I : 9 < (d.length : Int) := by omega
            clear hlen
            go_wp2_with fail
            go_ret2
            exact ⟨numb_no HV.out, rfl⟩
          · have l9I : ¬ 9 < (d.length : Int) := by omega
            obtain ⟨h48, h1⟩ := (hlen.resolve_left l0).resolve_left l9
            obtain ⟨c, hcc⟩ : ∃ c : Int, c = (d[0].toNat : Int) := ⟨_, rfl⟩
            have hiy := idx_run0 d (by omega) c hcc
            have hc48 : c = 48 := by rw [hcc, ← headD_0 (by omega), h48]; rfl
            have b3 : (c == 48) = true := by simp [hc48]
            clear hcc h48 hlen hc48
            by_cases l1 : 1 < d.length
            · have l1I : 1 < (d.length : Int) := by omega
              clear h1
              go_wp2_with fail
              go_ret2
              exact ⟨numb_no HV.out, rfl⟩
            · have l1I : ¬ 1 < (d.length : Int) := by omega
              have l2I : 1 < (s.length : Int) := by have := h1.resolve_left l1; omega
              clear h1
              go_wp2_with fail
              go_ret2
              exact ⟨numb_no HV.out, rfl⟩
      · have HLEN := Lib.hid hlen
        have l0 : ¬ d.length = 0 := fun h => hlen (.inl h)
        have l9 : ¬ 9 < d.length := fun h => hlen (.inr (.inl h))
        have b1 : ((d.length : Int) == 0) = false := by rw [beq_eq_false_iff_ne]; omega
        have l9I : ¬ 9 < (d.length : Int) := by omega
        obtain ⟨c0, hcc⟩ : ∃ c : Int, c = (d[0].toNat : Int) := ⟨_, rfl⟩
        have hiy := idx_run0 d (by omega) c0 hcc
        have h48 : (c0 == 48) = false ∨ ((c0 == 48) = true ∧ ¬ 1 < (d.length : Int) ∧ ¬ 1 < (s.length : Int)) := by
          cases hq : (c0 == 48)
          · exact .inl rfl
          · have e : d.headD 0 = 48 := by rw [headD_0 (by omega)]; exact (u8_eq (k := 48) (by decide)).2 (by rw [← hcc]; simpa using hq)
            exact .inr ⟨rfl, fun h => hlen (.inr (.inr ⟨e, .inl (by omega)⟩)), fun h => hlen (.inr (.inr ⟨e, .inr (by omega)⟩))⟩
        have HL9 := Lib.hid (show d.length ≤ 9 by omega)
        clear hcc hlen
        rcases h48 with b3 | ⟨b3, l1I, l2I⟩
        all_goals
          go_wp2_with fail
          go_loop [5, 6] (fun n i => ∃ (k : Nat) (v : Int), k ≤ d.length ∧ i = .int .i64 k ∧ n = .int .i64 v ∧ 0 ≤ v ∧ v < 1000000000 ∧ Hid (v = dval 0 (d.take k)) ∧ Hid (∀ c ∈ d.take k, isD c)) (fun _ i => d.length - (intOf i).toNat)
          case atStart => exact ⟨0, 0, Nat.zero_le _, rfl, rfl, by omega, by omega, Lib.hid rfl, Lib.hid (by simp)⟩
          case round =>
            obtain ⟨k, v, hk, rfl, rfl, v0, v1, HVV, HD⟩ := hrel
            by_cases hlt : k < d.length
            · have hltI : (k : Int) < (d.length : Int) := by omega
              obtain ⟨c, hcc⟩ : ∃ c : Int, c = (d[k].toNat : Int) := ⟨_, rfl⟩
              have c0 : 0 ≤ c := by omega
              have c1 : c ≤ 255 := by have := d[k].toNat_lt; omega
              have hiz := idx_run d k hlt c hcc
              have HCC := Lib.hid hcc
              clear hcc
              by_cases d0 : c < 48
              · have HV := Lib.hid (numO_bad HDG.out (List.getElem_mem hlt) (by unfold isD; have := HCC.out; omega))
                go_wp2_with fail
                go_ret2
                exact ⟨numb_no HV.out, rfl⟩
              · by_cases d1 : 57 < c
                · have HV := Lib.hid (numO_bad HDG.out (List.getElem_mem hlt) (by unfold isD; have := HCC.out; omega))
                  go_wp2_with fail
                  go_ret2
                  exact ⟨numb_no HV.out, rfl⟩
                · have hT : d.take (k + 1) = d.take k ++ [d[k]] := List.take_succ_eq_append_getElem hlt
                  have HD2 : Hid (∀ c ∈ d.take (k + 1), isD c) := Lib.hid (fun x hx => by
                    rw [hT] at hx
                    rcases List.mem_append.1 hx with h | h
                    · exact HD.out x h
                    · rw [List.mem_singleton.1 h]; unfold isD; have := HCC.out; omega)
                  have HV2 : Hid (10 * v + (c - 48) = dval 0 (d.take (k + 1))) := Lib.hid (by rw [dval_take hlt]; have := HVV.out; have := HCC.out; omega)
                  have v2 : 10 * v + (c - 48) < 1000000000 := by have := dval_take_lt HL9.out HD2.out; have := HV2.out; omega
                  have q0 : 0 ≤ c - 48 := by omega
                  have q9 : c - 48 ≤ 9 := by omega
                  clear hT
                  go_wp2_with fail
                  exact ⟨⟨k + 1, 10 * v + (c - 48), by omega, by go_num, rfl, by omega, v2, HV2, HD2⟩, by simp [intOf]; omega⟩
            · have hltI : ¬ (k : Int) < (d.length : Int) := by omega
              have HZ := Lib.hid (numO_good HDG.out HLEN.out (fun c hc => HD.out c (by rw [List.take_of_length_le (by omega)]; exact hc)))
              have HVV2 : Hid (v = dval 0 d) := Lib.hid (by rw [HVV.out, List.take_of_length_le (by omega)])
              have hsd2 := HSG.out
              rw [if_pos (by omega), ← HVV2.out] at HZ
              clear hsd2
              go_wp2_with fail
              go_ret2
              exact ⟨numb_yes HZ.out, rfl⟩
    · have bq : (cc == 45) = false := by
        rw [Bool.eq_false_iff]
        intro h
        exact h45 ((u8_eq (k := 45) (by decide)).2 (by rw [← hcc]; simpa using h))
      have HDG : Hid (digs s = s) := Lib.hid (by rw [hs]; unfold digs; rw [if_neg (by simpa using h45)])
      have HCC0 : Hid (cc = (s[0].toNat : Int)) := Lib.hid (by rw [hcc]; simp [hs])
      clear hs hcc h45
      go_enter Tryz.func95, Tryz.ntmps95
      go_upto_region 4 with (fail)
      have hdp : (s.length : Int) ≤ 100000 := by omega
      by_cases hlen : s.length = 0 ∨ 9 < s.length ∨ (s.headD 0 = 48 ∧ (1 < s.length ∨ 1 < s.length))
      · have HV := Lib.hid (numO_len HDG.out hlen)
        by_cases l0 : s.length = 0
        · have b1 : ((s.length : Int) == 0) = true := by simp [l0]
          have l0I : (s.length : Int) = 0 := by omega
          clear l0 hlen
          go_wp2_with fail
          go_ret2
          exact ⟨numb_no HV.out, rfl⟩
        · have b1 : ((s.length : Int) == 0) = false := by rw [beq_eq_false_iff_ne]; omega
          by_cases l9 : 9 < s.length
          · have l9I : 9 < (s.length : Int) := by omega
            clear hlen
            go_wp2_with fail
            go_ret2
            exact ⟨numb_no HV.out, rfl⟩
          · have l9I : ¬ 9 < (s.length : Int) := by omega
            obtain ⟨h48, h1⟩ := (hlen.resolve_left l0).resolve_left l9
            obtain ⟨c, hcd, hcc⟩ : ∃ c : Int, c = cc ∧ c = (s[0].toNat : Int) := ⟨_, rfl, HCC0.out⟩
            subst hcd
            have hc48 : c = 48 := by rw [hcc, ← headD_0 (by omega), h48]; rfl
            have b3 : (c == 48) = true := by simp [hc48]
            clear hcc h48 hlen hc48
            by_cases l1 : 1 < s.length
            · have l1I : 1 < (s.length : Int) := by omega
              clear h1
              go_wp2_with fail
              go_ret2
              exact ⟨numb_no HV.out, rfl⟩
            · exact absurd (h1.resolve_left l1) l1
      · have HLEN := Lib.hid hlen
        have l0 : ¬ s.length = 0 := fun h => hlen (.inl h)
        have l9 : ¬ 9 < s.length := fun h => hlen (.inr (.inl h))
        have b1 : ((s.length : Int) == 0) = false := by rw [beq_eq_false_iff_ne]; omega
        have l9I : ¬ 9 < (s.length : Int) := by omega
        obtain ⟨c0, hcd, hcc⟩ : ∃ c : Int, c = cc ∧ c = (s[0].toNat : Int) := ⟨_, rfl, HCC0.out⟩
        subst hcd
        have h48 : (c0 == 48) = false ∨ ((c0 == 48) = true ∧ ¬ 1 < (s.length : Int) ∧ ¬ 1 < (s.length : Int)) := by
          cases hq : (c0 == 48)
          · exact .inl rfl
          · have e : s.headD 0 = 48 := by rw [headD_0 (by omega)]; exact (u8_eq (k := 48) (by decide)).2 (by rw [← hcc]; simpa using hq)
            exact .inr ⟨rfl, fun h => hlen (.inr (.inr ⟨e, .inl (by omega)⟩)), fun h => hlen (.inr (.inr ⟨e, .inr (by omega)⟩))⟩
        have HL9 := Lib.hid (show s.length ≤ 9 by omega)
        clear hcc hlen
        rcases h48 with b3 | ⟨b3, l1I, l2I⟩
        all_goals
          go_wp2_with fail
          go_loop [5, 6] (fun n i => ∃ (k : Nat) (v : Int), k ≤ s.length ∧ i = .int .i64 k ∧ n = .int .i64 v ∧ 0 ≤ v ∧ v < 1000000000 ∧ Hid (v = dval 0 (s.take k)) ∧ Hid (∀ c ∈ s.take k, isD c)) (fun _ i => s.length - (intOf i).toNat)
          case atStart => exact ⟨0, 0, Nat.zero_le _, rfl, rfl, by omega, by omega, Lib.hid rfl, Lib.hid (by simp)⟩
          case round =>
            obtain ⟨k, v, hk, rfl, rfl, v0, v1, HVV, HD⟩ := hrel
            by_cases hlt : k < s.length
            · have hltI : (k : Int) < (s.length : Int) := by omega
              obtain ⟨c, hcc⟩ : ∃ c : Int, c = (s[k].toNat : Int) := ⟨_, rfl⟩
              have c0 : 0 ≤ c := by omega
              have c1 : c ≤ 255 := by have := s[k].toNat_lt; omega
              have hiz := idx_run s k hlt c hcc
              have HCC := Lib.hid hcc
              clear hcc
              by_cases d0 : c < 48
              · have HV := Lib.hid (numO_bad HDG.out (List.getElem_mem hlt) (by unfold isD; have := HCC.out; omega))
                go_wp2_with fail
                go_ret2
                exact ⟨numb_no HV.out, rfl⟩
              · by_cases d1 : 57 < c
                · have HV := Lib.hid (numO_bad HDG.out (List.getElem_mem hlt) (by unfold isD; have := HCC.out; omega))
                  go_wp2_with fail
                  go_ret2
                  exact ⟨numb_no HV.out, rfl⟩
                · have hT : s.take (k + 1) = s.take k ++ [s[k]] := List.take_succ_eq_append_getElem hlt
                  have HD2 : Hid (∀ c ∈ s.take (k + 1), isD c) := Lib.hid (fun x hx => by
                    rw [hT] at hx
                    rcases List.mem_append.1 hx with h | h
                    · exact HD.out x h
                    · rw [List.mem_singleton.1 h]; unfold isD; have := HCC.out; omega)
                  have HV2 : Hid (10 * v + (c - 48) = dval 0 (s.take (k + 1))) := Lib.hid (by rw [dval_take hlt]; have := HVV.out; have := HCC.out; omega)
                  have v2 : 10 * v + (c - 48) < 1000000000 := by have := dval_take_lt HL9.out HD2.out; have := HV2.out; omega
                  have q0 : 0 ≤ c - 48 := by omega
                  have q9 : c - 48 ≤ 9 := by omega
                  clear hT
                  go_wp2_with fail
                  exact ⟨⟨k + 1, 10 * v + (c - 48), by omega, by go_num, rfl, by omega, v2, HV2, HD2⟩, by simp [intOf]; omega⟩
            · have hltI : ¬ (k : Int) < (s.length : Int) := by omega
              have HZ := Lib.hid (numO_good HDG.out HLEN.out (fun c hc => HD.out c (by rw [List.take_of_length_le (by omega)]; exact hc)))
              have HVV2 : Hid (v = dval 0 s) := Lib.hid (by rw [HVV.out, List.take_of_length_le (by omega)])
              rw [if_neg (by omega), ← HVV2.out] at HZ
              go_wp2_with fail
              go_ret2
              exact ⟨numb_yes HZ.out, rfl⟩
end Go.Proofs.YtnnnpliigdfipaaGreatDoor
