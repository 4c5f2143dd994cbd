/- squitter's reference: addrs, Known, Pending. -/
import Derived.Test.YtkikokldijccnaaDoorRows
import Derived.WalkKit
import Derived.WalkLawsBesides
import Derived.WalkSpells
import Derived.ProofKit
import Derived.Below
import Derived.Outline
import Derived.Lib.Hide
import Derived.Deep.RegionWith
import Derived.Deep.RegionHeld3
import Derived.Deep.DrawnRows
import Derived.StillTailTactics
import Derived.BigQuiet
import Derived.Deep.QuietTactic
import Derived.Deep.LoopGhost
import Derived.IntWalk
import Derived.BigQuiet
import Derived.Test.YtkikokldijccnaaDoorSrB
namespace Go.Proofs.YtkikokldijccnaaDoor
open Go.RowKit Go.Maps
attribute [local go_sem ↓] Go.wp_at_zero Go.wp_at_succ
attribute [local go_sem] wrap_lit
theorem addrsF_len (f : Int → Bool) (P : List (Int × Int)) : ∀ (n : Nat) (last : Int), (addrsF f P n last).length ≤ n
  | 0, _ => Nat.le_refl _
  | n + 1, last => by
    have ih := addrsF_len f P n (nextA last P)
    unfold addrsF
    split
    · simp
    · rw [List.length_append]
      split <;> simp <;> omega
theorem next_take (last : Int) (P : List (Int × Int)) (k : Nat) (h : k < P.length) : nextA last (P.take (k + 1)) = if last < stl P k ∧ (nextA last (P.take k) < 0 ∨ stl P k < nextA last (P.take k)) then stl P k else nextA last (P.take k) := by
  rw [take_sts P k h]
  unfold nextA
  rw [List.foldl_append]
  rfl
theorem next_ge {last : Int} {P : List (Int × Int)} (hl : -1 ≤ last) : -1 ≤ nextA last P := (next_fold last P (-1) (Int.le_refl _) (fun h => by omega) hl _ rfl).1
set_option maxRecDepth 100000 in
set_option maxHeartbeats 4000000 in
theorem addrs34t {w : World} {R cap : Nat} {A : Option Addr} {need win keep now : Int} {P : List (Int × Int)} (hR : RefR w R need win keep now A cap P) (hB : RefB need win keep now P) : Calls Tryd.prog 34 #[.pointer (some ⟨R, 0, none⟩), .bool true] w (RowP w (addrsF (fitF P need win keep now true) P (P.length + 1) (-1))) := by
  obtain ⟨i0, hi0, hz0, hz1, hz2⟩ := info_parts int_info
  have HR := Lib.hid hR
  have HB := Lib.hid hB
  have hlP := hR.len
  have hbd : ∀ k, k < P.length → 0 ≤ stl P k ∧ stl P k ≤ 16777215 := fun k hk => by have := hB.p _ (sts_at hk); exact ⟨this.1, this.2.1⟩
  have HBD := Lib.hid hbd
  have htl : (addrsF (fitF P need win keep now true) P (P.length + 1) (-1)).length ≤ P.length + 1 := addrsF_len _ _ _ _
  obtain ⟨tot, htot⟩ : ∃ tot, tot = addrsF (fitF P need win keep now true) P (P.length + 1) (-1) := ⟨_, rfl⟩
  rw [← htot] at htl ⊢
  have hr0 : restA (-1) P < P.length + 1 := by
    have := List.length_filter_le (fun p : Int × Int => decide (-1 < p.1)) P
    unfold restA
    omega
  have HR0 := Lib.hid hr0
  have HTOT := Lib.hid htot
  clear hR hB hbd hr0 htot
  go_enter Tryd.func34, Tryd.ntmps34
  go_wp2_with fail
  go_loopw [5, 6, 7, 8, 9] (fun v la _ _ _ wr => ∃ (last : Int) (n : Nat) (ys : List Int), -1 ≤ last ∧ last ≤ 16777215 ∧ la = .int .i64 last ∧ restA last P < n ∧ ys ++ addrsF (fitF P need win keep now true) P n last = tot ∧ Acc .i64 wr w.heap.size 3 1 v ys.length ys ∧ Below w.heap.size w wr) (fun _ la _ _ _ _ => restA (intOf la) P)
  case atStart => exact ⟨-1, P.length + 1, [], Int.le_refl _, by decide, rfl, HR0.out, by rw [List.nil_append]; exact HTOT.out.symm, Acc.nil _ _ _ _ _, Below.refl _ _⟩
  case round =>
    obtain ⟨last, n, ys, l0, l1, rfl, hn, hys, hacc, hb⟩ := hrel
    have HN := Lib.hid (And.intro hn hys)
    have HACC := Lib.hid hacc
    have HB1 := Lib.hid hb
    have HRR := Lib.hid (HR.out.below hb)
    have r4 := HRR.out.c4
    have hyl : ys.length ≤ 2000 := by have := congrArg List.length hys; rw [List.length_append] at this; omega
    have hsr := hb.size
    clear hn hys hacc hb
    go_wp2_with fail
    go_loop [7, 8, 9] (fun nx i _ => ∃ k : Nat, k ≤ P.length ∧ nx = .int .i64 (nextA last (P.take k)) ∧ i = .int .i64 k) (fun _ i _ => P.length - (intOf i).toNat)
    case atStart => exact ⟨0, Nat.zero_le _, rfl, rfl⟩
    case round =>
      obtain ⟨k, hk, rfl, rfl⟩ := hrel
      have hge := next_ge (P := P.take k) l0
      by_cases hlt : k < P.length
      · obtain ⟨b, off, rfl, hbb, c1, -⟩ := HRR.out.at_ hlt
        have hnt := next_take last P k hlt
        obtain ⟨b0, b1⟩ := HBD.out k hlt
        have hltI : (k : Int) < (P.length : Int) := by omega
        obtain ⟨a, ha⟩ : ∃ a, a = stl P k := ⟨_, rfl⟩
        rw [← ha] at c1 hnt b0 b1
        obtain ⟨x, hx⟩ : ∃ x, x = nextA last (P.take k) := ⟨_, rfl⟩
        rw [← hx] at hnt hge ⊢
        clear ha hx
        cases q1 : decide (last < a) with
        | false =>
          have hnt : nextA last (P.take (k + 1)) = x := by rw [hnt, if_neg]; rintro ⟨g, -⟩; exact of_decide_eq_false q1 g
          have HNT := Lib.hid hnt
          clear hnt
          go_wp2_with fail
          exact ⟨⟨k + 1, by omega, by rw [HNT.out], by go_num⟩, by simp [intOf]; omega⟩
        | true =>
          cases q2 : decide (x < 0) with
          | true =>
            have hnt : nextA last (P.take (k + 1)) = a := by rw [hnt, if_pos ⟨of_decide_eq_true q1, .inl (of_decide_eq_true q2)⟩]
            have HNT := Lib.hid hnt
            clear hnt
            go_wp2_with fail
            exact ⟨⟨k + 1, by omega, by rw [HNT.out], by go_num⟩, by simp [intOf]; omega⟩
          | false =>
            cases q3 : decide (a < x) with
            | true =>
              have hnt : nextA last (P.take (k + 1)) = a := by rw [hnt, if_pos ⟨of_decide_eq_true q1, .inr (of_decide_eq_true q3)⟩]
              have HNT := Lib.hid hnt
              clear hnt
              go_wp2_with fail
              exact ⟨⟨k + 1, by omega, by rw [HNT.out], by go_num⟩, by simp [intOf]; omega⟩
            | false =>
              have hnt : nextA last (P.take (k + 1)) = x := by
                rw [hnt, if_neg]; rintro ⟨-, g⟩
                rcases g with g | g
                · exact of_decide_eq_false q2 g
                · exact of_decide_eq_false q3 g
              have HNT := Lib.hid hnt
              clear hnt
              go_wp2_with fail
              exact ⟨⟨k + 1, by omega, by rw [HNT.out], by go_num⟩, by simp [intOf]; omega⟩
      · obtain rfl : k = P.length := by omega
        rw [List.take_length] at hge ⊢
        clear hlt
        obtain ⟨m, hm⟩ : ∃ m, n = m + 1 := ⟨n - 1, by have := HN.out.1; omega⟩
        subst hm
        have hF : addrsF (fitF P need win keep now true) P (m + 1) last = if nextA last P < 0 then [] else (if (fitF P need win keep now true) (nextA last P) then [nextA last P] else []) ++ addrsF (fitF P need win keep now true) P m (nextA last P) := rfl
        by_cases hx0 : nextA last P < 0
        · have hE : ys = tot := by have := HN.out.2; rw [hF, if_pos hx0, List.append_nil] at this; exact this
          subst hE
          have q1 : decide (nextA last P < 0) = true := decide_eq_true hx0
          clear hF hx0
          go_wp2_with fail
          go_ret
          exact RowP.of HACC.out HB1.out
        · obtain ⟨s1, ⟨p, hp, hp2⟩, -⟩ := nextA_some (P := P) l0 (by omega)
          have hrl := rest_lt l0 (P := P) (by omega)
          have hx1 : nextA last P ≤ 16777215 := by rw [← hp2]; exact (HB.out.p p hp).2.1
          have hE := HN.out.2
          rw [hF, if_neg hx0] at hE
          have hn2 : restA (nextA last P) P < m := by have := HN.out.1; omega
          have q1 : decide (nextA last P < 0) = false := decide_eq_false hx0
          obtain ⟨x, hx⟩ : ∃ x, x = nextA last P := ⟨_, rfl⟩
          rw [← hx] at hE hx1 hge q1 hrl hn2 ⊢
          have HE := Lib.hid (And.intro hE (And.intro hn2 hrl))
          clear hF hx0 hE hn2 hrl hx s1 hp hp2 p
          have hff : (fitF P need win keep now true) x = knownF P need win keep now x := rfl
          cases hfx : knownF P need win keep now x with
          | true =>
            rw [hfx] at hff
            rw [hff] at HE
            go_wp2_with fail
            refine (known29 HRR.out HB.out x).mono ?_
            rintro e w2 ⟨rfl, hb2⟩
            rw [hfx]
            have HA2 := Lib.hid (HACC.out.below hb2)
            have HB2 := Lib.hid (HB1.out.trans (hb2.mono hsr))
            have hs2 := hb2.size
            clear hb2 hff hfx
            go_wp2_with (first
              | (at_builtin; refine wpList_appH rfl _ _ 38 rfl .i64 w.heap.size 3 i0 _ 1 8 Tryd.underlying38 hi0 hz0 hz1 hz2 rfl (by decide) _ _ _ [x] rfl HA2.out _ rfl w2.heap.size rfl rfl rfl (by omega) (by decide) (by omega) ?_; intro v' w4 hacc4 hb4)
              | go_in)
            exact ⟨⟨x, m, ys ++ [x], hge, hx1, rfl, HE.out.2.1, by rw [List.append_assoc]; exact HE.out.1, by rw [List.length_append]; exact hacc4, HB2.out.trans hb4⟩, HE.out.2.2⟩
          | false =>
            rw [hfx] at hff
            rw [hff] at HE
            go_wp2_with fail
            refine (known29 HRR.out HB.out x).mono ?_
            rintro e w2 ⟨rfl, hb2⟩
            rw [hfx]
            have HA2 := Lib.hid (HACC.out.below hb2)
            have HB2 := Lib.hid (HB1.out.trans (hb2.mono hsr))
            clear hb2 hff hfx
            go_wp2_with fail
            exact ⟨⟨x, m, ys, hge, hx1, rfl, HE.out.2.1, HE.out.1, HA2.out, HB2.out⟩, HE.out.2.2⟩
set_option maxRecDepth 100000 in
set_option maxHeartbeats 4000000 in
theorem addrs34f {w : World} {R cap : Nat} {A : Option Addr} {need win keep now : Int} {P : List (Int × Int)} (hR : RefR w R need win keep now A cap P) (hB : RefB need win keep now P) : Calls Tryd.prog 34 #[.pointer (some ⟨R, 0, none⟩), .bool false] w (RowP w (addrsF (fitF P need win keep now false) P (P.length + 1) (-1))) := by
  obtain ⟨i0, hi0, hz0, hz1, hz2⟩ := info_parts int_info
  have HR := Lib.hid hR
  have HB := Lib.hid hB
  have hlP := hR.len
  have hbd : ∀ k, k < P.length → 0 ≤ stl P k ∧ stl P k ≤ 16777215 := fun k hk => by have := hB.p _ (sts_at hk); exact ⟨this.1, this.2.1⟩
  have HBD := Lib.hid hbd
  have htl : (addrsF (fitF P need win keep now false) P (P.length + 1) (-1)).length ≤ P.length + 1 := addrsF_len _ _ _ _
  obtain ⟨tot, htot⟩ : ∃ tot, tot = addrsF (fitF P need win keep now false) P (P.length + 1) (-1) := ⟨_, rfl⟩
  rw [← htot] at htl ⊢
  have hr0 : restA (-1) P < P.length + 1 := by
    have := List.length_filter_le (fun p : Int × Int => decide (-1 < p.1)) P
    unfold restA
    omega
  have HR0 := Lib.hid hr0
  have HTOT := Lib.hid htot
  clear hR hB hbd hr0 htot
  go_enter Tryd.func34, Tryd.ntmps34
  go_wp2_with fail
  go_loopw [5, 6, 7, 8, 9] (fun v la _ _ _ wr => ∃ (last : Int) (n : Nat) (ys : List Int), -1 ≤ last ∧ last ≤ 16777215 ∧ la = .int .i64 last ∧ restA last P < n ∧ ys ++ addrsF (fitF P need win keep now false) P n last = tot ∧ Acc .i64 wr w.heap.size 3 1 v ys.length ys ∧ Below w.heap.size w wr) (fun _ la _ _ _ _ => restA (intOf la) P)
  case atStart => exact ⟨-1, P.length + 1, [], Int.le_refl _, by decide, rfl, HR0.out, by rw [List.nil_append]; exact HTOT.out.symm, Acc.nil _ _ _ _ _, Below.refl _ _⟩
  case round =>
    obtain ⟨last, n, ys, l0, l1, rfl, hn, hys, hacc, hb⟩ := hrel
    have HN := Lib.hid (And.intro hn hys)
    have HACC := Lib.hid hacc
    have HB1 := Lib.hid hb
    have HRR := Lib.hid (HR.out.below hb)
    have r4 := HRR.out.c4
    have hyl : ys.length ≤ 2000 := by have := congrArg List.length hys; rw [List.length_append] at this; omega
    have hsr := hb.size
    clear hn hys hacc hb
    go_wp2_with fail
    go_loop [7, 8, 9] (fun nx i _ => ∃ k : Nat, k ≤ P.length ∧ nx = .int .i64 (nextA last (P.take k)) ∧ i = .int .i64 k) (fun _ i _ => P.length - (intOf i).toNat)
    case atStart => exact ⟨0, Nat.zero_le _, rfl, rfl⟩
    case round =>
      obtain ⟨k, hk, rfl, rfl⟩ := hrel
      have hge := next_ge (P := P.take k) l0
      by_cases hlt : k < P.length
      · obtain ⟨b, off, rfl, hbb, c1, -⟩ := HRR.out.at_ hlt
        have hnt := next_take last P k hlt
        obtain ⟨b0, b1⟩ := HBD.out k hlt
        have hltI : (k : Int) < (P.length : Int) := by omega
        obtain ⟨a, ha⟩ : ∃ a, a = stl P k := ⟨_, rfl⟩
        rw [← ha] at c1 hnt b0 b1
        obtain ⟨x, hx⟩ : ∃ x, x = nextA last (P.take k) := ⟨_, rfl⟩
        rw [← hx] at hnt hge ⊢
        clear ha hx
        cases q1 : decide (last < a) with
        | false =>
          have hnt : nextA last (P.take (k + 1)) = x := by rw [hnt, if_neg]; rintro ⟨g, -⟩; exact of_decide_eq_false q1 g
          have HNT := Lib.hid hnt
          clear hnt
          go_wp2_with fail
          exact ⟨⟨k + 1, by omega, by rw [HNT.out], by go_num⟩, by simp [intOf]; omega⟩
        | true =>
          cases q2 : decide (x < 0) with
          | true =>
            have hnt : nextA last (P.take (k + 1)) = a := by rw [hnt, if_pos ⟨of_decide_eq_true q1, .inl (of_decide_eq_true q2)⟩]
            have HNT := Lib.hid hnt
            clear hnt
            go_wp2_with fail
            exact ⟨⟨k + 1, by omega, by rw [HNT.out], by go_num⟩, by simp [intOf]; omega⟩
          | false =>
            cases q3 : decide (a < x) with
            | true =>
              have hnt : nextA last (P.take (k + 1)) = a := by rw [hnt, if_pos ⟨of_decide_eq_true q1, .inr (of_decide_eq_true q3)⟩]
              have HNT := Lib.hid hnt
              clear hnt
              go_wp2_with fail
              exact ⟨⟨k + 1, by omega, by rw [HNT.out], by go_num⟩, by simp [intOf]; omega⟩
            | false =>
              have hnt : nextA last (P.take (k + 1)) = x := by
                rw [hnt, if_neg]; rintro ⟨-, g⟩
                rcases g with g | g
                · exact of_decide_eq_false q2 g
                · exact of_decide_eq_false q3 g
              have HNT := Lib.hid hnt
              clear hnt
              go_wp2_with fail
              exact ⟨⟨k + 1, by omega, by rw [HNT.out], by go_num⟩, by simp [intOf]; omega⟩
      · obtain rfl : k = P.length := by omega
        rw [List.take_length] at hge ⊢
        clear hlt
        obtain ⟨m, hm⟩ : ∃ m, n = m + 1 := ⟨n - 1, by have := HN.out.1; omega⟩
        subst hm
        have hF : addrsF (fitF P need win keep now false) P (m + 1) last = if nextA last P < 0 then [] else (if (fitF P need win keep now false) (nextA last P) then [nextA last P] else []) ++ addrsF (fitF P need win keep now false) P m (nextA last P) := rfl
        by_cases hx0 : nextA last P < 0
        · have hE : ys = tot := by have := HN.out.2; rw [hF, if_pos hx0, List.append_nil] at this; exact this
          subst hE
          have q1 : decide (nextA last P < 0) = true := decide_eq_true hx0
          clear hF hx0
          go_wp2_with fail
          go_ret
          exact RowP.of HACC.out HB1.out
        · obtain ⟨s1, ⟨p, hp, hp2⟩, -⟩ := nextA_some (P := P) l0 (by omega)
          have hrl := rest_lt l0 (P := P) (by omega)
          have hx1 : nextA last P ≤ 16777215 := by rw [← hp2]; exact (HB.out.p p hp).2.1
          have hE := HN.out.2
          rw [hF, if_neg hx0] at hE
          have hn2 : restA (nextA last P) P < m := by have := HN.out.1; omega
          have q1 : decide (nextA last P < 0) = false := decide_eq_false hx0
          obtain ⟨x, hx⟩ : ∃ x, x = nextA last P := ⟨_, rfl⟩
          rw [← hx] at hE hx1 hge q1 hrl hn2 ⊢
          have HE := Lib.hid (And.intro hE (And.intro hn2 hrl))
          clear hF hx0 hE hn2 hrl hx s1 hp hp2 p
          have hff : (fitF P need win keep now false) x = pendF P need win keep now x := rfl
          cases hfx : pendF P need win keep now x with
          | true =>
            rw [hfx] at hff
            rw [hff] at HE
            go_wp2_with fail
            refine (pending30 HRR.out HB.out x).mono ?_
            rintro e w2 ⟨rfl, hb2⟩
            rw [hfx]
            have HA2 := Lib.hid (HACC.out.below hb2)
            have HB2 := Lib.hid (HB1.out.trans (hb2.mono hsr))
            have hs2 := hb2.size
            clear hb2 hff hfx
            go_wp2_with (first
              | (at_builtin; refine wpList_appH rfl _ _ 38 rfl .i64 w.heap.size 3 i0 _ 1 8 Tryd.underlying38 hi0 hz0 hz1 hz2 rfl (by decide) _ _ _ [x] rfl HA2.out _ rfl w2.heap.size rfl rfl rfl (by omega) (by decide) (by omega) ?_; intro v' w4 hacc4 hb4)
              | go_in)
            exact ⟨⟨x, m, ys ++ [x], hge, hx1, rfl, HE.out.2.1, by rw [List.append_assoc]; exact HE.out.1, by rw [List.length_append]; exact hacc4, HB2.out.trans hb4⟩, HE.out.2.2⟩
          | false =>
            rw [hfx] at hff
            rw [hff] at HE
            go_wp2_with fail
            refine (pending30 HRR.out HB.out x).mono ?_
            rintro e w2 ⟨rfl, hb2⟩
            rw [hfx]
            have HA2 := Lib.hid (HACC.out.below hb2)
            have HB2 := Lib.hid (HB1.out.trans (hb2.mono hsr))
            clear hb2 hff hfx
            go_wp2_with fail
            exact ⟨⟨x, m, ys, hge, hx1, rfl, HE.out.2.1, HE.out.1, HA2.out, HB2.out⟩, HE.out.2.2⟩
theorem refKnown18 {w : World} {R cap : Nat} {A : Option Addr} {need win keep now : Int} {P : List (Int × Int)} (hR : RefR w R need win keep now A cap P) (hB : RefB need win keep now P) : Calls Tryd.prog 18 #[.pointer (some ⟨R, 0, none⟩)] w (RowP w (addrsF (fitF P need win keep now true) P (P.length + 1) (-1))) := by
  go_enter Tryd.func18, Tryd.ntmps18
  go_wp2_with (first | (go_at_call 34; refine (addrs34t hR hB).mono ?_; rintro e w1 ⟨A1, cap1, rfl, h1, h2, h3⟩) | go_in)
  go_ret
  exact ⟨A1, cap1, rfl, h1, h2, h3⟩
theorem refPend19 {w : World} {R cap : Nat} {A : Option Addr} {need win keep now : Int} {P : List (Int × Int)} (hR : RefR w R need win keep now A cap P) (hB : RefB need win keep now P) : Calls Tryd.prog 19 #[.pointer (some ⟨R, 0, none⟩)] w (RowP w (addrsF (fitF P need win keep now false) P (P.length + 1) (-1))) := by
  go_enter Tryd.func19, Tryd.ntmps19
  go_wp2_with (first | (go_at_call 34; refine (addrs34f hR hB).mono ?_; rintro e w1 ⟨A1, cap1, rfl, h1, h2, h3⟩) | go_in)
  go_ret
  exact ⟨A1, cap1, rfl, h1, h2, h3⟩
end Go.Proofs.YtkikokldijccnaaDoor
