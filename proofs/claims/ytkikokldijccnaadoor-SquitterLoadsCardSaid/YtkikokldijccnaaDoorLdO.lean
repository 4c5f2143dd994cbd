/- squitter's reference: Accepts. -/
import Derived.Test.YtkikokldijccnaaDoorRows
import Derived.WalkKit
import Derived.WalkLawsBesides
import Derived.WalkSpells
import Derived.ProofKit
import Derived.Below
import Derived.Outline
import Derived.Lib.Hide
import Derived.Deep.RegionWith
import Derived.Deep.RegionHeld3
import Derived.Deep.DrawnRows
import Derived.StillTailTactics
import Derived.BigQuiet
import Derived.Deep.QuietTactic
import Derived.Deep.LoopGhost
import Derived.IntWalk
import Derived.BigQuiet
import Derived.OrdersHeld
import Derived.Deep.CutRange
import Derived.Deep.DeepCutAuto
import Derived.Test.YtkikokldijccnaaDoorLdN
import Derived.Test.YtkikokldijccnaaDoorRC
namespace Go.Proofs.YtkikokldijccnaaDoor
open Go.RowKit Go.Maps
attribute [local go_sem ↓] Go.wp_at_zero Go.wp_at_succ
attribute [local go_sem] wrap_lit

set_option maxHeartbeats 1000000 in
theorem wrong9 (need win keep : Int) (w : World) : Calls Tryd.prog 9 #[.int .i64 need, .int .i64 win, .int .i64 keep] w fun e w' => e = .returned (.int .i64 (newE need win keep)) ∧ w' = w := by
  have key : newE need win keep = if (decide (need < 1) || decide (8 < need) || decide (win < need) || decide (64 < win) || decide (keep < win) || decide (1024 < keep)) then 1 else 0 := by
    unfold newE
    simp only [Bool.or_eq_true, decide_eq_true_eq, or_assoc]
  have HK := Lib.hid key
  clear key
  go_enter Tryd.func9, Tryd.ntmps9
  cases q1 : decide (need < 1) with
  | true =>
    go_wp2_with fail
    go_ret
    exact ⟨by rw [HK.out, q1]; rfl, rfl⟩
  | false =>
    cases q2 : decide (8 < need) with
    | true =>
      go_wp2_with fail
      go_ret
      exact ⟨by rw [HK.out, q1, q2]; rfl, rfl⟩
    | false =>
      cases q3 : decide (win < need) with
      | true =>
        go_wp2_with fail
        go_ret
        exact ⟨by rw [HK.out, q1, q2, q3]; rfl, rfl⟩
      | false =>
        cases q4 : decide (64 < win) with
        | true =>
          go_wp2_with fail
          go_ret
          exact ⟨by rw [HK.out, q1, q2, q3, q4]; rfl, rfl⟩
        | false =>
          cases q5 : decide (keep < win) with
          | true =>
            go_wp2_with fail
            go_ret
            exact ⟨by rw [HK.out, q1, q2, q3, q4, q5]; rfl, rfl⟩
          | false =>
            cases q6 : decide (1024 < keep) with
            | true =>
              go_wp2_with fail
              go_ret
              exact ⟨by rw [HK.out, q1, q2, q3, q4, q5, q6]; rfl, rfl⟩
            | false =>
              go_wp2_with fail
              go_ret
              exact ⟨by rw [HK.out, q1, q2, q3, q4, q5, q6]; rfl, rfl⟩

theorem accRow_at {t : Ts} {last : Int} {x : List Int} (h : 3 ≤ x.length) : accRow t last x = decide (nth x 0 ≤ 16777215 ∧ last < nth x 0 ∧ nth x 1 ≤ 1 ∧ (∀ d ∈ x.drop 2, d ≤ t.now) ∧ (x.drop 2).Pairwise (· < ·) ∧ ¬ (nth x 1 = 0 ∧ t.need ≤ (x.length : Int) - 2) ∧ (t.now - t.win < nth x 2 ∨ ¬ (nth x 1 = 0 ∨ 3 < x.length ∨ nth x 2 ≤ t.now - t.keep))) := by
  rcases x with _ | ⟨a, _ | ⟨k, _ | ⟨c, cy⟩⟩⟩
  · simp at h
  · simp at h
  · simp at h
  · have e1 : nth (a :: k :: c :: cy) 0 = a := rfl
    have e2 : nth (a :: k :: c :: cy) 1 = k := rfl
    have e3 : nth (a :: k :: c :: cy) 2 = c := rfl
    have e4 : (a :: k :: c :: cy).drop 2 = c :: cy := rfl
    have e5 : (((a :: k :: c :: cy).length : Nat) : Int) - 2 = ((c :: cy).length : Int) := by simp; omega
    have e6 : (3 < (a :: k :: c :: cy).length) ↔ cy ≠ [] := by rw [← List.length_pos_iff]; simp
    rw [e1, e2, e3, e4, e5]
    unfold accRow
    rw [decide_eq_decide, e6]
theorem accRow_short {t : Ts} {last : Int} {x : List Int} (h : x.length < 3) : accRow t last x = false := by
  rcases x with _ | ⟨a, _ | ⟨k, _ | ⟨c, cy⟩⟩⟩
  · rfl
  · rfl
  · rfl
  · simp at h; omega
theorem nth_drop (x : List Int) (m j : Nat) : nth (x.drop m) j = nth x (m + j) := by simp [nth, List.getD_eq_getElem?_getD]
/-- the address behind which row i must stand -/
def lastAt (L : List (List Int)) (i : Nat) : Int := if i ≤ 1 then -1 else nth (row L (i - 1)) 0
theorem row_drop {L : List (List Int)} {i : Nat} (h : i < L.length) : L.drop i = row L i :: L.drop (i + 1) := by
  rw [List.drop_eq_getElem_cons h]
  congr 1
  unfold row; simp [List.getD_eq_getElem?_getD, h]
theorem headD_nth0 (l : List Int) : l.headD 0 = nth l 0 := by cases l <;> rfl
theorem acc_step {t : Ts} {L : List (List Int)} {i : Nat} (h1 : 1 ≤ i) (h : i < L.length) : accRows t (lastAt L i) (L.drop i) = (accRow t (lastAt L i) (row L i) && accRows t (lastAt L (i + 1)) (L.drop (i + 1))) := by
  rw [row_drop h]
  conv => lhs; unfold accRows
  rw [headD_nth0]
  congr 2
  unfold lastAt
  rw [if_neg (by omega), Nat.add_sub_cancel]
theorem acc_end {t : Ts} {L : List (List Int)} {last : Int} : accRows t last (L.drop L.length) = true := by rw [List.drop_length]; rfl
theorem acc_head {L : List (List Int)} {need win keep now : Int} (h0 : row L 0 = [need, win, keep, now]) (hn : 0 < L.length) : accL L = (decide (L.length ≤ 65 ∧ newE need win keep = 0 ∧ now ≤ 1073741824) && accRows ⟨need, win, keep, now, []⟩ (lastAt L 1) (L.drop 1)) := by
  have e := row_drop (i := 0) hn
  rw [List.drop_zero, h0] at e
  have hl : (L.drop (0 + 1)).length + 1 = L.length := by rw [List.length_drop]; omega
  conv => lhs; rw [e]
  show (decide ((L.drop (0 + 1)).length ≤ 64 ∧ newE need win keep = 0 ∧ now ≤ 1073741824) && accRows ⟨need, win, keep, now, []⟩ (-1) (L.drop (0 + 1))) = _
  congr 1
  rw [decide_eq_decide]
  omega
theorem acc_bad {L : List (List Int)} (hn : 0 < L.length) (h : (row L 0).length ≠ 4) : accL L = false := by
  have e := row_drop (i := 0) hn
  rw [List.drop_zero] at e
  rw [e]
  unfold accL
  split
  · rename_i heq
    injection heq with heq _
    rw [heq] at h; simp at h
  · rfl
theorem itoa_pos (n : Int) : 1 ≤ (Lib.itoa n).length := by
  have h : Lib.itoa n ≠ [] := itoa_ne n
  exact List.length_pos_iff.2 h
theorem lineX_ge : ∀ l : List Int, l.length ≤ (lineX l).length
  | [] => Nat.zero_le _
  | [a] => by have := itoa_pos a; simp [lineX, lineJ, Lib.join_cons, Lib.joinTail]
  | a :: b :: l => by
    have ih := lineX_ge (b :: l)
    have e : lineX (a :: b :: l) = Lib.itoa a ++ [32] ++ lineX (b :: l) := by unfold lineX lineJ; rw [List.map_cons, List.map_cons, join_two]; simp
    have := itoa_pos a
    rw [e, List.length_append, List.length_append, List.length_singleton, List.length_cons]
    omega
theorem row_short {s : Tx} {L : List (List Int)} (h : scanR s [] [] 0 false = some L) : ∀ r ∈ L, r.length ≤ s.length := by
  have e := (scan_text s [] [] 0 false L h (by omega) (fun _ => rfl) (fun m hm => by cases hm) (fun r hr => by cases hr)).1
  have e : (L.map lineX).flatten = s := by rw [e]; simp [flatW, preW]
  intro r hr
  refine Nat.le_trans (lineX_ge r) ?_
  rw [← e]
  obtain ⟨a, b, rfl⟩ := List.append_of_mem hr
  simp only [List.map_append, List.map_cons, List.flatten_append, List.flatten_cons, List.length_append]
  omega
theorem list4 {l : List Int} (h : l.length = 4) : ∃ a b c d, l = [a, b, c, d] := by
  rcases l with _ | ⟨a, _ | ⟨b, _ | ⟨c, _ | ⟨d, _ | ⟨e, l⟩⟩⟩⟩⟩ <;> simp at h
  exact ⟨_, _, _, _, rfl⟩
theorem row_mem {L : List (List Int)} {i : Nat} (h : i < L.length) : row L i ∈ L := by
  unfold row; rw [List.getD_eq_getElem?_getD, List.getElem?_eq_getElem h]; exact List.getElem_mem h

set_option maxRecDepth 100000 in
set_option maxHeartbeats 8000000 in
theorem acc_none (s : Tx) (hs : s.length ≤ 100000) (w : World) (hno : scanR s [] [] 0 false = none) : Calls Tryd.prog 28 #[.string (S s)] w fun e w' => e = .returned (.bool (acceptsT s)) ∧ Below w.heap.size w w' := by
  go_enter Tryd.func28, Tryd.ntmps28
  go_wp2_with fail
  refine (numbers50 s hs w).mono ?_
  rintro e w1 ⟨v, bb, rfl, hcase, hb1⟩
  have HB1 := Lib.hid hb1
  have hs1 := hb1.size
  clear hb1
  rcases hcase with ⟨rfl, L', hL', A, cap, rfl, hris⟩ | ⟨rfl, -⟩
  · exact absurd (hno.symm.trans hL') (by simp)
  have HF : Hid (acceptsT s = false) := Lib.hid (by unfold acceptsT; rw [hno])
  clear hno
  go_wp2_with fail
  go_quiet (fail)
  go_wp2_with fail
  go_ret
  exact ⟨ret_bool HF.out.symm, HB1.out.trans ((below_drewN (Below.refl _ _) _).mono hs1)⟩

set_option maxRecDepth 100000 in
set_option maxHeartbeats 8000000 in
theorem acc_nil (s : Tx) (hs : s.length ≤ 100000) (w : World) (hL : scanR s [] [] 0 false = some []) : Calls Tryd.prog 28 #[.string (S s)] w fun e w' => e = .returned (.bool (acceptsT s)) ∧ Below w.heap.size w w' := by
  go_enter Tryd.func28, Tryd.ntmps28
  go_wp2_with fail
  refine (numbers50 s hs w).mono ?_
  rintro e w1 ⟨v, bb, rfl, hcase, hb1⟩
  have HB1 := Lib.hid hb1
  have hs1 := hb1.size
  clear hb1
  rcases hcase with ⟨rfl, L', hL', A, cap, rfl, hris⟩ | ⟨rfl, hno⟩
  rotate_left
  · exact absurd (hno.symm.trans hL) (by simp)
  obtain rfl : L' = [] := Option.some.inj (hL'.symm.trans hL)
  have HAC : Hid (acceptsT s = accL []) := Lib.hid (by unfold acceptsT; rw [hL])
  have HNN := Lib.hid (scan_text s [] [] 0 false [] hL (by omega) (fun _ => rfl) (fun m hm => by cases hm) (fun r hr => by cases hr)).2
  have HSH := Lib.hid (row_short hL)
  clear hL hL'
  have HF : Hid (acceptsT s = false) := Lib.hid (by rw [HAC.out]; rfl)
  clear hris
  go_wp2_with fail
  go_quiet (fail)
  go_wp2_with fail
  go_ret
  exact ⟨ret_bool HF.out.symm, HB1.out.trans ((below_drewN (Below.refl _ _) _).mono hs1)⟩

set_option maxRecDepth 100000 in
set_option maxHeartbeats 8000000 in
theorem acc_many (s : Tx) (hs : s.length ≤ 100000) (w : World) {L : List (List Int)} (hL : scanR s [] [] 0 false = some L) (h65 : 65 < L.length) : Calls Tryd.prog 28 #[.string (S s)] w fun e w' => e = .returned (.bool (acceptsT s)) ∧ Below w.heap.size w w' := by
  go_enter Tryd.func28, Tryd.ntmps28
  go_wp2_with fail
  refine (numbers50 s hs w).mono ?_
  rintro e w1 ⟨v, bb, rfl, hcase, hb1⟩
  have HB1 := Lib.hid hb1
  have hs1 := hb1.size
  clear hb1
  rcases hcase with ⟨rfl, L', hL', A, cap, rfl, hris⟩ | ⟨rfl, hno⟩
  rotate_left
  · exact absurd (hno.symm.trans hL) (by simp)
  have e : L = L' := (Option.some.inj (hL'.symm.trans hL)).symm
  subst e
  clear hL'
  have HAC : Hid (acceptsT s = accL L) := Lib.hid (by unfold acceptsT; rw [hL])
  have HNN := Lib.hid (scan_text s [] [] 0 false L hL (by omega) (fun _ => rfl) (fun m hm => by cases hm) (fun r hr => by cases hr)).2
  have HSH := Lib.hid (row_short hL)
  clear hL
  have hn : 0 < L.length := by omega
  obtain ⟨b, off, rfl, hb, hrows⟩ := hris hn
  have q1 : ((L.length : Int) == 0) = false := by rw [beq_eq_false_iff_ne]; omega
  have h65I : (65 : Int) < (L.length : Int) := by omega
  have q2 : decide (65 < L.length) = true := decide_eq_true h65
  have HF : Hid (acceptsT s = false) := Lib.hid (by
    rw [HAC.out]
    by_cases h4 : (row L 0).length = 4
    · obtain ⟨need, win, keep, now, h0⟩ := list4 h4
      rw [acc_head h0 hn, decide_eq_false (by omega)]; rfl
    · exact acc_bad hn h4)
  clear hrows hris
  go_wp2_with fail
  go_quiet (fail)
  go_wp2_with fail
  go_ret
  exact ⟨ret_bool HF.out.symm, HB1.out.trans ((below_drewN (Below.refl _ _) _).mono hs1)⟩

set_option maxRecDepth 100000 in
set_option maxHeartbeats 8000000 in
theorem acc_four (s : Tx) (hs : s.length ≤ 100000) (w : World) {L : List (List Int)} (hL : scanR s [] [] 0 false = some L) (hn : 0 < L.length) (hl65 : L.length ≤ 65) (h4 : (row L 0).length ≠ 4) : Calls Tryd.prog 28 #[.string (S s)] w fun e w' => e = .returned (.bool (acceptsT s)) ∧ Below w.heap.size w w' := by
  go_enter Tryd.func28, Tryd.ntmps28
  go_wp2_with fail
  refine (numbers50 s hs w).mono ?_
  rintro e w1 ⟨v, bb, rfl, hcase, hb1⟩
  have HB1 := Lib.hid hb1
  have hs1 := hb1.size
  clear hb1
  rcases hcase with ⟨rfl, L', hL', A, cap, rfl, hris⟩ | ⟨rfl, hno⟩
  rotate_left
  · exact absurd (hno.symm.trans hL) (by simp)
  have e : L = L' := (Option.some.inj (hL'.symm.trans hL)).symm
  subst e
  clear hL'
  have HAC : Hid (acceptsT s = accL L) := Lib.hid (by unfold acceptsT; rw [hL])
  have HNN := Lib.hid (scan_text s [] [] 0 false L hL (by omega) (fun _ => rfl) (fun m hm => by cases hm) (fun r hr => by cases hr)).2
  have HSH := Lib.hid (row_short hL)
  clear hL
  obtain ⟨b, off, rfl, hb, hrows⟩ := hris hn
  have HRW := Lib.hid hrows
  have q1 : ((L.length : Int) == 0) = false := by rw [beq_eq_false_iff_ne]; omega
  have q2 : decide (65 < L.length) = false := decide_eq_false (by omega)
  have q2I : decide ((65 : Int) < (L.length : Int)) = false := decide_eq_false (by omega)
  obtain ⟨A0, C0, x0, hI0⟩ := HRW.out 0 hn
  rw [Nat.add_zero] at x0
  clear hrows hris
  have HF : Hid (acceptsT s = false) := Lib.hid (by rw [HAC.out]; exact acc_bad hn h4)
  have q3 : (((row L 0).length : Int) == 4) = false := by rw [beq_eq_false_iff_ne]; omega
  have q3' : (((row L 0).length : Int) != 4) = true := by rw [bne, q3]; rfl
  clear h4 hI0
  go_wp2_with fail
  refine wp_region_held_drew (S := fun w' => w'.cell? ⟨b, off, none⟩ = some (.slice A0 (row L 0).length C0)) (by kernel_rfl) (x0) (fun hS => ?_)
  refine wpAnyH_take (i := 0) (v := ?vP1_1) rfl (by kernel_rfl) (by kernel_rfl) (by kernel_rfl) (fun _ _ _ h => h) (Or.inl ⟨by rfl, ?hP1_1⟩) hS ?rP1_1
  case hP1_1 =>
    intro w1 hSw
    clear hSw
    go_simp
    try with_reducible rfl
  (try go_frame)
  refine wpAnyH_take (i := 1) (v := ?vP1_2) rfl (by kernel_rfl) (by kernel_rfl) (by kernel_rfl) (fun _ _ _ h => h) (Or.inl ⟨by rfl, ?hP1_2⟩) hS ?rP1_2
  case hP1_2 =>
    intro w1 hSw
    clear hSw
    go_simp
    try with_reducible rfl
  (try go_frame)
  refine wpAnyH_take (i := 2) (v := ?vP1_3) rfl (by kernel_rfl) (by kernel_rfl) (by kernel_rfl) (fun _ _ _ h => h) (Or.inl ⟨by rfl, ?hP1_3⟩) hS ?rP1_3
  case hP1_3 =>
    intro w1 hSw
    clear hSw
    go_simp
    try with_reducible rfl
  (try go_frame)
  refine wpAnyH_take (i := 3) (v := ?vP1_4) rfl (by kernel_rfl) (by kernel_rfl) (by kernel_rfl) (fun _ _ _ h => h) (Or.inl ⟨by kernel_rfl, ?hP1_4⟩) hS ?rP1_4
  case hP1_4 =>
    intro w1 hSw
    clear hSw
    go_simp
    try with_reducible rfl
  (try go_frame)
  refine wpAnyH_take (i := 4) (v := ?vP1_5) rfl (by kernel_rfl) (by kernel_rfl) (by kernel_rfl) (fun _ _ _ h => h) (Or.inl ⟨by kernel_rfl, ?hP1_5⟩) hS ?rP1_5
  case hP1_5 =>
    intro w1 hSw
    clear hSw
    go_simp
    try with_reducible rfl
  (try go_frame)
  refine wpAnyH_take (i := 5) (v := ?vP1_6) rfl (by kernel_rfl) (by kernel_rfl) (by kernel_rfl) (fun _ _ _ h => h) (Or.inl ⟨by kernel_rfl, ?hP1_6⟩) hS ?rP1_6
  case hP1_6 =>
    intro w1 hSw
    clear hSw
    go_simp
    try with_reducible rfl
  (try go_frame)
  refine wpAnyH_take (i := 6) (v := ?vP1_7) rfl (by kernel_rfl) (by kernel_rfl) (by kernel_rfl) (fun _ _ _ h => h) (Or.inl ⟨by kernel_rfl, ?hP1_7⟩) hS ?rP1_7
  case hP1_7 =>
    intro w1 hSw
    clear hSw
    go_simp
    try with_reducible rfl
  (try go_frame)
  refine wpAnyH_take (i := 7) (v := ?vP1_8) rfl (by kernel_rfl) (by kernel_rfl) (by kernel_rfl) (fun _ _ _ h => h) (Or.inl ⟨by kernel_rfl, ?hP1_8⟩) hS ?rP1_8
  case hP1_8 =>
    intro w1 hSw
    clear hSw
    go_simp
    try with_reducible rfl
  (try go_frame)
  refine wpAnyH_take (i := 8) (v := ?vP1_9) rfl (by kernel_rfl) (by kernel_rfl) (by kernel_rfl) (fun _ _ _ h => h) (Or.inl ⟨by kernel_rfl, ?hP1_9⟩) hS ?rP1_9
  case hP1_9 =>
    intro w1 hSw
    clear hSw
    go_simp
    try with_reducible rfl
  (try go_frame)
  refine wpAnyH_take (i := 9) (v := ?vP1_10) rfl (by kernel_rfl) (by kernel_rfl) (by kernel_rfl) (fun _ _ _ h => h) (Or.inl ⟨by kernel_rfl, ?hP1_10⟩) hS ?rP1_10
  case hP1_10 =>
    intro w1 hSw
    clear hSw
    go_simp
    try with_reducible rfl
  (try go_frame)
  refine wpAnyH_take (i := 10) (v := ?vP1_11) rfl (by kernel_rfl) (by kernel_rfl) (by kernel_rfl) (fun _ _ _ h => h) (Or.inl ⟨by kernel_rfl, ?hP1_11⟩) hS ?rP1_11
  case hP1_11 =>
    intro w1 hSw
    clear hSw
    go_simp
    try with_reducible rfl
  (try go_frame)
  refine wpAnyH_take (i := 11) (v := ?vP1_12) rfl (by kernel_rfl) (by kernel_rfl) (by kernel_rfl) (fun _ _ _ h => h) (Or.inl ⟨by kernel_rfl, ?hP1_12⟩) hS ?rP1_12
  case hP1_12 =>
    intro w1 hSw
    clear hSw
    go_simp
    try with_reducible rfl
  (try go_frame)
  refine wpAnyH_take (i := 12) (v := ?vP1_13) rfl (by kernel_rfl) (by kernel_rfl) (by kernel_rfl) (fun _ _ _ h => h) (Or.inl ⟨by kernel_rfl, ?hP1_13⟩) hS ?rP1_13
  case hP1_13 =>
    intro w1 hSw
    clear hSw
    go_simp
    try with_reducible rfl
  (try go_frame)
  refine wpAnyH_take (i := 13) (v := ?vP1_14) rfl (by kernel_rfl) (by kernel_rfl) (by kernel_rfl) (fun _ _ _ h => h) (Or.inl ⟨by kernel_rfl, ?hP1_14⟩) hS ?rP1_14
  case hP1_14 =>
    intro w1 hSw
    clear hSw
    go_simp
    try with_reducible rfl
  (try go_frame)
  refine wpAnyH_take (i := 14) (v := ?vP1_15) rfl (by kernel_rfl) (by kernel_rfl) (by kernel_rfl) (fun _ _ _ h => h) (Or.inl ⟨by kernel_rfl, ?hP1_15⟩) hS ?rP1_15
  case hP1_15 =>
    intro w1 hSw
    clear hSw
    go_simp
    try with_reducible rfl
  (try go_frame)
  refine wpAnyH_take (i := 15) (v := ?vP1_16) rfl (by kernel_rfl) (by kernel_rfl) (by kernel_rfl) (fun _ _ _ h => h) (Or.inl ⟨by kernel_rfl, ?hP1_16⟩) hS ?rP1_16
  case hP1_16 =>
    intro w1 hSw
    have y0 : w1.cell? ⟨b, off, none⟩ = some (.slice A0 (row L 0).length C0) := hSw
    clear hSw
    go_simp
    try with_reducible rfl
  (try go_frame)
  refine wpAnyH_take (i := 16) (v := ?vP1_17) rfl (by kernel_rfl) (by kernel_rfl) (by kernel_rfl) (fun _ _ _ h => h) (Or.inl ⟨by kernel_rfl, ?hP1_17⟩) hS ?rP1_17
  case hP1_17 =>
    intro w1 hSw
    clear hSw
    go_simp
    try with_reducible rfl
  (try go_frame)
  refine wpAnyH_take (i := 17) (v := ?vP1_18) rfl (by kernel_rfl) (by kernel_rfl) (by kernel_rfl) (fun _ _ _ h => h) (Or.inl ⟨by kernel_rfl, ?hP1_18⟩) hS ?rP1_18
  case hP1_18 =>
    intro w1 hSw
    clear hSw
    go_simp
    try with_reducible rfl
  (try go_frame)
  refine wpAnyH_take (i := 18) (v := ?vP1_19) rfl (by kernel_rfl) (by kernel_rfl) (by kernel_rfl) (fun _ _ _ h => h) (Or.inl ⟨by kernel_rfl, ?hP1_19⟩) hS ?rP1_19
  case hP1_19 =>
    intro w1 hSw
    clear hSw
    go_simp
    try with_reducible rfl
  (try go_frame)
  refine wpAnyH_take (i := 19) (v := ?vP1_20) rfl (by kernel_rfl) (by kernel_rfl) (by kernel_rfl) (fun _ _ _ h => h) (Or.inl ⟨by kernel_rfl, ?hP1_20⟩) hS ?rP1_20
  case hP1_20 =>
    intro w1 hSw
    clear hSw
    go_simp
    try with_reducible rfl
  (try go_frame)
  refine wpAnyH_take (i := 20) (v := undef) rfl (by kernel_rfl) (by kernel_rfl) (by kernel_rfl) (fun _ _ _ h => h) (Or.inr ⟨by kernel_rfl, rfl⟩) hS ?rP1_21
  (try go_frame)
  refine wpAnyH_take (i := 21) (v := undef) rfl (by kernel_rfl) (by kernel_rfl) (by kernel_rfl) (fun _ _ _ h => h) (Or.inr ⟨by kernel_rfl, rfl⟩) hS ?rP1_22
  (try go_frame)
  refine wpAnyH_take (i := 22) (v := undef) rfl (by kernel_rfl) (by kernel_rfl) (by kernel_rfl) (fun _ _ _ h => h) (Or.inr ⟨by kernel_rfl, rfl⟩) hS ?rP1_23
  (try go_frame)
  refine wpAnyH_take (i := 23) (v := undef) rfl (by kernel_rfl) (by kernel_rfl) (by kernel_rfl) (fun _ _ _ h => h) (Or.inr ⟨by kernel_rfl, rfl⟩) hS ?rP1_24
  (try go_frame)
  refine wpAnyH_take (i := 24) (v := undef) rfl (by kernel_rfl) (by kernel_rfl) (by kernel_rfl) (fun _ _ _ h => h) (Or.inr ⟨by kernel_rfl, rfl⟩) hS ?rP1_25
  (try go_frame)
  refine wpAnyH_take (i := 25) (v := undef) rfl (by kernel_rfl) (by kernel_rfl) (by kernel_rfl) (fun _ _ _ h => h) (Or.inr ⟨by kernel_rfl, rfl⟩) hS ?rP1_26
  (try go_frame)
  refine wpAnyH_take (i := 26) (v := undef) rfl (by kernel_rfl) (by kernel_rfl) (by kernel_rfl) (fun _ _ _ h => h) (Or.inr ⟨by kernel_rfl, rfl⟩) hS ?rP1_27
  (try go_frame)
  refine wpAnyH_take (i := 27) (v := undef) rfl (by kernel_rfl) (by kernel_rfl) (by kernel_rfl) (fun _ _ _ h => h) (Or.inr ⟨by kernel_rfl, rfl⟩) hS ?rP1_28
  (try go_frame)
  refine wpAnyH_take (i := 28) (v := undef) rfl (by kernel_rfl) (by kernel_rfl) (by kernel_rfl) (fun _ _ _ h => h) (Or.inr ⟨by kernel_rfl, rfl⟩) hS ?rP1_29
  (try go_frame)
  refine wpAnyH_take (i := 29) (v := undef) rfl (by kernel_rfl) (by kernel_rfl) (by kernel_rfl) (fun _ _ _ h => h) (Or.inr ⟨by kernel_rfl, rfl⟩) hS ?rP1_30
  (try go_frame)
  refine wpAnyH_take (i := 30) (v := undef) rfl (by kernel_rfl) (by kernel_rfl) (by kernel_rfl) (fun _ _ _ h => h) (Or.inr ⟨by kernel_rfl, rfl⟩) hS ?rP1_31
  (try go_frame)
  refine wpAnyH_take (i := 31) (v := undef) rfl (by kernel_rfl) (by kernel_rfl) (by kernel_rfl) (fun _ _ _ h => h) (Or.inr ⟨by kernel_rfl, rfl⟩) hS ?rP1_32
  (try go_frame)
  refine wpAnyH_take (i := 32) (v := undef) rfl (by kernel_rfl) (by kernel_rfl) (by kernel_rfl) (fun _ _ _ h => h) (Or.inr ⟨by kernel_rfl, rfl⟩) hS ?rP1_33
  (try go_frame)
  refine wpAnyH_take (i := 33) (v := undef) rfl (by kernel_rfl) (by kernel_rfl) (by kernel_rfl) (fun _ _ _ h => h) (Or.inr ⟨by kernel_rfl, rfl⟩) hS ?rP1_34
  (try go_frame)
  refine wpAnyH_take (i := 34) (v := undef) rfl (by kernel_rfl) (by kernel_rfl) (by kernel_rfl) (fun _ _ _ h => h) (Or.inr ⟨by kernel_rfl, rfl⟩) hS ?rP1_35
  (try go_frame)
  refine wpAnyH_take (i := 35) (v := undef) rfl (by kernel_rfl) (by kernel_rfl) (by kernel_rfl) (fun _ _ _ h => h) (Or.inr ⟨by kernel_rfl, rfl⟩) hS ?rP1_36
  (try go_frame)
  refine wpAnyH_take (i := 36) (v := undef) rfl (by kernel_rfl) (by kernel_rfl) (by kernel_rfl) (fun _ _ _ h => h) (Or.inr ⟨by kernel_rfl, rfl⟩) hS ?rP1_37
  (try go_frame)
  refine wpAnyH_take (i := 37) (v := ?vP1_38) rfl (by kernel_rfl) (by kernel_rfl) (by kernel_rfl) (fun _ _ _ h => h) (Or.inl ⟨by kernel_rfl, ?hP1_38⟩) hS ?rP1_38
  case hP1_38 =>
    intro w1 hSw
    clear hSw
    go_simp
    try with_reducible rfl
  (try go_frame)
  refine wpAnyH_take (i := 38) (v := ?vP1_39) rfl (by kernel_rfl) (by kernel_rfl) (by kernel_rfl) (fun _ _ _ h => h) (Or.inl ⟨by kernel_rfl, ?hP1_39⟩) hS ?rP1_39
  case hP1_39 =>
    intro w1 hSw
    clear hSw
    go_simp
    try with_reducible rfl
  (try go_frame)
  refine wpAnyH_take (i := 39) (v := undef) rfl (by kernel_rfl) (by kernel_rfl) (by kernel_rfl) (fun _ _ _ h => h) (Or.inr ⟨by kernel_rfl, rfl⟩) hS ?rP1_40
  (try go_frame)
  refine wpAnyH_take (i := 40) (v := undef) rfl (by kernel_rfl) (by kernel_rfl) (by kernel_rfl) (fun _ _ _ h => h) (Or.inr ⟨by kernel_rfl, rfl⟩) hS ?rP1_41
  (try go_frame)
  refine wpAnyH_take (i := 41) (v := undef) rfl (by kernel_rfl) (by kernel_rfl) (by kernel_rfl) (fun _ _ _ h => h) (Or.inr ⟨by kernel_rfl, rfl⟩) hS ?rP1_42
  (try go_frame)
  refine wpAnyH_take (i := 42) (v := undef) rfl (by kernel_rfl) (by kernel_rfl) (by kernel_rfl) (fun _ _ _ h => h) (Or.inr ⟨by kernel_rfl, rfl⟩) hS ?rP1_43
  (try go_frame)
  refine wpAnyH_take (i := 43) (v := undef) rfl (by kernel_rfl) (by kernel_rfl) (by kernel_rfl) (fun _ _ _ h => h) (Or.inr ⟨by kernel_rfl, rfl⟩) hS ?rP1_44
  (try go_frame)
  refine wpAnyH_take (i := 44) (v := undef) rfl (by kernel_rfl) (by kernel_rfl) (by kernel_rfl) (fun _ _ _ h => h) (Or.inr ⟨by kernel_rfl, rfl⟩) hS ?rP1_45
  (try go_frame)
  refine wpAnyH_ready (rs := [45]) (by kernel_rfl) (by simp) (AllReadyH.cons rfl (fun K hK => ?_) AllReadyH.nil)
  go_simp
  refine hK.out _ _ (hS) (fun hS => ?_)
  clear hK K
  refine wpAnyH_done (by kernel_rfl) ?_ _
  go_wp2_with fail
  go_ret
  exact ⟨ret_bool HF.out.symm, HB1.out.trans ((below_drewN (Below.refl _ _) _).mono hs1)⟩

set_option maxRecDepth 100000 in
set_option maxHeartbeats 8000000 in
theorem acc_new (s : Tx) (hs : s.length ≤ 100000) (w : World) {L : List (List Int)} (hL : scanR s [] [] 0 false = some L) {need win keep now : Int} (hn : 0 < L.length) (hl65 : L.length ≤ 65) (h0 : row L 0 = [need, win, keep, now]) (h : newE need win keep ≠ 0) : Calls Tryd.prog 28 #[.string (S s)] w fun e w' => e = .returned (.bool (acceptsT s)) ∧ Below w.heap.size w w' := by
  go_enter Tryd.func28, Tryd.ntmps28
  go_wp2_with fail
  refine (numbers50 s hs w).mono ?_
  rintro e w1 ⟨v, bb, rfl, hcase, hb1⟩
  have HB1 := Lib.hid hb1
  have hs1 := hb1.size
  clear hb1
  rcases hcase with ⟨rfl, L', hL', A, cap, rfl, hris⟩ | ⟨rfl, hno⟩
  rotate_left
  · exact absurd (hno.symm.trans hL) (by simp)
  have e : L = L' := (Option.some.inj (hL'.symm.trans hL)).symm
  subst e
  clear hL'
  have HAC : Hid (acceptsT s = accL L) := Lib.hid (by unfold acceptsT; rw [hL])
  have HNN := Lib.hid (scan_text s [] [] 0 false L hL (by omega) (fun _ => rfl) (fun m hm => by cases hm) (fun r hr => by cases hr)).2
  have HSH := Lib.hid (row_short hL)
  clear hL
  obtain ⟨b, off, rfl, hb, hrows⟩ := hris hn
  have HRW := Lib.hid hrows
  have q1 : ((L.length : Int) == 0) = false := by rw [beq_eq_false_iff_ne]; omega
  have q2 : decide (65 < L.length) = false := decide_eq_false (by omega)
  have q2I : decide ((65 : Int) < (L.length : Int)) = false := decide_eq_false (by omega)
  obtain ⟨A0, C0, x0, hI0⟩ := HRW.out 0 hn
  rw [Nat.add_zero] at x0
  clear hrows hris
  have HH := Lib.hid (acc_head h0 hn)
  have H0 := Lib.hid h0
  rw [h0] at hI0 x0
  obtain ⟨b0, o0, rfl, hb0, hc0⟩ := hI0 (by simp)
  have z0 : w1.cell? ⟨b0, o0, none⟩ = some (.int .i64 need) := hc0 0 (by simp)
  have z1 : w1.cell? ⟨b0, o0 + 1, none⟩ = some (.int .i64 win) := hc0 1 (by simp)
  have z2 : w1.cell? ⟨b0, o0 + 2, none⟩ = some (.int .i64 keep) := hc0 2 (by simp)
  have z3 : w1.cell? ⟨b0, o0 + 3, none⟩ = some (.int .i64 now) := hc0 3 (by simp)
  have x0 : w1.cell? ⟨b, off, none⟩ = some (.slice (some ⟨b0, o0, none⟩) 4 C0) := x0
  have hnow : 0 ≤ now := by have := (HNN.out _ (row_mem hn)).2 now; rw [h0] at this; exact this (by simp)
  clear h0 hc0
  have q4 : (newE need win keep != 0) = true := by simpa using h
  have HF : Hid (acceptsT s = false) := Lib.hid (by rw [HAC.out, HH.out, decide_eq_false (by rintro ⟨-, h', -⟩; exact h h')]; rfl)
  clear h
  go_wp2_with fail
  refine wp_region_held_drew (S := fun w' => w'.cell? ⟨b, off, none⟩ = some (.slice (some ⟨b0, o0, none⟩) 4 C0) ∧ w'.cell? ⟨b0, o0, none⟩ = some (.int .i64 need) ∧ w'.cell? ⟨b0, o0 + 1, none⟩ = some (.int .i64 win) ∧ w'.cell? ⟨b0, o0 + 2, none⟩ = some (.int .i64 keep) ∧ w'.cell? ⟨b0, o0 + 3, none⟩ = some (.int .i64 now)) (by kernel_rfl) (⟨x0, z0, z1, z2, z3⟩) (fun hS => ?_)
  refine wpAnyH_take (i := 0) (v := ?vP2_1) rfl (by kernel_rfl) (by kernel_rfl) (by kernel_rfl) (fun _ _ _ h => h) (Or.inl ⟨by rfl, ?hP2_1⟩) hS ?rP2_1
  case hP2_1 =>
    intro w1 hSw
    clear hSw
    go_simp
    try with_reducible rfl
  (try go_frame)
  refine wpAnyH_take (i := 1) (v := ?vP2_2) rfl (by kernel_rfl) (by kernel_rfl) (by kernel_rfl) (fun _ _ _ h => h) (Or.inl ⟨by rfl, ?hP2_2⟩) hS ?rP2_2
  case hP2_2 =>
    intro w1 hSw
    clear hSw
    go_simp
    try with_reducible rfl
  (try go_frame)
  refine wpAnyH_take (i := 2) (v := ?vP2_3) rfl (by kernel_rfl) (by kernel_rfl) (by kernel_rfl) (fun _ _ _ h => h) (Or.inl ⟨by rfl, ?hP2_3⟩) hS ?rP2_3
  case hP2_3 =>
    intro w1 hSw
    clear hSw
    go_simp
    try with_reducible rfl
  (try go_frame)
  refine wpAnyH_take (i := 3) (v := ?vP2_4) rfl (by kernel_rfl) (by kernel_rfl) (by kernel_rfl) (fun _ _ _ h => h) (Or.inl ⟨by kernel_rfl, ?hP2_4⟩) hS ?rP2_4
  case hP2_4 =>
    intro w1 hSw
    clear hSw
    go_simp
    try with_reducible rfl
  (try go_frame)
  refine wpAnyH_take (i := 4) (v := ?vP2_5) rfl (by kernel_rfl) (by kernel_rfl) (by kernel_rfl) (fun _ _ _ h => h) (Or.inl ⟨by kernel_rfl, ?hP2_5⟩) hS ?rP2_5
  case hP2_5 =>
    intro w1 hSw
    clear hSw
    go_simp
    try with_reducible rfl
  (try go_frame)
  refine wpAnyH_take (i := 5) (v := ?vP2_6) rfl (by kernel_rfl) (by kernel_rfl) (by kernel_rfl) (fun _ _ _ h => h) (Or.inl ⟨by kernel_rfl, ?hP2_6⟩) hS ?rP2_6
  case hP2_6 =>
    intro w1 hSw
    clear hSw
    go_simp
    try with_reducible rfl
  (try go_frame)
  refine wpAnyH_take (i := 6) (v := ?vP2_7) rfl (by kernel_rfl) (by kernel_rfl) (by kernel_rfl) (fun _ _ _ h => h) (Or.inl ⟨by kernel_rfl, ?hP2_7⟩) hS ?rP2_7
  case hP2_7 =>
    intro w1 hSw
    clear hSw
    go_simp
    try with_reducible rfl
  (try go_frame)
  refine wpAnyH_take (i := 7) (v := ?vP2_8) rfl (by kernel_rfl) (by kernel_rfl) (by kernel_rfl) (fun _ _ _ h => h) (Or.inl ⟨by kernel_rfl, ?hP2_8⟩) hS ?rP2_8
  case hP2_8 =>
    intro w1 hSw
    clear hSw
    go_simp
    try with_reducible rfl
  (try go_frame)
  refine wpAnyH_take (i := 8) (v := ?vP2_9) rfl (by kernel_rfl) (by kernel_rfl) (by kernel_rfl) (fun _ _ _ h => h) (Or.inl ⟨by kernel_rfl, ?hP2_9⟩) hS ?rP2_9
  case hP2_9 =>
    intro w1 hSw
    clear hSw
    go_simp
    try with_reducible rfl
  (try go_frame)
  refine wpAnyH_take (i := 9) (v := ?vP2_10) rfl (by kernel_rfl) (by kernel_rfl) (by kernel_rfl) (fun _ _ _ h => h) (Or.inl ⟨by kernel_rfl, ?hP2_10⟩) hS ?rP2_10
  case hP2_10 =>
    intro w1 hSw
    clear hSw
    go_simp
    try with_reducible rfl
  (try go_frame)
  refine wpAnyH_take (i := 10) (v := ?vP2_11) rfl (by kernel_rfl) (by kernel_rfl) (by kernel_rfl) (fun _ _ _ h => h) (Or.inl ⟨by kernel_rfl, ?hP2_11⟩) hS ?rP2_11
  case hP2_11 =>
    intro w1 hSw
    clear hSw
    go_simp
    try with_reducible rfl
  (try go_frame)
  refine wpAnyH_take (i := 11) (v := ?vP2_12) rfl (by kernel_rfl) (by kernel_rfl) (by kernel_rfl) (fun _ _ _ h => h) (Or.inl ⟨by kernel_rfl, ?hP2_12⟩) hS ?rP2_12
  case hP2_12 =>
    intro w1 hSw
    clear hSw
    go_simp
    try with_reducible rfl
  (try go_frame)
  refine wpAnyH_take (i := 12) (v := ?vP2_13) rfl (by kernel_rfl) (by kernel_rfl) (by kernel_rfl) (fun _ _ _ h => h) (Or.inl ⟨by kernel_rfl, ?hP2_13⟩) hS ?rP2_13
  case hP2_13 =>
    intro w1 hSw
    clear hSw
    go_simp
    try with_reducible rfl
  (try go_frame)
  refine wpAnyH_take (i := 13) (v := ?vP2_14) rfl (by kernel_rfl) (by kernel_rfl) (by kernel_rfl) (fun _ _ _ h => h) (Or.inl ⟨by kernel_rfl, ?hP2_14⟩) hS ?rP2_14
  case hP2_14 =>
    intro w1 hSw
    clear hSw
    go_simp
    try with_reducible rfl
  (try go_frame)
  refine wpAnyH_take (i := 14) (v := ?vP2_15) rfl (by kernel_rfl) (by kernel_rfl) (by kernel_rfl) (fun _ _ _ h => h) (Or.inl ⟨by kernel_rfl, ?hP2_15⟩) hS ?rP2_15
  case hP2_15 =>
    intro w1 hSw
    clear hSw
    go_simp
    try with_reducible rfl
  (try go_frame)
  refine wpAnyH_take (i := 15) (v := ?vP2_16) rfl (by kernel_rfl) (by kernel_rfl) (by kernel_rfl) (fun _ _ _ h => h) (Or.inl ⟨by kernel_rfl, ?hP2_16⟩) hS ?rP2_16
  case hP2_16 =>
    intro w1 hSw
    have y0 : w1.cell? ⟨b, off, none⟩ = some (.slice (some ⟨b0, o0, none⟩) 4 C0) := hSw.1
    have y1 : w1.cell? ⟨b0, o0, none⟩ = some (.int .i64 need) := hSw.2.1
    have y2 : w1.cell? ⟨b0, o0 + 1, none⟩ = some (.int .i64 win) := hSw.2.2.1
    have y3 : w1.cell? ⟨b0, o0 + 2, none⟩ = some (.int .i64 keep) := hSw.2.2.2.1
    have y4 : w1.cell? ⟨b0, o0 + 3, none⟩ = some (.int .i64 now) := hSw.2.2.2.2
    clear hSw
    go_simp
    try with_reducible rfl
  (try go_frame)
  refine wpAnyH_take (i := 16) (v := ?vP2_17) rfl (by kernel_rfl) (by kernel_rfl) (by kernel_rfl) (fun _ _ _ h => h) (Or.inl ⟨by kernel_rfl, ?hP2_17⟩) hS ?rP2_17
  case hP2_17 =>
    intro w1 hSw
    clear hSw
    go_simp
    try with_reducible rfl
  (try go_frame)
  refine wpAnyH_take (i := 17) (v := ?vP2_18) rfl (by kernel_rfl) (by kernel_rfl) (by kernel_rfl) (fun _ _ _ h => h) (Or.inl ⟨by kernel_rfl, ?hP2_18⟩) hS ?rP2_18
  case hP2_18 =>
    intro w1 hSw
    clear hSw
    go_simp
    try with_reducible rfl
  (try go_frame)
  refine wpAnyH_take (i := 18) (v := ?vP2_19) rfl (by kernel_rfl) (by kernel_rfl) (by kernel_rfl) (fun _ _ _ h => h) (Or.inl ⟨by kernel_rfl, ?hP2_19⟩) hS ?rP2_19
  case hP2_19 =>
    intro w1 hSw
    clear hSw
    go_simp
    try with_reducible rfl
  (try go_frame)
  refine wpAnyH_take (i := 19) (v := ?vP2_20) rfl (by kernel_rfl) (by kernel_rfl) (by kernel_rfl) (fun _ _ _ h => h) (Or.inl ⟨by kernel_rfl, ?hP2_20⟩) hS ?rP2_20
  case hP2_20 =>
    intro w1 hSw
    clear hSw
    go_simp
    try with_reducible rfl
  (try go_frame)
  refine wpAnyH_take (i := 20) (v := ?vP2_21) rfl (by kernel_rfl) (by kernel_rfl) (by kernel_rfl) (fun _ _ _ h => h) (Or.inl ⟨by kernel_rfl, ?hP2_21⟩) hS ?rP2_21
  case hP2_21 =>
    intro w1 hSw
    have y0 : w1.cell? ⟨b, off, none⟩ = some (.slice (some ⟨b0, o0, none⟩) 4 C0) := hSw.1
    have y1 : w1.cell? ⟨b0, o0, none⟩ = some (.int .i64 need) := hSw.2.1
    have y2 : w1.cell? ⟨b0, o0 + 1, none⟩ = some (.int .i64 win) := hSw.2.2.1
    have y3 : w1.cell? ⟨b0, o0 + 2, none⟩ = some (.int .i64 keep) := hSw.2.2.2.1
    have y4 : w1.cell? ⟨b0, o0 + 3, none⟩ = some (.int .i64 now) := hSw.2.2.2.2
    clear hSw
    go_simp
    try with_reducible rfl
  (try go_frame)
  refine wpAnyH_take (i := 21) (v := ?vP2_22) rfl (by kernel_rfl) (by kernel_rfl) (by kernel_rfl) (fun _ _ _ h => h) (Or.inl ⟨by kernel_rfl, ?hP2_22⟩) hS ?rP2_22
  case hP2_22 =>
    intro w1 hSw
    have y0 : w1.cell? ⟨b, off, none⟩ = some (.slice (some ⟨b0, o0, none⟩) 4 C0) := hSw.1
    have y1 : w1.cell? ⟨b0, o0, none⟩ = some (.int .i64 need) := hSw.2.1
    have y2 : w1.cell? ⟨b0, o0 + 1, none⟩ = some (.int .i64 win) := hSw.2.2.1
    have y3 : w1.cell? ⟨b0, o0 + 2, none⟩ = some (.int .i64 keep) := hSw.2.2.2.1
    have y4 : w1.cell? ⟨b0, o0 + 3, none⟩ = some (.int .i64 now) := hSw.2.2.2.2
    clear hSw
    go_simp
    try with_reducible rfl
  (try go_frame)
  refine wpAnyH_take (i := 22) (v := ?vP2_23) rfl (by kernel_rfl) (by kernel_rfl) (by kernel_rfl) (fun _ _ _ h => h) (Or.inl ⟨by kernel_rfl, ?hP2_23⟩) hS ?rP2_23
  case hP2_23 =>
    intro w1 hSw
    have y0 : w1.cell? ⟨b, off, none⟩ = some (.slice (some ⟨b0, o0, none⟩) 4 C0) := hSw.1
    have y1 : w1.cell? ⟨b0, o0, none⟩ = some (.int .i64 need) := hSw.2.1
    have y2 : w1.cell? ⟨b0, o0 + 1, none⟩ = some (.int .i64 win) := hSw.2.2.1
    have y3 : w1.cell? ⟨b0, o0 + 2, none⟩ = some (.int .i64 keep) := hSw.2.2.2.1
    have y4 : w1.cell? ⟨b0, o0 + 3, none⟩ = some (.int .i64 now) := hSw.2.2.2.2
    clear hSw
    go_simp
    try with_reducible rfl
  (try go_frame)
  refine wpAnyH_take (i := 23) (v := ?vP2_24) rfl (by kernel_rfl) (by kernel_rfl) (by kernel_rfl) (fun _ _ _ h => h) (Or.inl ⟨by kernel_rfl, ?hP2_24⟩) hS ?rP2_24
  case hP2_24 =>
    intro w1 hSw
    have y0 : w1.cell? ⟨b, off, none⟩ = some (.slice (some ⟨b0, o0, none⟩) 4 C0) := hSw.1
    have y1 : w1.cell? ⟨b0, o0, none⟩ = some (.int .i64 need) := hSw.2.1
    have y2 : w1.cell? ⟨b0, o0 + 1, none⟩ = some (.int .i64 win) := hSw.2.2.1
    have y3 : w1.cell? ⟨b0, o0 + 2, none⟩ = some (.int .i64 keep) := hSw.2.2.2.1
    have y4 : w1.cell? ⟨b0, o0 + 3, none⟩ = some (.int .i64 now) := hSw.2.2.2.2
    clear hSw
    go_simp
    try with_reducible rfl
  (try go_frame)
  refine wpAnyH_take (i := 24) (v := ?vP2_25) rfl (by kernel_rfl) (by kernel_rfl) (by kernel_rfl) (fun _ _ _ h => h) (Or.inl ⟨by kernel_rfl, ?hP2_25⟩) hS ?rP2_25
  case hP2_25 =>
    intro w1 hSw
    have y0 : w1.cell? ⟨b, off, none⟩ = some (.slice (some ⟨b0, o0, none⟩) 4 C0) := hSw.1
    have y1 : w1.cell? ⟨b0, o0, none⟩ = some (.int .i64 need) := hSw.2.1
    have y2 : w1.cell? ⟨b0, o0 + 1, none⟩ = some (.int .i64 win) := hSw.2.2.1
    have y3 : w1.cell? ⟨b0, o0 + 2, none⟩ = some (.int .i64 keep) := hSw.2.2.2.1
    have y4 : w1.cell? ⟨b0, o0 + 3, none⟩ = some (.int .i64 now) := hSw.2.2.2.2
    clear hSw
    go_simp
    try with_reducible rfl
  (try go_frame)
  refine wpAnyH_take (i := 25) (v := ?vP2_26) rfl (by kernel_rfl) (by kernel_rfl) (by kernel_rfl) (fun _ _ _ h => h) (Or.inl ⟨by kernel_rfl, ?hP2_26⟩) hS ?rP2_26
  case hP2_26 =>
    intro w1 hSw
    have y0 : w1.cell? ⟨b, off, none⟩ = some (.slice (some ⟨b0, o0, none⟩) 4 C0) := hSw.1
    have y1 : w1.cell? ⟨b0, o0, none⟩ = some (.int .i64 need) := hSw.2.1
    have y2 : w1.cell? ⟨b0, o0 + 1, none⟩ = some (.int .i64 win) := hSw.2.2.1
    have y3 : w1.cell? ⟨b0, o0 + 2, none⟩ = some (.int .i64 keep) := hSw.2.2.2.1
    have y4 : w1.cell? ⟨b0, o0 + 3, none⟩ = some (.int .i64 now) := hSw.2.2.2.2
    clear hSw
    go_simp
    try with_reducible rfl
  (try go_frame)
  refine wpAnyH_take (i := 26) (v := ?vP2_27) rfl (by kernel_rfl) (by kernel_rfl) (by kernel_rfl) (fun _ _ _ h => h) (Or.inl ⟨by kernel_rfl, ?hP2_27⟩) hS ?rP2_27
  case hP2_27 =>
    intro w1 hSw
    have y0 : w1.cell? ⟨b, off, none⟩ = some (.slice (some ⟨b0, o0, none⟩) 4 C0) := hSw.1
    have y1 : w1.cell? ⟨b0, o0, none⟩ = some (.int .i64 need) := hSw.2.1
    have y2 : w1.cell? ⟨b0, o0 + 1, none⟩ = some (.int .i64 win) := hSw.2.2.1
    have y3 : w1.cell? ⟨b0, o0 + 2, none⟩ = some (.int .i64 keep) := hSw.2.2.2.1
    have y4 : w1.cell? ⟨b0, o0 + 3, none⟩ = some (.int .i64 now) := hSw.2.2.2.2
    clear hSw
    go_simp
    try with_reducible rfl
  (try go_frame)
  refine wpAnyH_take (i := 27) (v := ?vP2_28) rfl (by kernel_rfl) (by kernel_rfl) (by kernel_rfl) (fun _ _ _ h => h) (Or.inl ⟨by kernel_rfl, ?hP2_28⟩) hS ?rP2_28
  case hP2_28 =>
    intro w1 hSw
    have y0 : w1.cell? ⟨b, off, none⟩ = some (.slice (some ⟨b0, o0, none⟩) 4 C0) := hSw.1
    have y1 : w1.cell? ⟨b0, o0, none⟩ = some (.int .i64 need) := hSw.2.1
    have y2 : w1.cell? ⟨b0, o0 + 1, none⟩ = some (.int .i64 win) := hSw.2.2.1
    have y3 : w1.cell? ⟨b0, o0 + 2, none⟩ = some (.int .i64 keep) := hSw.2.2.2.1
    have y4 : w1.cell? ⟨b0, o0 + 3, none⟩ = some (.int .i64 now) := hSw.2.2.2.2
    clear hSw
    go_simp
    try with_reducible rfl
  (try go_frame)
  refine wpAnyH_take (i := 28) (v := ?vP2_29) rfl (by kernel_rfl) (by kernel_rfl) (by kernel_rfl) (fun _ _ _ h => h) (Or.inl ⟨by kernel_rfl, ?hP2_29⟩) hS ?rP2_29
  case hP2_29 =>
    intro w1 hSw
    have y0 : w1.cell? ⟨b, off, none⟩ = some (.slice (some ⟨b0, o0, none⟩) 4 C0) := hSw.1
    have y1 : w1.cell? ⟨b0, o0, none⟩ = some (.int .i64 need) := hSw.2.1
    have y2 : w1.cell? ⟨b0, o0 + 1, none⟩ = some (.int .i64 win) := hSw.2.2.1
    have y3 : w1.cell? ⟨b0, o0 + 2, none⟩ = some (.int .i64 keep) := hSw.2.2.2.1
    have y4 : w1.cell? ⟨b0, o0 + 3, none⟩ = some (.int .i64 now) := hSw.2.2.2.2
    clear hSw
    go_simp
    try with_reducible rfl
  (try go_frame)
  refine wpAnyH_take (i := 29) (v := ?vP2_30) rfl (by kernel_rfl) (by kernel_rfl) (by kernel_rfl) (fun _ _ _ h => h) (Or.inl ⟨by kernel_rfl, ?hP2_30⟩) hS ?rP2_30
  case hP2_30 =>
    intro w1 hSw
    have y0 : w1.cell? ⟨b, off, none⟩ = some (.slice (some ⟨b0, o0, none⟩) 4 C0) := hSw.1
    have y1 : w1.cell? ⟨b0, o0, none⟩ = some (.int .i64 need) := hSw.2.1
    have y2 : w1.cell? ⟨b0, o0 + 1, none⟩ = some (.int .i64 win) := hSw.2.2.1
    have y3 : w1.cell? ⟨b0, o0 + 2, none⟩ = some (.int .i64 keep) := hSw.2.2.2.1
    have y4 : w1.cell? ⟨b0, o0 + 3, none⟩ = some (.int .i64 now) := hSw.2.2.2.2
    clear hSw
    go_simp
    try with_reducible rfl
  (try go_frame)
  refine wpAnyH_take (i := 30) (v := ?vP2_31) rfl (by kernel_rfl) (by kernel_rfl) (by kernel_rfl) (fun _ _ _ h => h) (Or.inl ⟨by kernel_rfl, ?hP2_31⟩) hS ?rP2_31
  case hP2_31 =>
    intro w1 hSw
    have y0 : w1.cell? ⟨b, off, none⟩ = some (.slice (some ⟨b0, o0, none⟩) 4 C0) := hSw.1
    have y1 : w1.cell? ⟨b0, o0, none⟩ = some (.int .i64 need) := hSw.2.1
    have y2 : w1.cell? ⟨b0, o0 + 1, none⟩ = some (.int .i64 win) := hSw.2.2.1
    have y3 : w1.cell? ⟨b0, o0 + 2, none⟩ = some (.int .i64 keep) := hSw.2.2.2.1
    have y4 : w1.cell? ⟨b0, o0 + 3, none⟩ = some (.int .i64 now) := hSw.2.2.2.2
    clear hSw
    go_simp
    try with_reducible rfl
  (try go_frame)
  refine wpAnyH_take (i := 31) (v := ?vP2_32) rfl (by kernel_rfl) (by kernel_rfl) (by kernel_rfl) (fun _ _ _ h => h) (Or.inl ⟨by kernel_rfl, ?hP2_32⟩) hS ?rP2_32
  case hP2_32 =>
    intro w1 hSw
    have y0 : w1.cell? ⟨b, off, none⟩ = some (.slice (some ⟨b0, o0, none⟩) 4 C0) := hSw.1
    have y1 : w1.cell? ⟨b0, o0, none⟩ = some (.int .i64 need) := hSw.2.1
    have y2 : w1.cell? ⟨b0, o0 + 1, none⟩ = some (.int .i64 win) := hSw.2.2.1
    have y3 : w1.cell? ⟨b0, o0 + 2, none⟩ = some (.int .i64 keep) := hSw.2.2.2.1
    have y4 : w1.cell? ⟨b0, o0 + 3, none⟩ = some (.int .i64 now) := hSw.2.2.2.2
    clear hSw
    go_simp
    try with_reducible rfl
  (try go_frame)
  refine wpAnyH_take (i := 32) (v := ?vP2_33) rfl (by kernel_rfl) (by kernel_rfl) (by kernel_rfl) (fun _ _ _ h => h) (Or.inl ⟨by kernel_rfl, ?hP2_33⟩) hS ?rP2_33
  case hP2_33 =>
    intro w1 hSw
    have y0 : w1.cell? ⟨b, off, none⟩ = some (.slice (some ⟨b0, o0, none⟩) 4 C0) := hSw.1
    have y1 : w1.cell? ⟨b0, o0, none⟩ = some (.int .i64 need) := hSw.2.1
    have y2 : w1.cell? ⟨b0, o0 + 1, none⟩ = some (.int .i64 win) := hSw.2.2.1
    have y3 : w1.cell? ⟨b0, o0 + 2, none⟩ = some (.int .i64 keep) := hSw.2.2.2.1
    have y4 : w1.cell? ⟨b0, o0 + 3, none⟩ = some (.int .i64 now) := hSw.2.2.2.2
    clear hSw
    go_simp
    try with_reducible rfl
  (try go_frame)
  refine wpAnyH_take (i := 33) (v := ?vP2_34) rfl (by kernel_rfl) (by kernel_rfl) (by kernel_rfl) (fun _ _ _ h => h) (Or.inl ⟨by kernel_rfl, ?hP2_34⟩) hS ?rP2_34
  case hP2_34 =>
    intro w1 hSw
    have y0 : w1.cell? ⟨b, off, none⟩ = some (.slice (some ⟨b0, o0, none⟩) 4 C0) := hSw.1
    have y1 : w1.cell? ⟨b0, o0, none⟩ = some (.int .i64 need) := hSw.2.1
    have y2 : w1.cell? ⟨b0, o0 + 1, none⟩ = some (.int .i64 win) := hSw.2.2.1
    have y3 : w1.cell? ⟨b0, o0 + 2, none⟩ = some (.int .i64 keep) := hSw.2.2.2.1
    have y4 : w1.cell? ⟨b0, o0 + 3, none⟩ = some (.int .i64 now) := hSw.2.2.2.2
    clear hSw
    go_simp
    try with_reducible rfl
  (try go_frame)
  refine wpAnyH_take (i := 34) (v := ?vP2_35) rfl (by kernel_rfl) (by kernel_rfl) (by kernel_rfl) (fun _ _ _ h => h) (Or.inl ⟨by kernel_rfl, ?hP2_35⟩) hS ?rP2_35
  case hP2_35 =>
    intro w1 hSw
    have y0 : w1.cell? ⟨b, off, none⟩ = some (.slice (some ⟨b0, o0, none⟩) 4 C0) := hSw.1
    have y1 : w1.cell? ⟨b0, o0, none⟩ = some (.int .i64 need) := hSw.2.1
    have y2 : w1.cell? ⟨b0, o0 + 1, none⟩ = some (.int .i64 win) := hSw.2.2.1
    have y3 : w1.cell? ⟨b0, o0 + 2, none⟩ = some (.int .i64 keep) := hSw.2.2.2.1
    have y4 : w1.cell? ⟨b0, o0 + 3, none⟩ = some (.int .i64 now) := hSw.2.2.2.2
    clear hSw
    go_simp
    try with_reducible rfl
  (try go_frame)
  refine wpAnyH_ready (rs := [35]) (by kernel_rfl) (by simp) (AllReadyH.cons rfl (fun K hK => ?_) AllReadyH.nil)
  go_simp
  refine (wrong9 need win keep _).mono ?_
  rintro e wq ⟨rfl, hw⟩
  rw [hw]
  clear hw wq
  refine hK.out _ _ (hS) (fun hS => ?_)
  clear hK K
  (try go_frame)
  refine wpAnyH_take (i := 36) (v := ?vP2_36) rfl (by kernel_rfl) (by kernel_rfl) (by kernel_rfl) (fun _ _ _ h => h) (Or.inl ⟨by kernel_rfl, ?hP2_36⟩) hS ?rP2_36
  case hP2_36 =>
    intro w1 hSw
    clear hSw
    go_simp
    try with_reducible rfl
  (try go_frame)
  refine wpAnyH_take (i := 37) (v := ?vP2_37) rfl (by kernel_rfl) (by kernel_rfl) (by kernel_rfl) (fun _ _ _ h => h) (Or.inl ⟨by kernel_rfl, ?hP2_37⟩) hS ?rP2_37
  case hP2_37 =>
    intro w1 hSw
    clear hSw
    go_simp
    try with_reducible rfl
  (try go_frame)
  refine wpAnyH_take (i := 38) (v := ?vP2_38) rfl (by kernel_rfl) (by kernel_rfl) (by kernel_rfl) (fun _ _ _ h => h) (Or.inl ⟨by kernel_rfl, ?hP2_38⟩) hS ?rP2_38
  case hP2_38 =>
    intro w1 hSw
    clear hSw
    go_simp
    try with_reducible rfl
  (try go_frame)
  refine wpAnyH_take (i := 39) (v := undef) rfl (by kernel_rfl) (by kernel_rfl) (by kernel_rfl) (fun _ _ _ h => h) (Or.inr ⟨by kernel_rfl, rfl⟩) hS ?rP2_39
  (try go_frame)
  refine wpAnyH_take (i := 40) (v := undef) rfl (by kernel_rfl) (by kernel_rfl) (by kernel_rfl) (fun _ _ _ h => h) (Or.inr ⟨by kernel_rfl, rfl⟩) hS ?rP2_40
  (try go_frame)
  refine wpAnyH_take (i := 41) (v := undef) rfl (by kernel_rfl) (by kernel_rfl) (by kernel_rfl) (fun _ _ _ h => h) (Or.inr ⟨by kernel_rfl, rfl⟩) hS ?rP2_41
  (try go_frame)
  refine wpAnyH_take (i := 42) (v := undef) rfl (by kernel_rfl) (by kernel_rfl) (by kernel_rfl) (fun _ _ _ h => h) (Or.inr ⟨by kernel_rfl, rfl⟩) hS ?rP2_42
  (try go_frame)
  refine wpAnyH_take (i := 43) (v := undef) rfl (by kernel_rfl) (by kernel_rfl) (by kernel_rfl) (fun _ _ _ h => h) (Or.inr ⟨by kernel_rfl, rfl⟩) hS ?rP2_43
  (try go_frame)
  refine wpAnyH_take (i := 44) (v := undef) rfl (by kernel_rfl) (by kernel_rfl) (by kernel_rfl) (fun _ _ _ h => h) (Or.inr ⟨by kernel_rfl, rfl⟩) hS ?rP2_44
  (try go_frame)
  refine wpAnyH_ready (rs := [45]) (by kernel_rfl) (by simp) (AllReadyH.cons rfl (fun K hK => ?_) AllReadyH.nil)
  go_simp
  refine hK.out _ _ (hS) (fun hS => ?_)
  clear hK K
  refine wpAnyH_done (by kernel_rfl) ?_ _
  go_wp2_with fail
  go_ret
  exact ⟨ret_bool HF.out.symm, HB1.out.trans ((below_drewN (Below.refl _ _) _).mono hs1)⟩

set_option maxRecDepth 100000 in
set_option maxHeartbeats 8000000 in
theorem acc_late (s : Tx) (hs : s.length ≤ 100000) (w : World) {L : List (List Int)} (hL : scanR s [] [] 0 false = some L) {need win keep now : Int} (hn : 0 < L.length) (hl65 : L.length ≤ 65) (h0 : row L 0 = [need, win, keep, now]) (hne : newE need win keep = 0) (h : 1073741824 < now) : Calls Tryd.prog 28 #[.string (S s)] w fun e w' => e = .returned (.bool (acceptsT s)) ∧ Below w.heap.size w w' := by
  go_enter Tryd.func28, Tryd.ntmps28
  go_wp2_with fail
  refine (numbers50 s hs w).mono ?_
  rintro e w1 ⟨v, bb, rfl, hcase, hb1⟩
  have HB1 := Lib.hid hb1
  have hs1 := hb1.size
  clear hb1
  rcases hcase with ⟨rfl, L', hL', A, cap, rfl, hris⟩ | ⟨rfl, hno⟩
  rotate_left
  · exact absurd (hno.symm.trans hL) (by simp)
  have e : L = L' := (Option.some.inj (hL'.symm.trans hL)).symm
  subst e
  clear hL'
  have HAC : Hid (acceptsT s = accL L) := Lib.hid (by unfold acceptsT; rw [hL])
  have HNN := Lib.hid (scan_text s [] [] 0 false L hL (by omega) (fun _ => rfl) (fun m hm => by cases hm) (fun r hr => by cases hr)).2
  have HSH := Lib.hid (row_short hL)
  clear hL
  obtain ⟨b, off, rfl, hb, hrows⟩ := hris hn
  have HRW := Lib.hid hrows
  have q1 : ((L.length : Int) == 0) = false := by rw [beq_eq_false_iff_ne]; omega
  have q2 : decide (65 < L.length) = false := decide_eq_false (by omega)
  have q2I : decide ((65 : Int) < (L.length : Int)) = false := decide_eq_false (by omega)
  obtain ⟨A0, C0, x0, hI0⟩ := HRW.out 0 hn
  rw [Nat.add_zero] at x0
  clear hrows hris
  have HH := Lib.hid (acc_head h0 hn)
  have H0 := Lib.hid h0
  rw [h0] at hI0 x0
  obtain ⟨b0, o0, rfl, hb0, hc0⟩ := hI0 (by simp)
  have z0 : w1.cell? ⟨b0, o0, none⟩ = some (.int .i64 need) := hc0 0 (by simp)
  have z1 : w1.cell? ⟨b0, o0 + 1, none⟩ = some (.int .i64 win) := hc0 1 (by simp)
  have z2 : w1.cell? ⟨b0, o0 + 2, none⟩ = some (.int .i64 keep) := hc0 2 (by simp)
  have z3 : w1.cell? ⟨b0, o0 + 3, none⟩ = some (.int .i64 now) := hc0 3 (by simp)
  have x0 : w1.cell? ⟨b, off, none⟩ = some (.slice (some ⟨b0, o0, none⟩) 4 C0) := x0
  have hnow : 0 ≤ now := by have := (HNN.out _ (row_mem hn)).2 now; rw [h0] at this; exact this (by simp)
  clear h0 hc0
  have q4 : (newE need win keep != 0) = false := by simpa using hne
  have q5 : decide (1073741824 < now) = true := decide_eq_true h
  have HF : Hid (acceptsT s = false) := Lib.hid (by rw [HAC.out, HH.out, decide_eq_false (by rintro ⟨-, -, h'⟩; omega)]; rfl)
  clear hne h
  go_wp2_with fail
  refine wp_region_held_drew (S := fun w' => w'.cell? ⟨b, off, none⟩ = some (.slice (some ⟨b0, o0, none⟩) 4 C0) ∧ w'.cell? ⟨b0, o0, none⟩ = some (.int .i64 need) ∧ w'.cell? ⟨b0, o0 + 1, none⟩ = some (.int .i64 win) ∧ w'.cell? ⟨b0, o0 + 2, none⟩ = some (.int .i64 keep) ∧ w'.cell? ⟨b0, o0 + 3, none⟩ = some (.int .i64 now)) (by kernel_rfl) (⟨x0, z0, z1, z2, z3⟩) (fun hS => ?_)
  refine wpAnyH_take (i := 0) (v := ?vP3_1) rfl (by kernel_rfl) (by kernel_rfl) (by kernel_rfl) (fun _ _ _ h => h) (Or.inl ⟨by rfl, ?hP3_1⟩) hS ?rP3_1
  case hP3_1 =>
    intro w1 hSw
    clear hSw
    go_simp
    try with_reducible rfl
  (try go_frame)
  refine wpAnyH_take (i := 1) (v := ?vP3_2) rfl (by kernel_rfl) (by kernel_rfl) (by kernel_rfl) (fun _ _ _ h => h) (Or.inl ⟨by rfl, ?hP3_2⟩) hS ?rP3_2
  case hP3_2 =>
    intro w1 hSw
    clear hSw
    go_simp
    try with_reducible rfl
  (try go_frame)
  refine wpAnyH_take (i := 2) (v := ?vP3_3) rfl (by kernel_rfl) (by kernel_rfl) (by kernel_rfl) (fun _ _ _ h => h) (Or.inl ⟨by rfl, ?hP3_3⟩) hS ?rP3_3
  case hP3_3 =>
    intro w1 hSw
    clear hSw
    go_simp
    try with_reducible rfl
  (try go_frame)
  refine wpAnyH_take (i := 3) (v := ?vP3_4) rfl (by kernel_rfl) (by kernel_rfl) (by kernel_rfl) (fun _ _ _ h => h) (Or.inl ⟨by kernel_rfl, ?hP3_4⟩) hS ?rP3_4
  case hP3_4 =>
    intro w1 hSw
    clear hSw
    go_simp
    try with_reducible rfl
  (try go_frame)
  refine wpAnyH_take (i := 4) (v := ?vP3_5) rfl (by kernel_rfl) (by kernel_rfl) (by kernel_rfl) (fun _ _ _ h => h) (Or.inl ⟨by kernel_rfl, ?hP3_5⟩) hS ?rP3_5
  case hP3_5 =>
    intro w1 hSw
    clear hSw
    go_simp
    try with_reducible rfl
  (try go_frame)
  refine wpAnyH_take (i := 5) (v := ?vP3_6) rfl (by kernel_rfl) (by kernel_rfl) (by kernel_rfl) (fun _ _ _ h => h) (Or.inl ⟨by kernel_rfl, ?hP3_6⟩) hS ?rP3_6
  case hP3_6 =>
    intro w1 hSw
    clear hSw
    go_simp
    try with_reducible rfl
  (try go_frame)
  refine wpAnyH_take (i := 6) (v := ?vP3_7) rfl (by kernel_rfl) (by kernel_rfl) (by kernel_rfl) (fun _ _ _ h => h) (Or.inl ⟨by kernel_rfl, ?hP3_7⟩) hS ?rP3_7
  case hP3_7 =>
    intro w1 hSw
    clear hSw
    go_simp
    try with_reducible rfl
  (try go_frame)
  refine wpAnyH_take (i := 7) (v := ?vP3_8) rfl (by kernel_rfl) (by kernel_rfl) (by kernel_rfl) (fun _ _ _ h => h) (Or.inl ⟨by kernel_rfl, ?hP3_8⟩) hS ?rP3_8
  case hP3_8 =>
    intro w1 hSw
    clear hSw
    go_simp
    try with_reducible rfl
  (try go_frame)
  refine wpAnyH_take (i := 8) (v := ?vP3_9) rfl (by kernel_rfl) (by kernel_rfl) (by kernel_rfl) (fun _ _ _ h => h) (Or.inl ⟨by kernel_rfl, ?hP3_9⟩) hS ?rP3_9
  case hP3_9 =>
    intro w1 hSw
    clear hSw
    go_simp
    try with_reducible rfl
  (try go_frame)
  refine wpAnyH_take (i := 9) (v := ?vP3_10) rfl (by kernel_rfl) (by kernel_rfl) (by kernel_rfl) (fun _ _ _ h => h) (Or.inl ⟨by kernel_rfl, ?hP3_10⟩) hS ?rP3_10
  case hP3_10 =>
    intro w1 hSw
    clear hSw
    go_simp
    try with_reducible rfl
  (try go_frame)
  refine wpAnyH_take (i := 10) (v := ?vP3_11) rfl (by kernel_rfl) (by kernel_rfl) (by kernel_rfl) (fun _ _ _ h => h) (Or.inl ⟨by kernel_rfl, ?hP3_11⟩) hS ?rP3_11
  case hP3_11 =>
    intro w1 hSw
    clear hSw
    go_simp
    try with_reducible rfl
  (try go_frame)
  refine wpAnyH_take (i := 11) (v := ?vP3_12) rfl (by kernel_rfl) (by kernel_rfl) (by kernel_rfl) (fun _ _ _ h => h) (Or.inl ⟨by kernel_rfl, ?hP3_12⟩) hS ?rP3_12
  case hP3_12 =>
    intro w1 hSw
    clear hSw
    go_simp
    try with_reducible rfl
  (try go_frame)
  refine wpAnyH_take (i := 12) (v := ?vP3_13) rfl (by kernel_rfl) (by kernel_rfl) (by kernel_rfl) (fun _ _ _ h => h) (Or.inl ⟨by kernel_rfl, ?hP3_13⟩) hS ?rP3_13
  case hP3_13 =>
    intro w1 hSw
    clear hSw
    go_simp
    try with_reducible rfl
  (try go_frame)
  refine wpAnyH_take (i := 13) (v := ?vP3_14) rfl (by kernel_rfl) (by kernel_rfl) (by kernel_rfl) (fun _ _ _ h => h) (Or.inl ⟨by kernel_rfl, ?hP3_14⟩) hS ?rP3_14
  case hP3_14 =>
    intro w1 hSw
    clear hSw
    go_simp
    try with_reducible rfl
  (try go_frame)
  refine wpAnyH_take (i := 14) (v := ?vP3_15) rfl (by kernel_rfl) (by kernel_rfl) (by kernel_rfl) (fun _ _ _ h => h) (Or.inl ⟨by kernel_rfl, ?hP3_15⟩) hS ?rP3_15
  case hP3_15 =>
    intro w1 hSw
    clear hSw
    go_simp
    try with_reducible rfl
  (try go_frame)
  refine wpAnyH_take (i := 15) (v := ?vP3_16) rfl (by kernel_rfl) (by kernel_rfl) (by kernel_rfl) (fun _ _ _ h => h) (Or.inl ⟨by kernel_rfl, ?hP3_16⟩) hS ?rP3_16
  case hP3_16 =>
    intro w1 hSw
    have y0 : w1.cell? ⟨b, off, none⟩ = some (.slice (some ⟨b0, o0, none⟩) 4 C0) := hSw.1
    have y1 : w1.cell? ⟨b0, o0, none⟩ = some (.int .i64 need) := hSw.2.1
    have y2 : w1.cell? ⟨b0, o0 + 1, none⟩ = some (.int .i64 win) := hSw.2.2.1
    have y3 : w1.cell? ⟨b0, o0 + 2, none⟩ = some (.int .i64 keep) := hSw.2.2.2.1
    have y4 : w1.cell? ⟨b0, o0 + 3, none⟩ = some (.int .i64 now) := hSw.2.2.2.2
    clear hSw
    go_simp
    try with_reducible rfl
  (try go_frame)
  refine wpAnyH_take (i := 16) (v := ?vP3_17) rfl (by kernel_rfl) (by kernel_rfl) (by kernel_rfl) (fun _ _ _ h => h) (Or.inl ⟨by kernel_rfl, ?hP3_17⟩) hS ?rP3_17
  case hP3_17 =>
    intro w1 hSw
    clear hSw
    go_simp
    try with_reducible rfl
  (try go_frame)
  refine wpAnyH_take (i := 17) (v := ?vP3_18) rfl (by kernel_rfl) (by kernel_rfl) (by kernel_rfl) (fun _ _ _ h => h) (Or.inl ⟨by kernel_rfl, ?hP3_18⟩) hS ?rP3_18
  case hP3_18 =>
    intro w1 hSw
    clear hSw
    go_simp
    try with_reducible rfl
  (try go_frame)
  refine wpAnyH_take (i := 18) (v := ?vP3_19) rfl (by kernel_rfl) (by kernel_rfl) (by kernel_rfl) (fun _ _ _ h => h) (Or.inl ⟨by kernel_rfl, ?hP3_19⟩) hS ?rP3_19
  case hP3_19 =>
    intro w1 hSw
    clear hSw
    go_simp
    try with_reducible rfl
  (try go_frame)
  refine wpAnyH_take (i := 19) (v := ?vP3_20) rfl (by kernel_rfl) (by kernel_rfl) (by kernel_rfl) (fun _ _ _ h => h) (Or.inl ⟨by kernel_rfl, ?hP3_20⟩) hS ?rP3_20
  case hP3_20 =>
    intro w1 hSw
    clear hSw
    go_simp
    try with_reducible rfl
  (try go_frame)
  refine wpAnyH_take (i := 20) (v := ?vP3_21) rfl (by kernel_rfl) (by kernel_rfl) (by kernel_rfl) (fun _ _ _ h => h) (Or.inl ⟨by kernel_rfl, ?hP3_21⟩) hS ?rP3_21
  case hP3_21 =>
    intro w1 hSw
    have y0 : w1.cell? ⟨b, off, none⟩ = some (.slice (some ⟨b0, o0, none⟩) 4 C0) := hSw.1
    have y1 : w1.cell? ⟨b0, o0, none⟩ = some (.int .i64 need) := hSw.2.1
    have y2 : w1.cell? ⟨b0, o0 + 1, none⟩ = some (.int .i64 win) := hSw.2.2.1
    have y3 : w1.cell? ⟨b0, o0 + 2, none⟩ = some (.int .i64 keep) := hSw.2.2.2.1
    have y4 : w1.cell? ⟨b0, o0 + 3, none⟩ = some (.int .i64 now) := hSw.2.2.2.2
    clear hSw
    go_simp
    try with_reducible rfl
  (try go_frame)
  refine wpAnyH_take (i := 21) (v := ?vP3_22) rfl (by kernel_rfl) (by kernel_rfl) (by kernel_rfl) (fun _ _ _ h => h) (Or.inl ⟨by kernel_rfl, ?hP3_22⟩) hS ?rP3_22
  case hP3_22 =>
    intro w1 hSw
    have y0 : w1.cell? ⟨b, off, none⟩ = some (.slice (some ⟨b0, o0, none⟩) 4 C0) := hSw.1
    have y1 : w1.cell? ⟨b0, o0, none⟩ = some (.int .i64 need) := hSw.2.1
    have y2 : w1.cell? ⟨b0, o0 + 1, none⟩ = some (.int .i64 win) := hSw.2.2.1
    have y3 : w1.cell? ⟨b0, o0 + 2, none⟩ = some (.int .i64 keep) := hSw.2.2.2.1
    have y4 : w1.cell? ⟨b0, o0 + 3, none⟩ = some (.int .i64 now) := hSw.2.2.2.2
    clear hSw
    go_simp
    try with_reducible rfl
  (try go_frame)
  refine wpAnyH_take (i := 22) (v := ?vP3_23) rfl (by kernel_rfl) (by kernel_rfl) (by kernel_rfl) (fun _ _ _ h => h) (Or.inl ⟨by kernel_rfl, ?hP3_23⟩) hS ?rP3_23
  case hP3_23 =>
    intro w1 hSw
    have y0 : w1.cell? ⟨b, off, none⟩ = some (.slice (some ⟨b0, o0, none⟩) 4 C0) := hSw.1
    have y1 : w1.cell? ⟨b0, o0, none⟩ = some (.int .i64 need) := hSw.2.1
    have y2 : w1.cell? ⟨b0, o0 + 1, none⟩ = some (.int .i64 win) := hSw.2.2.1
    have y3 : w1.cell? ⟨b0, o0 + 2, none⟩ = some (.int .i64 keep) := hSw.2.2.2.1
    have y4 : w1.cell? ⟨b0, o0 + 3, none⟩ = some (.int .i64 now) := hSw.2.2.2.2
    clear hSw
    go_simp
    try with_reducible rfl
  (try go_frame)
  refine wpAnyH_take (i := 23) (v := ?vP3_24) rfl (by kernel_rfl) (by kernel_rfl) (by kernel_rfl) (fun _ _ _ h => h) (Or.inl ⟨by kernel_rfl, ?hP3_24⟩) hS ?rP3_24
  case hP3_24 =>
    intro w1 hSw
    have y0 : w1.cell? ⟨b, off, none⟩ = some (.slice (some ⟨b0, o0, none⟩) 4 C0) := hSw.1
    have y1 : w1.cell? ⟨b0, o0, none⟩ = some (.int .i64 need) := hSw.2.1
    have y2 : w1.cell? ⟨b0, o0 + 1, none⟩ = some (.int .i64 win) := hSw.2.2.1
    have y3 : w1.cell? ⟨b0, o0 + 2, none⟩ = some (.int .i64 keep) := hSw.2.2.2.1
    have y4 : w1.cell? ⟨b0, o0 + 3, none⟩ = some (.int .i64 now) := hSw.2.2.2.2
    clear hSw
    go_simp
    try with_reducible rfl
  (try go_frame)
  refine wpAnyH_take (i := 24) (v := ?vP3_25) rfl (by kernel_rfl) (by kernel_rfl) (by kernel_rfl) (fun _ _ _ h => h) (Or.inl ⟨by kernel_rfl, ?hP3_25⟩) hS ?rP3_25
  case hP3_25 =>
    intro w1 hSw
    have y0 : w1.cell? ⟨b, off, none⟩ = some (.slice (some ⟨b0, o0, none⟩) 4 C0) := hSw.1
    have y1 : w1.cell? ⟨b0, o0, none⟩ = some (.int .i64 need) := hSw.2.1
    have y2 : w1.cell? ⟨b0, o0 + 1, none⟩ = some (.int .i64 win) := hSw.2.2.1
    have y3 : w1.cell? ⟨b0, o0 + 2, none⟩ = some (.int .i64 keep) := hSw.2.2.2.1
    have y4 : w1.cell? ⟨b0, o0 + 3, none⟩ = some (.int .i64 now) := hSw.2.2.2.2
    clear hSw
    go_simp
    try with_reducible rfl
  (try go_frame)
  refine wpAnyH_take (i := 25) (v := ?vP3_26) rfl (by kernel_rfl) (by kernel_rfl) (by kernel_rfl) (fun _ _ _ h => h) (Or.inl ⟨by kernel_rfl, ?hP3_26⟩) hS ?rP3_26
  case hP3_26 =>
    intro w1 hSw
    have y0 : w1.cell? ⟨b, off, none⟩ = some (.slice (some ⟨b0, o0, none⟩) 4 C0) := hSw.1
    have y1 : w1.cell? ⟨b0, o0, none⟩ = some (.int .i64 need) := hSw.2.1
    have y2 : w1.cell? ⟨b0, o0 + 1, none⟩ = some (.int .i64 win) := hSw.2.2.1
    have y3 : w1.cell? ⟨b0, o0 + 2, none⟩ = some (.int .i64 keep) := hSw.2.2.2.1
    have y4 : w1.cell? ⟨b0, o0 + 3, none⟩ = some (.int .i64 now) := hSw.2.2.2.2
    clear hSw
    go_simp
    try with_reducible rfl
  (try go_frame)
  refine wpAnyH_take (i := 26) (v := ?vP3_27) rfl (by kernel_rfl) (by kernel_rfl) (by kernel_rfl) (fun _ _ _ h => h) (Or.inl ⟨by kernel_rfl, ?hP3_27⟩) hS ?rP3_27
  case hP3_27 =>
    intro w1 hSw
    have y0 : w1.cell? ⟨b, off, none⟩ = some (.slice (some ⟨b0, o0, none⟩) 4 C0) := hSw.1
    have y1 : w1.cell? ⟨b0, o0, none⟩ = some (.int .i64 need) := hSw.2.1
    have y2 : w1.cell? ⟨b0, o0 + 1, none⟩ = some (.int .i64 win) := hSw.2.2.1
    have y3 : w1.cell? ⟨b0, o0 + 2, none⟩ = some (.int .i64 keep) := hSw.2.2.2.1
    have y4 : w1.cell? ⟨b0, o0 + 3, none⟩ = some (.int .i64 now) := hSw.2.2.2.2
    clear hSw
    go_simp
    try with_reducible rfl
  (try go_frame)
  refine wpAnyH_take (i := 27) (v := ?vP3_28) rfl (by kernel_rfl) (by kernel_rfl) (by kernel_rfl) (fun _ _ _ h => h) (Or.inl ⟨by kernel_rfl, ?hP3_28⟩) hS ?rP3_28
  case hP3_28 =>
    intro w1 hSw
    have y0 : w1.cell? ⟨b, off, none⟩ = some (.slice (some ⟨b0, o0, none⟩) 4 C0) := hSw.1
    have y1 : w1.cell? ⟨b0, o0, none⟩ = some (.int .i64 need) := hSw.2.1
    have y2 : w1.cell? ⟨b0, o0 + 1, none⟩ = some (.int .i64 win) := hSw.2.2.1
    have y3 : w1.cell? ⟨b0, o0 + 2, none⟩ = some (.int .i64 keep) := hSw.2.2.2.1
    have y4 : w1.cell? ⟨b0, o0 + 3, none⟩ = some (.int .i64 now) := hSw.2.2.2.2
    clear hSw
    go_simp
    try with_reducible rfl
  (try go_frame)
  refine wpAnyH_take (i := 28) (v := ?vP3_29) rfl (by kernel_rfl) (by kernel_rfl) (by kernel_rfl) (fun _ _ _ h => h) (Or.inl ⟨by kernel_rfl, ?hP3_29⟩) hS ?rP3_29
  case hP3_29 =>
    intro w1 hSw
    have y0 : w1.cell? ⟨b, off, none⟩ = some (.slice (some ⟨b0, o0, none⟩) 4 C0) := hSw.1
    have y1 : w1.cell? ⟨b0, o0, none⟩ = some (.int .i64 need) := hSw.2.1
    have y2 : w1.cell? ⟨b0, o0 + 1, none⟩ = some (.int .i64 win) := hSw.2.2.1
    have y3 : w1.cell? ⟨b0, o0 + 2, none⟩ = some (.int .i64 keep) := hSw.2.2.2.1
    have y4 : w1.cell? ⟨b0, o0 + 3, none⟩ = some (.int .i64 now) := hSw.2.2.2.2
    clear hSw
    go_simp
    try with_reducible rfl
  (try go_frame)
  refine wpAnyH_take (i := 29) (v := ?vP3_30) rfl (by kernel_rfl) (by kernel_rfl) (by kernel_rfl) (fun _ _ _ h => h) (Or.inl ⟨by kernel_rfl, ?hP3_30⟩) hS ?rP3_30
  case hP3_30 =>
    intro w1 hSw
    have y0 : w1.cell? ⟨b, off, none⟩ = some (.slice (some ⟨b0, o0, none⟩) 4 C0) := hSw.1
    have y1 : w1.cell? ⟨b0, o0, none⟩ = some (.int .i64 need) := hSw.2.1
    have y2 : w1.cell? ⟨b0, o0 + 1, none⟩ = some (.int .i64 win) := hSw.2.2.1
    have y3 : w1.cell? ⟨b0, o0 + 2, none⟩ = some (.int .i64 keep) := hSw.2.2.2.1
    have y4 : w1.cell? ⟨b0, o0 + 3, none⟩ = some (.int .i64 now) := hSw.2.2.2.2
    clear hSw
    go_simp
    try with_reducible rfl
  (try go_frame)
  refine wpAnyH_take (i := 30) (v := ?vP3_31) rfl (by kernel_rfl) (by kernel_rfl) (by kernel_rfl) (fun _ _ _ h => h) (Or.inl ⟨by kernel_rfl, ?hP3_31⟩) hS ?rP3_31
  case hP3_31 =>
    intro w1 hSw
    have y0 : w1.cell? ⟨b, off, none⟩ = some (.slice (some ⟨b0, o0, none⟩) 4 C0) := hSw.1
    have y1 : w1.cell? ⟨b0, o0, none⟩ = some (.int .i64 need) := hSw.2.1
    have y2 : w1.cell? ⟨b0, o0 + 1, none⟩ = some (.int .i64 win) := hSw.2.2.1
    have y3 : w1.cell? ⟨b0, o0 + 2, none⟩ = some (.int .i64 keep) := hSw.2.2.2.1
    have y4 : w1.cell? ⟨b0, o0 + 3, none⟩ = some (.int .i64 now) := hSw.2.2.2.2
    clear hSw
    go_simp
    try with_reducible rfl
  (try go_frame)
  refine wpAnyH_take (i := 31) (v := ?vP3_32) rfl (by kernel_rfl) (by kernel_rfl) (by kernel_rfl) (fun _ _ _ h => h) (Or.inl ⟨by kernel_rfl, ?hP3_32⟩) hS ?rP3_32
  case hP3_32 =>
    intro w1 hSw
    have y0 : w1.cell? ⟨b, off, none⟩ = some (.slice (some ⟨b0, o0, none⟩) 4 C0) := hSw.1
    have y1 : w1.cell? ⟨b0, o0, none⟩ = some (.int .i64 need) := hSw.2.1
    have y2 : w1.cell? ⟨b0, o0 + 1, none⟩ = some (.int .i64 win) := hSw.2.2.1
    have y3 : w1.cell? ⟨b0, o0 + 2, none⟩ = some (.int .i64 keep) := hSw.2.2.2.1
    have y4 : w1.cell? ⟨b0, o0 + 3, none⟩ = some (.int .i64 now) := hSw.2.2.2.2
    clear hSw
    go_simp
    try with_reducible rfl
  (try go_frame)
  refine wpAnyH_take (i := 32) (v := ?vP3_33) rfl (by kernel_rfl) (by kernel_rfl) (by kernel_rfl) (fun _ _ _ h => h) (Or.inl ⟨by kernel_rfl, ?hP3_33⟩) hS ?rP3_33
  case hP3_33 =>
    intro w1 hSw
    have y0 : w1.cell? ⟨b, off, none⟩ = some (.slice (some ⟨b0, o0, none⟩) 4 C0) := hSw.1
    have y1 : w1.cell? ⟨b0, o0, none⟩ = some (.int .i64 need) := hSw.2.1
    have y2 : w1.cell? ⟨b0, o0 + 1, none⟩ = some (.int .i64 win) := hSw.2.2.1
    have y3 : w1.cell? ⟨b0, o0 + 2, none⟩ = some (.int .i64 keep) := hSw.2.2.2.1
    have y4 : w1.cell? ⟨b0, o0 + 3, none⟩ = some (.int .i64 now) := hSw.2.2.2.2
    clear hSw
    go_simp
    try with_reducible rfl
  (try go_frame)
  refine wpAnyH_take (i := 33) (v := ?vP3_34) rfl (by kernel_rfl) (by kernel_rfl) (by kernel_rfl) (fun _ _ _ h => h) (Or.inl ⟨by kernel_rfl, ?hP3_34⟩) hS ?rP3_34
  case hP3_34 =>
    intro w1 hSw
    have y0 : w1.cell? ⟨b, off, none⟩ = some (.slice (some ⟨b0, o0, none⟩) 4 C0) := hSw.1
    have y1 : w1.cell? ⟨b0, o0, none⟩ = some (.int .i64 need) := hSw.2.1
    have y2 : w1.cell? ⟨b0, o0 + 1, none⟩ = some (.int .i64 win) := hSw.2.2.1
    have y3 : w1.cell? ⟨b0, o0 + 2, none⟩ = some (.int .i64 keep) := hSw.2.2.2.1
    have y4 : w1.cell? ⟨b0, o0 + 3, none⟩ = some (.int .i64 now) := hSw.2.2.2.2
    clear hSw
    go_simp
    try with_reducible rfl
  (try go_frame)
  refine wpAnyH_take (i := 34) (v := ?vP3_35) rfl (by kernel_rfl) (by kernel_rfl) (by kernel_rfl) (fun _ _ _ h => h) (Or.inl ⟨by kernel_rfl, ?hP3_35⟩) hS ?rP3_35
  case hP3_35 =>
    intro w1 hSw
    have y0 : w1.cell? ⟨b, off, none⟩ = some (.slice (some ⟨b0, o0, none⟩) 4 C0) := hSw.1
    have y1 : w1.cell? ⟨b0, o0, none⟩ = some (.int .i64 need) := hSw.2.1
    have y2 : w1.cell? ⟨b0, o0 + 1, none⟩ = some (.int .i64 win) := hSw.2.2.1
    have y3 : w1.cell? ⟨b0, o0 + 2, none⟩ = some (.int .i64 keep) := hSw.2.2.2.1
    have y4 : w1.cell? ⟨b0, o0 + 3, none⟩ = some (.int .i64 now) := hSw.2.2.2.2
    clear hSw
    go_simp
    try with_reducible rfl
  (try go_frame)
  refine wpAnyH_ready (rs := [35]) (by kernel_rfl) (by simp) (AllReadyH.cons rfl (fun K hK => ?_) AllReadyH.nil)
  go_simp
  refine (wrong9 need win keep _).mono ?_
  rintro e wq ⟨rfl, hw⟩
  rw [hw]
  clear hw wq
  refine hK.out _ _ (hS) (fun hS => ?_)
  clear hK K
  (try go_frame)
  refine wpAnyH_take (i := 36) (v := ?vP3_36) rfl (by kernel_rfl) (by kernel_rfl) (by kernel_rfl) (fun _ _ _ h => h) (Or.inl ⟨by kernel_rfl, ?hP3_36⟩) hS ?rP3_36
  case hP3_36 =>
    intro w1 hSw
    clear hSw
    go_simp
    try with_reducible rfl
  (try go_frame)
  refine wpAnyH_take (i := 37) (v := ?vP3_37) rfl (by kernel_rfl) (by kernel_rfl) (by kernel_rfl) (fun _ _ _ h => h) (Or.inl ⟨by kernel_rfl, ?hP3_37⟩) hS ?rP3_37
  case hP3_37 =>
    intro w1 hSw
    clear hSw
    go_simp
    try with_reducible rfl
  (try go_frame)
  refine wpAnyH_take (i := 38) (v := ?vP3_38) rfl (by kernel_rfl) (by kernel_rfl) (by kernel_rfl) (fun _ _ _ h => h) (Or.inl ⟨by kernel_rfl, ?hP3_38⟩) hS ?rP3_38
  case hP3_38 =>
    intro w1 hSw
    clear hSw
    go_simp
    try with_reducible rfl
  (try go_frame)
  refine wpAnyH_take (i := 39) (v := ?vP3_39) rfl (by kernel_rfl) (by kernel_rfl) (by kernel_rfl) (fun _ _ _ h => h) (Or.inl ⟨by kernel_rfl, ?hP3_39⟩) hS ?rP3_39
  case hP3_39 =>
    intro w1 hSw
    have y0 : w1.cell? ⟨b, off, none⟩ = some (.slice (some ⟨b0, o0, none⟩) 4 C0) := hSw.1
    have y1 : w1.cell? ⟨b0, o0, none⟩ = some (.int .i64 need) := hSw.2.1
    have y2 : w1.cell? ⟨b0, o0 + 1, none⟩ = some (.int .i64 win) := hSw.2.2.1
    have y3 : w1.cell? ⟨b0, o0 + 2, none⟩ = some (.int .i64 keep) := hSw.2.2.2.1
    have y4 : w1.cell? ⟨b0, o0 + 3, none⟩ = some (.int .i64 now) := hSw.2.2.2.2
    clear hSw
    go_simp
    try with_reducible rfl
  (try go_frame)
  refine wpAnyH_take (i := 40) (v := ?vP3_40) rfl (by kernel_rfl) (by kernel_rfl) (by kernel_rfl) (fun _ _ _ h => h) (Or.inl ⟨by kernel_rfl, ?hP3_40⟩) hS ?rP3_40
  case hP3_40 =>
    intro w1 hSw
    have y0 : w1.cell? ⟨b, off, none⟩ = some (.slice (some ⟨b0, o0, none⟩) 4 C0) := hSw.1
    have y1 : w1.cell? ⟨b0, o0, none⟩ = some (.int .i64 need) := hSw.2.1
    have y2 : w1.cell? ⟨b0, o0 + 1, none⟩ = some (.int .i64 win) := hSw.2.2.1
    have y3 : w1.cell? ⟨b0, o0 + 2, none⟩ = some (.int .i64 keep) := hSw.2.2.2.1
    have y4 : w1.cell? ⟨b0, o0 + 3, none⟩ = some (.int .i64 now) := hSw.2.2.2.2
    clear hSw
    go_simp
    try with_reducible rfl
  (try go_frame)
  refine wpAnyH_take (i := 41) (v := ?vP3_41) rfl (by kernel_rfl) (by kernel_rfl) (by kernel_rfl) (fun _ _ _ h => h) (Or.inl ⟨by kernel_rfl, ?hP3_41⟩) hS ?rP3_41
  case hP3_41 =>
    intro w1 hSw
    have y0 : w1.cell? ⟨b, off, none⟩ = some (.slice (some ⟨b0, o0, none⟩) 4 C0) := hSw.1
    have y1 : w1.cell? ⟨b0, o0, none⟩ = some (.int .i64 need) := hSw.2.1
    have y2 : w1.cell? ⟨b0, o0 + 1, none⟩ = some (.int .i64 win) := hSw.2.2.1
    have y3 : w1.cell? ⟨b0, o0 + 2, none⟩ = some (.int .i64 keep) := hSw.2.2.2.1
    have y4 : w1.cell? ⟨b0, o0 + 3, none⟩ = some (.int .i64 now) := hSw.2.2.2.2
    clear hSw
    go_simp
    try with_reducible rfl
  (try go_frame)
  refine wpAnyH_take (i := 42) (v := ?vP3_42) rfl (by kernel_rfl) (by kernel_rfl) (by kernel_rfl) (fun _ _ _ h => h) (Or.inl ⟨by kernel_rfl, ?hP3_42⟩) hS ?rP3_42
  case hP3_42 =>
    intro w1 hSw
    have y0 : w1.cell? ⟨b, off, none⟩ = some (.slice (some ⟨b0, o0, none⟩) 4 C0) := hSw.1
    have y1 : w1.cell? ⟨b0, o0, none⟩ = some (.int .i64 need) := hSw.2.1
    have y2 : w1.cell? ⟨b0, o0 + 1, none⟩ = some (.int .i64 win) := hSw.2.2.1
    have y3 : w1.cell? ⟨b0, o0 + 2, none⟩ = some (.int .i64 keep) := hSw.2.2.2.1
    have y4 : w1.cell? ⟨b0, o0 + 3, none⟩ = some (.int .i64 now) := hSw.2.2.2.2
    clear hSw
    go_simp
    try with_reducible rfl
  (try go_frame)
  refine wpAnyH_take (i := 43) (v := ?vP3_43) rfl (by kernel_rfl) (by kernel_rfl) (by kernel_rfl) (fun _ _ _ h => h) (Or.inl ⟨by kernel_rfl, ?hP3_43⟩) hS ?rP3_43
  case hP3_43 =>
    intro w1 hSw
    have y0 : w1.cell? ⟨b, off, none⟩ = some (.slice (some ⟨b0, o0, none⟩) 4 C0) := hSw.1
    have y1 : w1.cell? ⟨b0, o0, none⟩ = some (.int .i64 need) := hSw.2.1
    have y2 : w1.cell? ⟨b0, o0 + 1, none⟩ = some (.int .i64 win) := hSw.2.2.1
    have y3 : w1.cell? ⟨b0, o0 + 2, none⟩ = some (.int .i64 keep) := hSw.2.2.2.1
    have y4 : w1.cell? ⟨b0, o0 + 3, none⟩ = some (.int .i64 now) := hSw.2.2.2.2
    clear hSw
    go_simp
    try with_reducible rfl
  (try go_frame)
  refine wpAnyH_take (i := 44) (v := ?vP3_44) rfl (by kernel_rfl) (by kernel_rfl) (by kernel_rfl) (fun _ _ _ h => h) (Or.inl ⟨by kernel_rfl, ?hP3_44⟩) hS ?rP3_44
  case hP3_44 =>
    intro w1 hSw
    have y0 : w1.cell? ⟨b, off, none⟩ = some (.slice (some ⟨b0, o0, none⟩) 4 C0) := hSw.1
    have y1 : w1.cell? ⟨b0, o0, none⟩ = some (.int .i64 need) := hSw.2.1
    have y2 : w1.cell? ⟨b0, o0 + 1, none⟩ = some (.int .i64 win) := hSw.2.2.1
    have y3 : w1.cell? ⟨b0, o0 + 2, none⟩ = some (.int .i64 keep) := hSw.2.2.2.1
    have y4 : w1.cell? ⟨b0, o0 + 3, none⟩ = some (.int .i64 now) := hSw.2.2.2.2
    clear hSw
    go_simp
    try with_reducible rfl
  (try go_frame)
  refine wpAnyH_ready (rs := [45]) (by kernel_rfl) (by simp) (AllReadyH.cons rfl (fun K hK => ?_) AllReadyH.nil)
  go_simp
  refine hK.out _ _ (hS) (fun hS => ?_)
  clear hK K
  refine wpAnyH_done (by kernel_rfl) ?_ _
  go_wp2_with fail
  go_ret
  exact ⟨ret_bool HF.out.symm, HB1.out.trans ((below_drewN (Below.refl _ _) _).mono hs1)⟩

set_option maxRecDepth 100000 in
set_option maxHeartbeats 8000000 in
theorem acc_main (s : Tx) (hs : s.length ≤ 100000) (w : World) {L : List (List Int)} (hL : scanR s [] [] 0 false = some L) {need win keep now : Int} (hn : 0 < L.length) (hl65 : L.length ≤ 65) (h0 : row L 0 = [need, win, keep, now]) (hne : newE need win keep = 0) (hnow1 : now ≤ 1073741824) : Calls Tryd.prog 28 #[.string (S s)] w fun e w' => e = .returned (.bool (acceptsT s)) ∧ Below w.heap.size w w' := by
  go_enter Tryd.func28, Tryd.ntmps28
  go_wp2_with fail
  refine (numbers50 s hs w).mono ?_
  rintro e w1 ⟨v, bb, rfl, hcase, hb1⟩
  have HB1 := Lib.hid hb1
  have hs1 := hb1.size
  clear hb1
  rcases hcase with ⟨rfl, L', hL', A, cap, rfl, hris⟩ | ⟨rfl, hno⟩
  rotate_left
  · exact absurd (hno.symm.trans hL) (by simp)
  have e : L = L' := (Option.some.inj (hL'.symm.trans hL)).symm
  subst e
  clear hL'
  have HAC : Hid (acceptsT s = accL L) := Lib.hid (by unfold acceptsT; rw [hL])
  have HNN := Lib.hid (scan_text s [] [] 0 false L hL (by omega) (fun _ => rfl) (fun m hm => by cases hm) (fun r hr => by cases hr)).2
  have HSH := Lib.hid (row_short hL)
  clear hL
  obtain ⟨b, off, rfl, hb, hrows⟩ := hris hn
  have HRW := Lib.hid hrows
  have q1 : ((L.length : Int) == 0) = false := by rw [beq_eq_false_iff_ne]; omega
  have q2 : decide (65 < L.length) = false := decide_eq_false (by omega)
  have q2I : decide ((65 : Int) < (L.length : Int)) = false := decide_eq_false (by omega)
  obtain ⟨A0, C0, x0, hI0⟩ := HRW.out 0 hn
  rw [Nat.add_zero] at x0
  clear hrows hris
  have HH := Lib.hid (acc_head h0 hn)
  have H0 := Lib.hid h0
  rw [h0] at hI0 x0
  obtain ⟨b0, o0, rfl, hb0, hc0⟩ := hI0 (by simp)
  have z0 : w1.cell? ⟨b0, o0, none⟩ = some (.int .i64 need) := hc0 0 (by simp)
  have z1 : w1.cell? ⟨b0, o0 + 1, none⟩ = some (.int .i64 win) := hc0 1 (by simp)
  have z2 : w1.cell? ⟨b0, o0 + 2, none⟩ = some (.int .i64 keep) := hc0 2 (by simp)
  have z3 : w1.cell? ⟨b0, o0 + 3, none⟩ = some (.int .i64 now) := hc0 3 (by simp)
  have x0 : w1.cell? ⟨b, off, none⟩ = some (.slice (some ⟨b0, o0, none⟩) 4 C0) := x0
  have hnow : 0 ≤ now := by have := (HNN.out _ (row_mem hn)).2 now; rw [h0] at this; exact this (by simp)
  clear h0 hc0
  have q4 : (newE need win keep != 0) = false := by simpa using hne
  have q5 : decide (1073741824 < now) = false := decide_eq_false (by omega)
  have HNE := Lib.hid (newE_ok hne)
  have HACC : Hid (acceptsT s = accRows ⟨need, win, keep, now, []⟩ (lastAt L 1) (L.drop 1)) := Lib.hid (by rw [HAC.out, HH.out, decide_eq_true ⟨hl65, hne, hnow1⟩, Bool.true_and])
  clear hne
  go_wp2_with fail
  refine wp_region_held_drew (S := fun w' => w'.cell? ⟨b, off, none⟩ = some (.slice (some ⟨b0, o0, none⟩) 4 C0) ∧ w'.cell? ⟨b0, o0, none⟩ = some (.int .i64 need) ∧ w'.cell? ⟨b0, o0 + 1, none⟩ = some (.int .i64 win) ∧ w'.cell? ⟨b0, o0 + 2, none⟩ = some (.int .i64 keep) ∧ w'.cell? ⟨b0, o0 + 3, none⟩ = some (.int .i64 now)) (by kernel_rfl) (⟨x0, z0, z1, z2, z3⟩) (fun hS => ?_)
  refine wpAnyH_take (i := 0) (v := ?vP4_1) rfl (by kernel_rfl) (by kernel_rfl) (by kernel_rfl) (fun _ _ _ h => h) (Or.inl ⟨by rfl, ?hP4_1⟩) hS ?rP4_1
  case hP4_1 =>
    intro w1 hSw
    clear hSw
    go_simp
    try with_reducible rfl
  (try go_frame)
  refine wpAnyH_take (i := 1) (v := ?vP4_2) rfl (by kernel_rfl) (by kernel_rfl) (by kernel_rfl) (fun _ _ _ h => h) (Or.inl ⟨by rfl, ?hP4_2⟩) hS ?rP4_2
  case hP4_2 =>
    intro w1 hSw
    clear hSw
    go_simp
    try with_reducible rfl
  (try go_frame)
  refine wpAnyH_take (i := 2) (v := ?vP4_3) rfl (by kernel_rfl) (by kernel_rfl) (by kernel_rfl) (fun _ _ _ h => h) (Or.inl ⟨by rfl, ?hP4_3⟩) hS ?rP4_3
  case hP4_3 =>
    intro w1 hSw
    clear hSw
    go_simp
    try with_reducible rfl
  (try go_frame)
  refine wpAnyH_take (i := 3) (v := ?vP4_4) rfl (by kernel_rfl) (by kernel_rfl) (by kernel_rfl) (fun _ _ _ h => h) (Or.inl ⟨by kernel_rfl, ?hP4_4⟩) hS ?rP4_4
  case hP4_4 =>
    intro w1 hSw
    clear hSw
    go_simp
    try with_reducible rfl
  (try go_frame)
  refine wpAnyH_take (i := 4) (v := ?vP4_5) rfl (by kernel_rfl) (by kernel_rfl) (by kernel_rfl) (fun _ _ _ h => h) (Or.inl ⟨by kernel_rfl, ?hP4_5⟩) hS ?rP4_5
  case hP4_5 =>
    intro w1 hSw
    clear hSw
    go_simp
    try with_reducible rfl
  (try go_frame)
  refine wpAnyH_take (i := 5) (v := ?vP4_6) rfl (by kernel_rfl) (by kernel_rfl) (by kernel_rfl) (fun _ _ _ h => h) (Or.inl ⟨by kernel_rfl, ?hP4_6⟩) hS ?rP4_6
  case hP4_6 =>
    intro w1 hSw
    clear hSw
    go_simp
    try with_reducible rfl
  (try go_frame)
  refine wpAnyH_take (i := 6) (v := ?vP4_7) rfl (by kernel_rfl) (by kernel_rfl) (by kernel_rfl) (fun _ _ _ h => h) (Or.inl ⟨by kernel_rfl, ?hP4_7⟩) hS ?rP4_7
  case hP4_7 =>
    intro w1 hSw
    clear hSw
    go_simp
    try with_reducible rfl
  (try go_frame)
  refine wpAnyH_take (i := 7) (v := ?vP4_8) rfl (by kernel_rfl) (by kernel_rfl) (by kernel_rfl) (fun _ _ _ h => h) (Or.inl ⟨by kernel_rfl, ?hP4_8⟩) hS ?rP4_8
  case hP4_8 =>
    intro w1 hSw
    clear hSw
    go_simp
    try with_reducible rfl
  (try go_frame)
  refine wpAnyH_take (i := 8) (v := ?vP4_9) rfl (by kernel_rfl) (by kernel_rfl) (by kernel_rfl) (fun _ _ _ h => h) (Or.inl ⟨by kernel_rfl, ?hP4_9⟩) hS ?rP4_9
  case hP4_9 =>
    intro w1 hSw
    clear hSw
    go_simp
    try with_reducible rfl
  (try go_frame)
  refine wpAnyH_take (i := 9) (v := ?vP4_10) rfl (by kernel_rfl) (by kernel_rfl) (by kernel_rfl) (fun _ _ _ h => h) (Or.inl ⟨by kernel_rfl, ?hP4_10⟩) hS ?rP4_10
  case hP4_10 =>
    intro w1 hSw
    clear hSw
    go_simp
    try with_reducible rfl
  (try go_frame)
  refine wpAnyH_take (i := 10) (v := ?vP4_11) rfl (by kernel_rfl) (by kernel_rfl) (by kernel_rfl) (fun _ _ _ h => h) (Or.inl ⟨by kernel_rfl, ?hP4_11⟩) hS ?rP4_11
  case hP4_11 =>
    intro w1 hSw
    clear hSw
    go_simp
    try with_reducible rfl
  (try go_frame)
  refine wpAnyH_take (i := 11) (v := ?vP4_12) rfl (by kernel_rfl) (by kernel_rfl) (by kernel_rfl) (fun _ _ _ h => h) (Or.inl ⟨by kernel_rfl, ?hP4_12⟩) hS ?rP4_12
  case hP4_12 =>
    intro w1 hSw
    clear hSw
    go_simp
    try with_reducible rfl
  (try go_frame)
  refine wpAnyH_take (i := 12) (v := ?vP4_13) rfl (by kernel_rfl) (by kernel_rfl) (by kernel_rfl) (fun _ _ _ h => h) (Or.inl ⟨by kernel_rfl, ?hP4_13⟩) hS ?rP4_13
  case hP4_13 =>
    intro w1 hSw
    clear hSw
    go_simp
    try with_reducible rfl
  (try go_frame)
  refine wpAnyH_take (i := 13) (v := ?vP4_14) rfl (by kernel_rfl) (by kernel_rfl) (by kernel_rfl) (fun _ _ _ h => h) (Or.inl ⟨by kernel_rfl, ?hP4_14⟩) hS ?rP4_14
  case hP4_14 =>
    intro w1 hSw
    clear hSw
    go_simp
    try with_reducible rfl
  (try go_frame)
  refine wpAnyH_take (i := 14) (v := ?vP4_15) rfl (by kernel_rfl) (by kernel_rfl) (by kernel_rfl) (fun _ _ _ h => h) (Or.inl ⟨by kernel_rfl, ?hP4_15⟩) hS ?rP4_15
  case hP4_15 =>
    intro w1 hSw
    clear hSw
    go_simp
    try with_reducible rfl
  (try go_frame)
  refine wpAnyH_take (i := 15) (v := ?vP4_16) rfl (by kernel_rfl) (by kernel_rfl) (by kernel_rfl) (fun _ _ _ h => h) (Or.inl ⟨by kernel_rfl, ?hP4_16⟩) hS ?rP4_16
  case hP4_16 =>
    intro w1 hSw
    have y0 : w1.cell? ⟨b, off, none⟩ = some (.slice (some ⟨b0, o0, none⟩) 4 C0) := hSw.1
    have y1 : w1.cell? ⟨b0, o0, none⟩ = some (.int .i64 need) := hSw.2.1
    have y2 : w1.cell? ⟨b0, o0 + 1, none⟩ = some (.int .i64 win) := hSw.2.2.1
    have y3 : w1.cell? ⟨b0, o0 + 2, none⟩ = some (.int .i64 keep) := hSw.2.2.2.1
    have y4 : w1.cell? ⟨b0, o0 + 3, none⟩ = some (.int .i64 now) := hSw.2.2.2.2
    clear hSw
    go_simp
    try with_reducible rfl
  (try go_frame)
  refine wpAnyH_take (i := 16) (v := ?vP4_17) rfl (by kernel_rfl) (by kernel_rfl) (by kernel_rfl) (fun _ _ _ h => h) (Or.inl ⟨by kernel_rfl, ?hP4_17⟩) hS ?rP4_17
  case hP4_17 =>
    intro w1 hSw
    clear hSw
    go_simp
    try with_reducible rfl
  (try go_frame)
  refine wpAnyH_take (i := 17) (v := ?vP4_18) rfl (by kernel_rfl) (by kernel_rfl) (by kernel_rfl) (fun _ _ _ h => h) (Or.inl ⟨by kernel_rfl, ?hP4_18⟩) hS ?rP4_18
  case hP4_18 =>
    intro w1 hSw
    clear hSw
    go_simp
    try with_reducible rfl
  (try go_frame)
  refine wpAnyH_take (i := 18) (v := ?vP4_19) rfl (by kernel_rfl) (by kernel_rfl) (by kernel_rfl) (fun _ _ _ h => h) (Or.inl ⟨by kernel_rfl, ?hP4_19⟩) hS ?rP4_19
  case hP4_19 =>
    intro w1 hSw
    clear hSw
    go_simp
    try with_reducible rfl
  (try go_frame)
  refine wpAnyH_take (i := 19) (v := ?vP4_20) rfl (by kernel_rfl) (by kernel_rfl) (by kernel_rfl) (fun _ _ _ h => h) (Or.inl ⟨by kernel_rfl, ?hP4_20⟩) hS ?rP4_20
  case hP4_20 =>
    intro w1 hSw
    clear hSw
    go_simp
    try with_reducible rfl
  (try go_frame)
  refine wpAnyH_take (i := 20) (v := ?vP4_21) rfl (by kernel_rfl) (by kernel_rfl) (by kernel_rfl) (fun _ _ _ h => h) (Or.inl ⟨by kernel_rfl, ?hP4_21⟩) hS ?rP4_21
  case hP4_21 =>
    intro w1 hSw
    have y0 : w1.cell? ⟨b, off, none⟩ = some (.slice (some ⟨b0, o0, none⟩) 4 C0) := hSw.1
    have y1 : w1.cell? ⟨b0, o0, none⟩ = some (.int .i64 need) := hSw.2.1
    have y2 : w1.cell? ⟨b0, o0 + 1, none⟩ = some (.int .i64 win) := hSw.2.2.1
    have y3 : w1.cell? ⟨b0, o0 + 2, none⟩ = some (.int .i64 keep) := hSw.2.2.2.1
    have y4 : w1.cell? ⟨b0, o0 + 3, none⟩ = some (.int .i64 now) := hSw.2.2.2.2
    clear hSw
    go_simp
    try with_reducible rfl
  (try go_frame)
  refine wpAnyH_take (i := 21) (v := ?vP4_22) rfl (by kernel_rfl) (by kernel_rfl) (by kernel_rfl) (fun _ _ _ h => h) (Or.inl ⟨by kernel_rfl, ?hP4_22⟩) hS ?rP4_22
  case hP4_22 =>
    intro w1 hSw
    have y0 : w1.cell? ⟨b, off, none⟩ = some (.slice (some ⟨b0, o0, none⟩) 4 C0) := hSw.1
    have y1 : w1.cell? ⟨b0, o0, none⟩ = some (.int .i64 need) := hSw.2.1
    have y2 : w1.cell? ⟨b0, o0 + 1, none⟩ = some (.int .i64 win) := hSw.2.2.1
    have y3 : w1.cell? ⟨b0, o0 + 2, none⟩ = some (.int .i64 keep) := hSw.2.2.2.1
    have y4 : w1.cell? ⟨b0, o0 + 3, none⟩ = some (.int .i64 now) := hSw.2.2.2.2
    clear hSw
    go_simp
    try with_reducible rfl
  (try go_frame)
  refine wpAnyH_take (i := 22) (v := ?vP4_23) rfl (by kernel_rfl) (by kernel_rfl) (by kernel_rfl) (fun _ _ _ h => h) (Or.inl ⟨by kernel_rfl, ?hP4_23⟩) hS ?rP4_23
  case hP4_23 =>
    intro w1 hSw
    have y0 : w1.cell? ⟨b, off, none⟩ = some (.slice (some ⟨b0, o0, none⟩) 4 C0) := hSw.1
    have y1 : w1.cell? ⟨b0, o0, none⟩ = some (.int .i64 need) := hSw.2.1
    have y2 : w1.cell? ⟨b0, o0 + 1, none⟩ = some (.int .i64 win) := hSw.2.2.1
    have y3 : w1.cell? ⟨b0, o0 + 2, none⟩ = some (.int .i64 keep) := hSw.2.2.2.1
    have y4 : w1.cell? ⟨b0, o0 + 3, none⟩ = some (.int .i64 now) := hSw.2.2.2.2
    clear hSw
    go_simp
    try with_reducible rfl
  (try go_frame)
  refine wpAnyH_take (i := 23) (v := ?vP4_24) rfl (by kernel_rfl) (by kernel_rfl) (by kernel_rfl) (fun _ _ _ h => h) (Or.inl ⟨by kernel_rfl, ?hP4_24⟩) hS ?rP4_24
  case hP4_24 =>
    intro w1 hSw
    have y0 : w1.cell? ⟨b, off, none⟩ = some (.slice (some ⟨b0, o0, none⟩) 4 C0) := hSw.1
    have y1 : w1.cell? ⟨b0, o0, none⟩ = some (.int .i64 need) := hSw.2.1
    have y2 : w1.cell? ⟨b0, o0 + 1, none⟩ = some (.int .i64 win) := hSw.2.2.1
    have y3 : w1.cell? ⟨b0, o0 + 2, none⟩ = some (.int .i64 keep) := hSw.2.2.2.1
    have y4 : w1.cell? ⟨b0, o0 + 3, none⟩ = some (.int .i64 now) := hSw.2.2.2.2
    clear hSw
    go_simp
    try with_reducible rfl
  (try go_frame)
  refine wpAnyH_take (i := 24) (v := ?vP4_25) rfl (by kernel_rfl) (by kernel_rfl) (by kernel_rfl) (fun _ _ _ h => h) (Or.inl ⟨by kernel_rfl, ?hP4_25⟩) hS ?rP4_25
  case hP4_25 =>
    intro w1 hSw
    have y0 : w1.cell? ⟨b, off, none⟩ = some (.slice (some ⟨b0, o0, none⟩) 4 C0) := hSw.1
    have y1 : w1.cell? ⟨b0, o0, none⟩ = some (.int .i64 need) := hSw.2.1
    have y2 : w1.cell? ⟨b0, o0 + 1, none⟩ = some (.int .i64 win) := hSw.2.2.1
    have y3 : w1.cell? ⟨b0, o0 + 2, none⟩ = some (.int .i64 keep) := hSw.2.2.2.1
    have y4 : w1.cell? ⟨b0, o0 + 3, none⟩ = some (.int .i64 now) := hSw.2.2.2.2
    clear hSw
    go_simp
    try with_reducible rfl
  (try go_frame)
  refine wpAnyH_take (i := 25) (v := ?vP4_26) rfl (by kernel_rfl) (by kernel_rfl) (by kernel_rfl) (fun _ _ _ h => h) (Or.inl ⟨by kernel_rfl, ?hP4_26⟩) hS ?rP4_26
  case hP4_26 =>
    intro w1 hSw
    have y0 : w1.cell? ⟨b, off, none⟩ = some (.slice (some ⟨b0, o0, none⟩) 4 C0) := hSw.1
    have y1 : w1.cell? ⟨b0, o0, none⟩ = some (.int .i64 need) := hSw.2.1
    have y2 : w1.cell? ⟨b0, o0 + 1, none⟩ = some (.int .i64 win) := hSw.2.2.1
    have y3 : w1.cell? ⟨b0, o0 + 2, none⟩ = some (.int .i64 keep) := hSw.2.2.2.1
    have y4 : w1.cell? ⟨b0, o0 + 3, none⟩ = some (.int .i64 now) := hSw.2.2.2.2
    clear hSw
    go_simp
    try with_reducible rfl
  (try go_frame)
  refine wpAnyH_take (i := 26) (v := ?vP4_27) rfl (by kernel_rfl) (by kernel_rfl) (by kernel_rfl) (fun _ _ _ h => h) (Or.inl ⟨by kernel_rfl, ?hP4_27⟩) hS ?rP4_27
  case hP4_27 =>
    intro w1 hSw
    have y0 : w1.cell? ⟨b, off, none⟩ = some (.slice (some ⟨b0, o0, none⟩) 4 C0) := hSw.1
    have y1 : w1.cell? ⟨b0, o0, none⟩ = some (.int .i64 need) := hSw.2.1
    have y2 : w1.cell? ⟨b0, o0 + 1, none⟩ = some (.int .i64 win) := hSw.2.2.1
    have y3 : w1.cell? ⟨b0, o0 + 2, none⟩ = some (.int .i64 keep) := hSw.2.2.2.1
    have y4 : w1.cell? ⟨b0, o0 + 3, none⟩ = some (.int .i64 now) := hSw.2.2.2.2
    clear hSw
    go_simp
    try with_reducible rfl
  (try go_frame)
  refine wpAnyH_take (i := 27) (v := ?vP4_28) rfl (by kernel_rfl) (by kernel_rfl) (by kernel_rfl) (fun _ _ _ h => h) (Or.inl ⟨by kernel_rfl, ?hP4_28⟩) hS ?rP4_28
  case hP4_28 =>
    intro w1 hSw
    have y0 : w1.cell? ⟨b, off, none⟩ = some (.slice (some ⟨b0, o0, none⟩) 4 C0) := hSw.1
    have y1 : w1.cell? ⟨b0, o0, none⟩ = some (.int .i64 need) := hSw.2.1
    have y2 : w1.cell? ⟨b0, o0 + 1, none⟩ = some (.int .i64 win) := hSw.2.2.1
    have y3 : w1.cell? ⟨b0, o0 + 2, none⟩ = some (.int .i64 keep) := hSw.2.2.2.1
    have y4 : w1.cell? ⟨b0, o0 + 3, none⟩ = some (.int .i64 now) := hSw.2.2.2.2
    clear hSw
    go_simp
    try with_reducible rfl
  (try go_frame)
  refine wpAnyH_take (i := 28) (v := ?vP4_29) rfl (by kernel_rfl) (by kernel_rfl) (by kernel_rfl) (fun _ _ _ h => h) (Or.inl ⟨by kernel_rfl, ?hP4_29⟩) hS ?rP4_29
  case hP4_29 =>
    intro w1 hSw
    have y0 : w1.cell? ⟨b, off, none⟩ = some (.slice (some ⟨b0, o0, none⟩) 4 C0) := hSw.1
    have y1 : w1.cell? ⟨b0, o0, none⟩ = some (.int .i64 need) := hSw.2.1
    have y2 : w1.cell? ⟨b0, o0 + 1, none⟩ = some (.int .i64 win) := hSw.2.2.1
    have y3 : w1.cell? ⟨b0, o0 + 2, none⟩ = some (.int .i64 keep) := hSw.2.2.2.1
    have y4 : w1.cell? ⟨b0, o0 + 3, none⟩ = some (.int .i64 now) := hSw.2.2.2.2
    clear hSw
    go_simp
    try with_reducible rfl
  (try go_frame)
  refine wpAnyH_take (i := 29) (v := ?vP4_30) rfl (by kernel_rfl) (by kernel_rfl) (by kernel_rfl) (fun _ _ _ h => h) (Or.inl ⟨by kernel_rfl, ?hP4_30⟩) hS ?rP4_30
  case hP4_30 =>
    intro w1 hSw
    have y0 : w1.cell? ⟨b, off, none⟩ = some (.slice (some ⟨b0, o0, none⟩) 4 C0) := hSw.1
    have y1 : w1.cell? ⟨b0, o0, none⟩ = some (.int .i64 need) := hSw.2.1
    have y2 : w1.cell? ⟨b0, o0 + 1, none⟩ = some (.int .i64 win) := hSw.2.2.1
    have y3 : w1.cell? ⟨b0, o0 + 2, none⟩ = some (.int .i64 keep) := hSw.2.2.2.1
    have y4 : w1.cell? ⟨b0, o0 + 3, none⟩ = some (.int .i64 now) := hSw.2.2.2.2
    clear hSw
    go_simp
    try with_reducible rfl
  (try go_frame)
  refine wpAnyH_take (i := 30) (v := ?vP4_31) rfl (by kernel_rfl) (by kernel_rfl) (by kernel_rfl) (fun _ _ _ h => h) (Or.inl ⟨by kernel_rfl, ?hP4_31⟩) hS ?rP4_31
  case hP4_31 =>
    intro w1 hSw
    have y0 : w1.cell? ⟨b, off, none⟩ = some (.slice (some ⟨b0, o0, none⟩) 4 C0) := hSw.1
    have y1 : w1.cell? ⟨b0, o0, none⟩ = some (.int .i64 need) := hSw.2.1
    have y2 : w1.cell? ⟨b0, o0 + 1, none⟩ = some (.int .i64 win) := hSw.2.2.1
    have y3 : w1.cell? ⟨b0, o0 + 2, none⟩ = some (.int .i64 keep) := hSw.2.2.2.1
    have y4 : w1.cell? ⟨b0, o0 + 3, none⟩ = some (.int .i64 now) := hSw.2.2.2.2
    clear hSw
    go_simp
    try with_reducible rfl
  (try go_frame)
  refine wpAnyH_take (i := 31) (v := ?vP4_32) rfl (by kernel_rfl) (by kernel_rfl) (by kernel_rfl) (fun _ _ _ h => h) (Or.inl ⟨by kernel_rfl, ?hP4_32⟩) hS ?rP4_32
  case hP4_32 =>
    intro w1 hSw
    have y0 : w1.cell? ⟨b, off, none⟩ = some (.slice (some ⟨b0, o0, none⟩) 4 C0) := hSw.1
    have y1 : w1.cell? ⟨b0, o0, none⟩ = some (.int .i64 need) := hSw.2.1
    have y2 : w1.cell? ⟨b0, o0 + 1, none⟩ = some (.int .i64 win) := hSw.2.2.1
    have y3 : w1.cell? ⟨b0, o0 + 2, none⟩ = some (.int .i64 keep) := hSw.2.2.2.1
    have y4 : w1.cell? ⟨b0, o0 + 3, none⟩ = some (.int .i64 now) := hSw.2.2.2.2
    clear hSw
    go_simp
    try with_reducible rfl
  (try go_frame)
  refine wpAnyH_take (i := 32) (v := ?vP4_33) rfl (by kernel_rfl) (by kernel_rfl) (by kernel_rfl) (fun _ _ _ h => h) (Or.inl ⟨by kernel_rfl, ?hP4_33⟩) hS ?rP4_33
  case hP4_33 =>
    intro w1 hSw
    have y0 : w1.cell? ⟨b, off, none⟩ = some (.slice (some ⟨b0, o0, none⟩) 4 C0) := hSw.1
    have y1 : w1.cell? ⟨b0, o0, none⟩ = some (.int .i64 need) := hSw.2.1
    have y2 : w1.cell? ⟨b0, o0 + 1, none⟩ = some (.int .i64 win) := hSw.2.2.1
    have y3 : w1.cell? ⟨b0, o0 + 2, none⟩ = some (.int .i64 keep) := hSw.2.2.2.1
    have y4 : w1.cell? ⟨b0, o0 + 3, none⟩ = some (.int .i64 now) := hSw.2.2.2.2
    clear hSw
    go_simp
    try with_reducible rfl
  (try go_frame)
  refine wpAnyH_take (i := 33) (v := ?vP4_34) rfl (by kernel_rfl) (by kernel_rfl) (by kernel_rfl) (fun _ _ _ h => h) (Or.inl ⟨by kernel_rfl, ?hP4_34⟩) hS ?rP4_34
  case hP4_34 =>
    intro w1 hSw
    have y0 : w1.cell? ⟨b, off, none⟩ = some (.slice (some ⟨b0, o0, none⟩) 4 C0) := hSw.1
    have y1 : w1.cell? ⟨b0, o0, none⟩ = some (.int .i64 need) := hSw.2.1
    have y2 : w1.cell? ⟨b0, o0 + 1, none⟩ = some (.int .i64 win) := hSw.2.2.1
    have y3 : w1.cell? ⟨b0, o0 + 2, none⟩ = some (.int .i64 keep) := hSw.2.2.2.1
    have y4 : w1.cell? ⟨b0, o0 + 3, none⟩ = some (.int .i64 now) := hSw.2.2.2.2
    clear hSw
    go_simp
    try with_reducible rfl
  (try go_frame)
  refine wpAnyH_take (i := 34) (v := ?vP4_35) rfl (by kernel_rfl) (by kernel_rfl) (by kernel_rfl) (fun _ _ _ h => h) (Or.inl ⟨by kernel_rfl, ?hP4_35⟩) hS ?rP4_35
  case hP4_35 =>
    intro w1 hSw
    have y0 : w1.cell? ⟨b, off, none⟩ = some (.slice (some ⟨b0, o0, none⟩) 4 C0) := hSw.1
    have y1 : w1.cell? ⟨b0, o0, none⟩ = some (.int .i64 need) := hSw.2.1
    have y2 : w1.cell? ⟨b0, o0 + 1, none⟩ = some (.int .i64 win) := hSw.2.2.1
    have y3 : w1.cell? ⟨b0, o0 + 2, none⟩ = some (.int .i64 keep) := hSw.2.2.2.1
    have y4 : w1.cell? ⟨b0, o0 + 3, none⟩ = some (.int .i64 now) := hSw.2.2.2.2
    clear hSw
    go_simp
    try with_reducible rfl
  (try go_frame)
  refine wpAnyH_ready (rs := [35]) (by kernel_rfl) (by simp) (AllReadyH.cons rfl (fun K hK => ?_) AllReadyH.nil)
  go_simp
  refine (wrong9 need win keep _).mono ?_
  rintro e wq ⟨rfl, hw⟩
  rw [hw]
  clear hw wq
  refine hK.out _ _ (hS) (fun hS => ?_)
  clear hK K
  (try go_frame)
  refine wpAnyH_take (i := 36) (v := ?vP4_36) rfl (by kernel_rfl) (by kernel_rfl) (by kernel_rfl) (fun _ _ _ h => h) (Or.inl ⟨by kernel_rfl, ?hP4_36⟩) hS ?rP4_36
  case hP4_36 =>
    intro w1 hSw
    clear hSw
    go_simp
    try with_reducible rfl
  (try go_frame)
  refine wpAnyH_take (i := 37) (v := ?vP4_37) rfl (by kernel_rfl) (by kernel_rfl) (by kernel_rfl) (fun _ _ _ h => h) (Or.inl ⟨by kernel_rfl, ?hP4_37⟩) hS ?rP4_37
  case hP4_37 =>
    intro w1 hSw
    clear hSw
    go_simp
    try with_reducible rfl
  (try go_frame)
  refine wpAnyH_take (i := 38) (v := ?vP4_38) rfl (by kernel_rfl) (by kernel_rfl) (by kernel_rfl) (fun _ _ _ h => h) (Or.inl ⟨by kernel_rfl, ?hP4_38⟩) hS ?rP4_38
  case hP4_38 =>
    intro w1 hSw
    clear hSw
    go_simp
    try with_reducible rfl
  (try go_frame)
  refine wpAnyH_take (i := 39) (v := ?vP4_39) rfl (by kernel_rfl) (by kernel_rfl) (by kernel_rfl) (fun _ _ _ h => h) (Or.inl ⟨by kernel_rfl, ?hP4_39⟩) hS ?rP4_39
  case hP4_39 =>
    intro w1 hSw
    have y0 : w1.cell? ⟨b, off, none⟩ = some (.slice (some ⟨b0, o0, none⟩) 4 C0) := hSw.1
    have y1 : w1.cell? ⟨b0, o0, none⟩ = some (.int .i64 need) := hSw.2.1
    have y2 : w1.cell? ⟨b0, o0 + 1, none⟩ = some (.int .i64 win) := hSw.2.2.1
    have y3 : w1.cell? ⟨b0, o0 + 2, none⟩ = some (.int .i64 keep) := hSw.2.2.2.1
    have y4 : w1.cell? ⟨b0, o0 + 3, none⟩ = some (.int .i64 now) := hSw.2.2.2.2
    clear hSw
    go_simp
    try with_reducible rfl
  (try go_frame)
  refine wpAnyH_take (i := 40) (v := ?vP4_40) rfl (by kernel_rfl) (by kernel_rfl) (by kernel_rfl) (fun _ _ _ h => h) (Or.inl ⟨by kernel_rfl, ?hP4_40⟩) hS ?rP4_40
  case hP4_40 =>
    intro w1 hSw
    have y0 : w1.cell? ⟨b, off, none⟩ = some (.slice (some ⟨b0, o0, none⟩) 4 C0) := hSw.1
    have y1 : w1.cell? ⟨b0, o0, none⟩ = some (.int .i64 need) := hSw.2.1
    have y2 : w1.cell? ⟨b0, o0 + 1, none⟩ = some (.int .i64 win) := hSw.2.2.1
    have y3 : w1.cell? ⟨b0, o0 + 2, none⟩ = some (.int .i64 keep) := hSw.2.2.2.1
    have y4 : w1.cell? ⟨b0, o0 + 3, none⟩ = some (.int .i64 now) := hSw.2.2.2.2
    clear hSw
    go_simp
    try with_reducible rfl
  (try go_frame)
  refine wpAnyH_take (i := 41) (v := ?vP4_41) rfl (by kernel_rfl) (by kernel_rfl) (by kernel_rfl) (fun _ _ _ h => h) (Or.inl ⟨by kernel_rfl, ?hP4_41⟩) hS ?rP4_41
  case hP4_41 =>
    intro w1 hSw
    have y0 : w1.cell? ⟨b, off, none⟩ = some (.slice (some ⟨b0, o0, none⟩) 4 C0) := hSw.1
    have y1 : w1.cell? ⟨b0, o0, none⟩ = some (.int .i64 need) := hSw.2.1
    have y2 : w1.cell? ⟨b0, o0 + 1, none⟩ = some (.int .i64 win) := hSw.2.2.1
    have y3 : w1.cell? ⟨b0, o0 + 2, none⟩ = some (.int .i64 keep) := hSw.2.2.2.1
    have y4 : w1.cell? ⟨b0, o0 + 3, none⟩ = some (.int .i64 now) := hSw.2.2.2.2
    clear hSw
    go_simp
    try with_reducible rfl
  (try go_frame)
  refine wpAnyH_take (i := 42) (v := ?vP4_42) rfl (by kernel_rfl) (by kernel_rfl) (by kernel_rfl) (fun _ _ _ h => h) (Or.inl ⟨by kernel_rfl, ?hP4_42⟩) hS ?rP4_42
  case hP4_42 =>
    intro w1 hSw
    have y0 : w1.cell? ⟨b, off, none⟩ = some (.slice (some ⟨b0, o0, none⟩) 4 C0) := hSw.1
    have y1 : w1.cell? ⟨b0, o0, none⟩ = some (.int .i64 need) := hSw.2.1
    have y2 : w1.cell? ⟨b0, o0 + 1, none⟩ = some (.int .i64 win) := hSw.2.2.1
    have y3 : w1.cell? ⟨b0, o0 + 2, none⟩ = some (.int .i64 keep) := hSw.2.2.2.1
    have y4 : w1.cell? ⟨b0, o0 + 3, none⟩ = some (.int .i64 now) := hSw.2.2.2.2
    clear hSw
    go_simp
    try with_reducible rfl
  (try go_frame)
  refine wpAnyH_take (i := 43) (v := ?vP4_43) rfl (by kernel_rfl) (by kernel_rfl) (by kernel_rfl) (fun _ _ _ h => h) (Or.inl ⟨by kernel_rfl, ?hP4_43⟩) hS ?rP4_43
  case hP4_43 =>
    intro w1 hSw
    have y0 : w1.cell? ⟨b, off, none⟩ = some (.slice (some ⟨b0, o0, none⟩) 4 C0) := hSw.1
    have y1 : w1.cell? ⟨b0, o0, none⟩ = some (.int .i64 need) := hSw.2.1
    have y2 : w1.cell? ⟨b0, o0 + 1, none⟩ = some (.int .i64 win) := hSw.2.2.1
    have y3 : w1.cell? ⟨b0, o0 + 2, none⟩ = some (.int .i64 keep) := hSw.2.2.2.1
    have y4 : w1.cell? ⟨b0, o0 + 3, none⟩ = some (.int .i64 now) := hSw.2.2.2.2
    clear hSw
    go_simp
    try with_reducible rfl
  (try go_frame)
  refine wpAnyH_take (i := 44) (v := ?vP4_44) rfl (by kernel_rfl) (by kernel_rfl) (by kernel_rfl) (fun _ _ _ h => h) (Or.inl ⟨by kernel_rfl, ?hP4_44⟩) hS ?rP4_44
  case hP4_44 =>
    intro w1 hSw
    have y0 : w1.cell? ⟨b, off, none⟩ = some (.slice (some ⟨b0, o0, none⟩) 4 C0) := hSw.1
    have y1 : w1.cell? ⟨b0, o0, none⟩ = some (.int .i64 need) := hSw.2.1
    have y2 : w1.cell? ⟨b0, o0 + 1, none⟩ = some (.int .i64 win) := hSw.2.2.1
    have y3 : w1.cell? ⟨b0, o0 + 2, none⟩ = some (.int .i64 keep) := hSw.2.2.2.1
    have y4 : w1.cell? ⟨b0, o0 + 3, none⟩ = some (.int .i64 now) := hSw.2.2.2.2
    clear hSw
    go_simp
    try with_reducible rfl
  (try go_frame)
  refine wpAnyH_ready (rs := [45]) (by kernel_rfl) (by simp) (AllReadyH.cons rfl (fun K hK => ?_) AllReadyH.nil)
  go_simp
  refine hK.out _ _ (hS) (fun hS => ?_)
  clear hK K
  refine wpAnyH_done (by kernel_rfl) ?_ _
  go_wp2_with fail
  go_quiet (fail)
  go_wp2_with fail
  go_loopw [9, 10, 11] (fun ii _ _ wr => ∃ i : Nat, 1 ≤ i ∧ i ≤ L.length ∧ ii = .int .i64 i ∧ Hid (acceptsT s = accRows (⟨need, win, keep, now, []⟩ : Ts) (lastAt L i) (L.drop i)) ∧ Below w1.heap.size w1 wr) (fun ii _ _ _ => L.length - (intOf ii).toNat)
  case atStart => exact ⟨1, Nat.le_refl _, by omega, rfl, HACC, by first | exact Below.refl _ _ | exact (Below.refl _ _).drew | exact below_drewN (Below.refl _ _) _ | exact below_drewN (Below.refl _ _).drew _ | exact (below_drewN (below_drewN (Below.refl _ _) _) _) | exact (below_drewN (below_drewN (Below.refl _ _) _).drew _)⟩
  case round =>
    obtain ⟨i, hi1, hi, rfl, HAI, hbr⟩ := hrel
    have HBR := Lib.hid hbr
    have hsr := hbr.size
    clear HACC
    by_cases hlt : i < L.length
    · obtain ⟨Ai, Ci, xi, hIi⟩ := HRW.out i hlt
      have hx0 : 0 < (row L i).length := List.length_pos_iff.2 (HNN.out _ (row_mem hlt)).1
      obtain ⟨bi, oi, rfl, hbi, hci⟩ := hIi hx0
      have hst := acc_step (t := (⟨need, win, keep, now, []⟩ : Ts)) hi1 hlt
      have hnn := (HNN.out _ (row_mem hlt)).2
      have hxl := Nat.le_trans (HSH.out _ (row_mem hlt)) hs
      have HPV : Hid (1 < i → ∃ bp op np Cp, w1.cell? ⟨b, off + (i - 1), none⟩ = some (.slice (some ⟨bp, op, none⟩) np Cp) ∧ 0 < np ∧ bp < w1.heap.size ∧ w1.cell? ⟨bp, op, none⟩ = some (.int .i64 (nth (row L (i - 1)) 0))) := Lib.hid (fun h => by
        obtain ⟨Ap, Cp, xp, hIp⟩ := HRW.out (i - 1) (by omega)
        have hp0 : 0 < (row L (i - 1)).length := List.length_pos_iff.2 (HNN.out _ (row_mem (by omega))).1
        obtain ⟨bp, op, rfl, hbp, hcp⟩ := hIp hp0
        exact ⟨bp, op, _, Cp, xp, hp0, hbp, hcp 0 hp0⟩)
      obtain ⟨x, hx⟩ : ∃ x, x = row L i := ⟨_, rfl⟩
      rw [← hx] at xi hx0 hci hst hnn hxl
      have HBAD : Hid (accRow (⟨need, win, keep, now, []⟩ : Ts) (lastAt L i) x = false → acceptsT s = false) := Lib.hid (fun h => by rw [HAI.out, hst, h]; rfl)
      have HGO : Hid (accRow (⟨need, win, keep, now, []⟩ : Ts) (lastAt L i) x = true → acceptsT s = accRows (⟨need, win, keep, now, []⟩ : Ts) (lastAt L (i + 1)) (L.drop (i + 1))) := Lib.hid (fun h => by rw [HAI.out, hst, h, Bool.true_and])
      have HCI := Lib.hid hci
      have HNX := Lib.hid hnn
      have cx : wr.cell? ⟨b, off + i, none⟩ = some (.slice (some ⟨bi, oi, none⟩) x.length Ci) := (hbr.cell (p := ⟨b, off + i, none⟩) hb).trans xi
      have hltI : (i : Int) < (L.length : Int) := by omega
      clear hst hci hnn hx hbr xi HAI
      go_upto_region 9 with (fail)
      go_cut [124] from 93 to 123 (fun vv wx => ∃ v : Bool, vv = .bool v ∧ Hid (Below w1.heap.size w1 wx) ∧ (v = true → acceptsT s = false) ∧ (v = false → 3 ≤ x.length ∧ nth x 0 ≤ 16777215 ∧ lastAt L i < nth x 0 ∧ nth x 1 ≤ 1))
      case first =>
        by_cases h3 : 3 ≤ x.length
        rotate_left
        · have HF := Lib.hid (HBAD.out (accRow_short (by omega)))
          have h3a : x.length < 3 := by omega
          have h3I : (x.length : Int) < 3 := by omega
          clear h3
          go_wp2_with fail
          refine wp_region_held_drew (S := fun _ => True) (by kernel_rfl) (trivial) (fun hS => ?_)
          refine wpAnyH_take (i := 0) (v := ?vQ5_1) rfl (by kernel_rfl) (by kernel_rfl) (by kernel_rfl) (fun _ _ _ h => h) (Or.inl ⟨by rfl, ?hQ5_1⟩) hS ?rQ5_1
          case hQ5_1 =>
            intro w1 hSw
            clear hSw
            go_simp
            try with_reducible rfl
          (try go_frame)
          refine wpAnyH_take (i := 1) (v := ?vQ5_2) rfl (by kernel_rfl) (by kernel_rfl) (by kernel_rfl) (fun _ _ _ h => h) (Or.inl ⟨by rfl, ?hQ5_2⟩) hS ?rQ5_2
          case hQ5_2 =>
            intro w1 hSw
            clear hSw
            go_simp
            try with_reducible rfl
          (try go_frame)
          refine wpAnyH_take (i := 2) (v := ?vQ5_3) rfl (by kernel_rfl) (by kernel_rfl) (by kernel_rfl) (fun _ _ _ h => h) (Or.inl ⟨by rfl, ?hQ5_3⟩) hS ?rQ5_3
          case hQ5_3 =>
            intro w1 hSw
            clear hSw
            go_simp
            try with_reducible rfl
          (try go_frame)
          refine wpAnyH_take (i := 3) (v := ?vQ5_4) rfl (by kernel_rfl) (by kernel_rfl) (by kernel_rfl) (fun _ _ _ h => h) (Or.inl ⟨by rfl, ?hQ5_4⟩) hS ?rQ5_4
          case hQ5_4 =>
            intro w1 hSw
            clear hSw
            go_simp
            try with_reducible rfl
          (try go_frame)
          refine wpAnyH_take (i := 4) (v := undef) rfl (by kernel_rfl) (by kernel_rfl) (by kernel_rfl) (fun _ _ _ h => h) (Or.inr ⟨by kernel_rfl, rfl⟩) hS ?rQ5_5
          (try go_frame)
          refine wpAnyH_take (i := 5) (v := undef) rfl (by kernel_rfl) (by kernel_rfl) (by kernel_rfl) (fun _ _ _ h => h) (Or.inr ⟨by kernel_rfl, rfl⟩) hS ?rQ5_6
          (try go_frame)
          refine wpAnyH_take (i := 6) (v := undef) rfl (by kernel_rfl) (by kernel_rfl) (by kernel_rfl) (fun _ _ _ h => h) (Or.inr ⟨by kernel_rfl, rfl⟩) hS ?rQ5_7
          (try go_frame)
          refine wpAnyH_take (i := 7) (v := undef) rfl (by kernel_rfl) (by kernel_rfl) (by kernel_rfl) (fun _ _ _ h => h) (Or.inr ⟨by kernel_rfl, rfl⟩) hS ?rQ5_8
          (try go_frame)
          refine wpAnyH_take (i := 8) (v := ?vQ5_9) rfl (by kernel_rfl) (by kernel_rfl) (by kernel_rfl) (fun _ _ _ h => h) (Or.inl ⟨by kernel_rfl, ?hQ5_9⟩) hS ?rQ5_9
          case hQ5_9 =>
            intro w1 hSw
            clear hSw
            go_simp
            try with_reducible rfl
          (try go_frame)
          refine wpAnyH_take (i := 9) (v := ?vQ5_10) rfl (by kernel_rfl) (by kernel_rfl) (by kernel_rfl) (fun _ _ _ h => h) (Or.inl ⟨by kernel_rfl, ?hQ5_10⟩) hS ?rQ5_10
          case hQ5_10 =>
            intro w1 hSw
            clear hSw
            go_simp
            try with_reducible rfl
          (try go_frame)
          refine wpAnyH_take (i := 10) (v := undef) rfl (by kernel_rfl) (by kernel_rfl) (by kernel_rfl) (fun _ _ _ h => h) (Or.inr ⟨by kernel_rfl, rfl⟩) hS ?rQ5_11
          (try go_frame)
          refine wpAnyH_take (i := 11) (v := undef) rfl (by kernel_rfl) (by kernel_rfl) (by kernel_rfl) (fun _ _ _ h => h) (Or.inr ⟨by kernel_rfl, rfl⟩) hS ?rQ5_12
          (try go_frame)
          refine wpAnyH_take (i := 12) (v := undef) rfl (by kernel_rfl) (by kernel_rfl) (by kernel_rfl) (fun _ _ _ h => h) (Or.inr ⟨by kernel_rfl, rfl⟩) hS ?rQ5_13
          (try go_frame)
          refine wpAnyH_take (i := 13) (v := undef) rfl (by kernel_rfl) (by kernel_rfl) (by kernel_rfl) (fun _ _ _ h => h) (Or.inr ⟨by kernel_rfl, rfl⟩) hS ?rQ5_14
          (try go_frame)
          refine wpAnyH_take (i := 14) (v := undef) rfl (by kernel_rfl) (by kernel_rfl) (by kernel_rfl) (fun _ _ _ h => h) (Or.inr ⟨by kernel_rfl, rfl⟩) hS ?rQ5_15
          (try go_frame)
          refine wpAnyH_take (i := 15) (v := undef) rfl (by kernel_rfl) (by kernel_rfl) (by kernel_rfl) (fun _ _ _ h => h) (Or.inr ⟨by kernel_rfl, rfl⟩) hS ?rQ5_16
          (try go_frame)
          refine wpAnyH_take (i := 16) (v := undef) rfl (by kernel_rfl) (by kernel_rfl) (by kernel_rfl) (fun _ _ _ h => h) (Or.inr ⟨by kernel_rfl, rfl⟩) hS ?rQ5_17
          (try go_frame)
          refine wpAnyH_take (i := 17) (v := undef) rfl (by kernel_rfl) (by kernel_rfl) (by kernel_rfl) (fun _ _ _ h => h) (Or.inr ⟨by kernel_rfl, rfl⟩) hS ?rQ5_18
          (try go_frame)
          refine wpAnyH_take (i := 18) (v := undef) rfl (by kernel_rfl) (by kernel_rfl) (by kernel_rfl) (fun _ _ _ h => h) (Or.inr ⟨by kernel_rfl, rfl⟩) hS ?rQ5_19
          (try go_frame)
          refine wpAnyH_take (i := 19) (v := undef) rfl (by kernel_rfl) (by kernel_rfl) (by kernel_rfl) (fun _ _ _ h => h) (Or.inr ⟨by kernel_rfl, rfl⟩) hS ?rQ5_20
          (try go_frame)
          refine wpAnyH_take (i := 20) (v := undef) rfl (by kernel_rfl) (by kernel_rfl) (by kernel_rfl) (fun _ _ _ h => h) (Or.inr ⟨by kernel_rfl, rfl⟩) hS ?rQ5_21
          (try go_frame)
          refine wpAnyH_take (i := 21) (v := undef) rfl (by kernel_rfl) (by kernel_rfl) (by kernel_rfl) (fun _ _ _ h => h) (Or.inr ⟨by kernel_rfl, rfl⟩) hS ?rQ5_22
          (try go_frame)
          refine wpAnyH_take (i := 22) (v := undef) rfl (by kernel_rfl) (by kernel_rfl) (by kernel_rfl) (fun _ _ _ h => h) (Or.inr ⟨by kernel_rfl, rfl⟩) hS ?rQ5_23
          (try go_frame)
          refine wpAnyH_take (i := 23) (v := undef) rfl (by kernel_rfl) (by kernel_rfl) (by kernel_rfl) (fun _ _ _ h => h) (Or.inr ⟨by kernel_rfl, rfl⟩) hS ?rQ5_24
          (try go_frame)
          refine wpAnyH_take (i := 24) (v := undef) rfl (by kernel_rfl) (by kernel_rfl) (by kernel_rfl) (fun _ _ _ h => h) (Or.inr ⟨by kernel_rfl, rfl⟩) hS ?rQ5_25
          (try go_frame)
          refine wpAnyH_take (i := 25) (v := ?vQ5_26) rfl (by kernel_rfl) (by kernel_rfl) (by kernel_rfl) (fun _ _ _ h => h) (Or.inl ⟨by kernel_rfl, ?hQ5_26⟩) hS ?rQ5_26
          case hQ5_26 =>
            intro w1 hSw
            clear hSw
            go_simp
            try with_reducible rfl
          (try go_frame)
          refine wpAnyH_take (i := 26) (v := ?vQ5_27) rfl (by kernel_rfl) (by kernel_rfl) (by kernel_rfl) (fun _ _ _ h => h) (Or.inl ⟨by kernel_rfl, ?hQ5_27⟩) hS ?rQ5_27
          case hQ5_27 =>
            intro w1 hSw
            clear hSw
            go_simp
            try with_reducible rfl
          (try go_frame)
          refine wpAnyH_take (i := 27) (v := undef) rfl (by kernel_rfl) (by kernel_rfl) (by kernel_rfl) (fun _ _ _ h => h) (Or.inr ⟨by kernel_rfl, rfl⟩) hS ?rQ5_28
          (try go_frame)
          refine wpAnyH_take (i := 28) (v := undef) rfl (by kernel_rfl) (by kernel_rfl) (by kernel_rfl) (fun _ _ _ h => h) (Or.inr ⟨by kernel_rfl, rfl⟩) hS ?rQ5_29
          (try go_frame)
          refine wpAnyH_take (i := 29) (v := undef) rfl (by kernel_rfl) (by kernel_rfl) (by kernel_rfl) (fun _ _ _ h => h) (Or.inr ⟨by kernel_rfl, rfl⟩) hS ?rQ5_30
          (try go_frame)
          refine wpAnyH_take (i := 30) (v := undef) rfl (by kernel_rfl) (by kernel_rfl) (by kernel_rfl) (fun _ _ _ h => h) (Or.inr ⟨by kernel_rfl, rfl⟩) hS ?rQ5_31
          (try go_frame)
          refine wpAnyH_ready (rs := [31]) (by kernel_rfl) (by simp) (AllReadyH.cons rfl (fun K hK => ?_) AllReadyH.nil)
          go_simp
          refine hK.out _ _ (hS) (fun hS => ?_)
          clear hK K
          refine wpAnyH_done (by kernel_rfl) ?_ _
          go_wp2_with fail
          go_meet
          case rel => exact ⟨true, rfl, Lib.hid (HBR.out.trans ((Below.refl _ wr).drew.mono hsr)), (fun _ => HF.out), fun h => absurd h (by decide)⟩
        have h3I : decide ((x.length : Int) < 3) = false := decide_eq_false (by omega)
        have p1I : (1 : Int) < (x.length : Int) := by omega
        have p1 : 1 < x.length := by omega
        have HRA := Lib.hid (accRow_at (t := (⟨need, win, keep, now, []⟩ : Ts)) (last := lastAt L i) h3)
        have ca := (HBR.out.cell (p := ⟨bi, oi + 0, none⟩) hbi).trans (HCI.out 0 hx0)
        have ck := (HBR.out.cell (p := ⟨bi, oi + 1, none⟩) hbi).trans (HCI.out 1 p1)
        rw [Nat.add_zero] at ca
        have ha0 := HNX.out (nth x 0) (nthL_mem hx0)
        have H3 := Lib.hid h3
        obtain ⟨a, ha⟩ : ∃ a, a = nth x 0 := ⟨_, rfl⟩
        obtain ⟨k, hk⟩ : ∃ k, k = nth x 1 := ⟨_, rfl⟩
        rw [← ha, ← hk] at HRA
        rw [← ha] at ca ha0
        rw [← hk] at ck
        have HAK := Lib.hid (And.intro ha hk)
        clear ha hk
        cases q1 : decide (16777215 < a) with
        | true =>
          have HF := Lib.hid (HBAD.out (by rw [HRA.out, decide_eq_false]; rintro ⟨h, -⟩; have := of_decide_eq_true q1; omega))
          go_wp2_with fail
          refine wp_region_held_drew (S := fun w' => w'.cell? ⟨bi, oi, none⟩ = some (.int .i64 a) ∧ w'.cell? ⟨bi, oi + 1, none⟩ = some (.int .i64 k)) (by kernel_rfl) (⟨ca, ck⟩) (fun hS => ?_)
          refine wpAnyH_take (i := 0) (v := ?vQ6_1) rfl (by kernel_rfl) (by kernel_rfl) (by kernel_rfl) (fun _ _ _ h => h) (Or.inl ⟨by rfl, ?hQ6_1⟩) hS ?rQ6_1
          case hQ6_1 =>
            intro w1 hSw
            clear hSw
            go_simp
            try with_reducible rfl
          (try go_frame)
          refine wpAnyH_take (i := 1) (v := ?vQ6_2) rfl (by kernel_rfl) (by kernel_rfl) (by kernel_rfl) (fun _ _ _ h => h) (Or.inl ⟨by rfl, ?hQ6_2⟩) hS ?rQ6_2
          case hQ6_2 =>
            intro w1 hSw
            clear hSw
            go_simp
            try with_reducible rfl
          (try go_frame)
          refine wpAnyH_take (i := 2) (v := ?vQ6_3) rfl (by kernel_rfl) (by kernel_rfl) (by kernel_rfl) (fun _ _ _ h => h) (Or.inl ⟨by rfl, ?hQ6_3⟩) hS ?rQ6_3
          case hQ6_3 =>
            intro w1 hSw
            clear hSw
            go_simp
            try with_reducible rfl
          (try go_frame)
          refine wpAnyH_take (i := 3) (v := ?vQ6_4) rfl (by kernel_rfl) (by kernel_rfl) (by kernel_rfl) (fun _ _ _ h => h) (Or.inl ⟨by rfl, ?hQ6_4⟩) hS ?rQ6_4
          case hQ6_4 =>
            intro w1 hSw
            clear hSw
            go_simp
            try with_reducible rfl
          (try go_frame)
          refine wpAnyH_take (i := 4) (v := ?vQ6_5) rfl (by kernel_rfl) (by kernel_rfl) (by kernel_rfl) (fun _ _ _ h => h) (Or.inl ⟨by kernel_rfl, ?hQ6_5⟩) hS ?rQ6_5
          case hQ6_5 =>
            intro w1 hSw
            have y0 : w1.cell? ⟨bi, oi, none⟩ = some (.int .i64 a) := hSw.1
            have y1 : w1.cell? ⟨bi, oi + 1, none⟩ = some (.int .i64 k) := hSw.2
            clear hSw
            go_simp
            try with_reducible rfl
          (try go_frame)
          refine wpAnyH_take (i := 5) (v := ?vQ6_6) rfl (by kernel_rfl) (by kernel_rfl) (by kernel_rfl) (fun _ _ _ h => h) (Or.inl ⟨by kernel_rfl, ?hQ6_6⟩) hS ?rQ6_6
          case hQ6_6 =>
            intro w1 hSw
            have y0 : w1.cell? ⟨bi, oi, none⟩ = some (.int .i64 a) := hSw.1
            have y1 : w1.cell? ⟨bi, oi + 1, none⟩ = some (.int .i64 k) := hSw.2
            clear hSw
            go_simp
            try with_reducible rfl
          (try go_frame)
          refine wpAnyH_take (i := 6) (v := ?vQ6_7) rfl (by kernel_rfl) (by kernel_rfl) (by kernel_rfl) (fun _ _ _ h => h) (Or.inl ⟨by kernel_rfl, ?hQ6_7⟩) hS ?rQ6_7
          case hQ6_7 =>
            intro w1 hSw
            have y0 : w1.cell? ⟨bi, oi, none⟩ = some (.int .i64 a) := hSw.1
            have y1 : w1.cell? ⟨bi, oi + 1, none⟩ = some (.int .i64 k) := hSw.2
            clear hSw
            go_simp
            try with_reducible rfl
          (try go_frame)
          refine wpAnyH_take (i := 7) (v := ?vQ6_8) rfl (by kernel_rfl) (by kernel_rfl) (by kernel_rfl) (fun _ _ _ h => h) (Or.inl ⟨by kernel_rfl, ?hQ6_8⟩) hS ?rQ6_8
          case hQ6_8 =>
            intro w1 hSw
            have y0 : w1.cell? ⟨bi, oi, none⟩ = some (.int .i64 a) := hSw.1
            have y1 : w1.cell? ⟨bi, oi + 1, none⟩ = some (.int .i64 k) := hSw.2
            clear hSw
            go_simp
            try with_reducible rfl
          (try go_frame)
          refine wpAnyH_take (i := 8) (v := ?vQ6_9) rfl (by kernel_rfl) (by kernel_rfl) (by kernel_rfl) (fun _ _ _ h => h) (Or.inl ⟨by kernel_rfl, ?hQ6_9⟩) hS ?rQ6_9
          case hQ6_9 =>
            intro w1 hSw
            clear hSw
            go_simp
            try with_reducible rfl
          (try go_frame)
          refine wpAnyH_take (i := 9) (v := ?vQ6_10) rfl (by kernel_rfl) (by kernel_rfl) (by kernel_rfl) (fun _ _ _ h => h) (Or.inl ⟨by kernel_rfl, ?hQ6_10⟩) hS ?rQ6_10
          case hQ6_10 =>
            intro w1 hSw
            clear hSw
            go_simp
            try with_reducible rfl
          (try go_frame)
          refine wpAnyH_take (i := 10) (v := undef) rfl (by kernel_rfl) (by kernel_rfl) (by kernel_rfl) (fun _ _ _ h => h) (Or.inr ⟨by kernel_rfl, rfl⟩) hS ?rQ6_11
          (try go_frame)
          refine wpAnyH_take (i := 11) (v := undef) rfl (by kernel_rfl) (by kernel_rfl) (by kernel_rfl) (fun _ _ _ h => h) (Or.inr ⟨by kernel_rfl, rfl⟩) hS ?rQ6_12
          (try go_frame)
          refine wpAnyH_take (i := 12) (v := undef) rfl (by kernel_rfl) (by kernel_rfl) (by kernel_rfl) (fun _ _ _ h => h) (Or.inr ⟨by kernel_rfl, rfl⟩) hS ?rQ6_13
          (try go_frame)
          refine wpAnyH_take (i := 13) (v := undef) rfl (by kernel_rfl) (by kernel_rfl) (by kernel_rfl) (fun _ _ _ h => h) (Or.inr ⟨by kernel_rfl, rfl⟩) hS ?rQ6_14
          (try go_frame)
          refine wpAnyH_take (i := 14) (v := undef) rfl (by kernel_rfl) (by kernel_rfl) (by kernel_rfl) (fun _ _ _ h => h) (Or.inr ⟨by kernel_rfl, rfl⟩) hS ?rQ6_15
          (try go_frame)
          refine wpAnyH_take (i := 15) (v := undef) rfl (by kernel_rfl) (by kernel_rfl) (by kernel_rfl) (fun _ _ _ h => h) (Or.inr ⟨by kernel_rfl, rfl⟩) hS ?rQ6_16
          (try go_frame)
          refine wpAnyH_take (i := 16) (v := undef) rfl (by kernel_rfl) (by kernel_rfl) (by kernel_rfl) (fun _ _ _ h => h) (Or.inr ⟨by kernel_rfl, rfl⟩) hS ?rQ6_17
          (try go_frame)
          refine wpAnyH_take (i := 17) (v := undef) rfl (by kernel_rfl) (by kernel_rfl) (by kernel_rfl) (fun _ _ _ h => h) (Or.inr ⟨by kernel_rfl, rfl⟩) hS ?rQ6_18
          (try go_frame)
          refine wpAnyH_take (i := 18) (v := undef) rfl (by kernel_rfl) (by kernel_rfl) (by kernel_rfl) (fun _ _ _ h => h) (Or.inr ⟨by kernel_rfl, rfl⟩) hS ?rQ6_19
          (try go_frame)
          refine wpAnyH_take (i := 19) (v := undef) rfl (by kernel_rfl) (by kernel_rfl) (by kernel_rfl) (fun _ _ _ h => h) (Or.inr ⟨by kernel_rfl, rfl⟩) hS ?rQ6_20
          (try go_frame)
          refine wpAnyH_take (i := 20) (v := undef) rfl (by kernel_rfl) (by kernel_rfl) (by kernel_rfl) (fun _ _ _ h => h) (Or.inr ⟨by kernel_rfl, rfl⟩) hS ?rQ6_21
          (try go_frame)
          refine wpAnyH_take (i := 21) (v := undef) rfl (by kernel_rfl) (by kernel_rfl) (by kernel_rfl) (fun _ _ _ h => h) (Or.inr ⟨by kernel_rfl, rfl⟩) hS ?rQ6_22
          (try go_frame)
          refine wpAnyH_take (i := 22) (v := undef) rfl (by kernel_rfl) (by kernel_rfl) (by kernel_rfl) (fun _ _ _ h => h) (Or.inr ⟨by kernel_rfl, rfl⟩) hS ?rQ6_23
          (try go_frame)
          refine wpAnyH_take (i := 23) (v := undef) rfl (by kernel_rfl) (by kernel_rfl) (by kernel_rfl) (fun _ _ _ h => h) (Or.inr ⟨by kernel_rfl, rfl⟩) hS ?rQ6_24
          (try go_frame)
          refine wpAnyH_take (i := 24) (v := undef) rfl (by kernel_rfl) (by kernel_rfl) (by kernel_rfl) (fun _ _ _ h => h) (Or.inr ⟨by kernel_rfl, rfl⟩) hS ?rQ6_25
          (try go_frame)
          refine wpAnyH_take (i := 25) (v := ?vQ6_26) rfl (by kernel_rfl) (by kernel_rfl) (by kernel_rfl) (fun _ _ _ h => h) (Or.inl ⟨by kernel_rfl, ?hQ6_26⟩) hS ?rQ6_26
          case hQ6_26 =>
            intro w1 hSw
            clear hSw
            go_simp
            try with_reducible rfl
          (try go_frame)
          refine wpAnyH_take (i := 26) (v := ?vQ6_27) rfl (by kernel_rfl) (by kernel_rfl) (by kernel_rfl) (fun _ _ _ h => h) (Or.inl ⟨by kernel_rfl, ?hQ6_27⟩) hS ?rQ6_27
          case hQ6_27 =>
            intro w1 hSw
            clear hSw
            go_simp
            try with_reducible rfl
          (try go_frame)
          refine wpAnyH_take (i := 27) (v := undef) rfl (by kernel_rfl) (by kernel_rfl) (by kernel_rfl) (fun _ _ _ h => h) (Or.inr ⟨by kernel_rfl, rfl⟩) hS ?rQ6_28
          (try go_frame)
          refine wpAnyH_take (i := 28) (v := undef) rfl (by kernel_rfl) (by kernel_rfl) (by kernel_rfl) (fun _ _ _ h => h) (Or.inr ⟨by kernel_rfl, rfl⟩) hS ?rQ6_29
          (try go_frame)
          refine wpAnyH_take (i := 29) (v := undef) rfl (by kernel_rfl) (by kernel_rfl) (by kernel_rfl) (fun _ _ _ h => h) (Or.inr ⟨by kernel_rfl, rfl⟩) hS ?rQ6_30
          (try go_frame)
          refine wpAnyH_take (i := 30) (v := undef) rfl (by kernel_rfl) (by kernel_rfl) (by kernel_rfl) (fun _ _ _ h => h) (Or.inr ⟨by kernel_rfl, rfl⟩) hS ?rQ6_31
          (try go_frame)
          refine wpAnyH_ready (rs := [31]) (by kernel_rfl) (by simp) (AllReadyH.cons rfl (fun K hK => ?_) AllReadyH.nil)
          go_simp
          refine hK.out _ _ (hS) (fun hS => ?_)
          clear hK K
          refine wpAnyH_done (by kernel_rfl) ?_ _
          go_wp2_with fail
          go_meet
          case rel => exact ⟨true, rfl, Lib.hid (HBR.out.trans ((Below.refl _ wr).drew.mono hsr)), (fun _ => HF.out), fun h => absurd h (by decide)⟩
        | false =>
          have hle : a ≤ 16777215 := by have := of_decide_eq_false q1; omega
          by_cases h1 : 1 < i
          · have h1I : (1 : Int) < (i : Int) := by omega
            obtain ⟨bp, op, np, Cp, cp, hnp, hbp, cpa⟩ := HPV.out h1
            have cp := (HBR.out.cell (p := ⟨b, off + (i - 1), none⟩) hb).trans cp
            have cpa := (HBR.out.cell (p := ⟨bp, op, none⟩) hbp).trans cpa
            have hla : lastAt L i = nth (row L (i - 1)) 0 := by unfold lastAt; rw [if_neg (by omega)]
            obtain ⟨pa, hpa⟩ : ∃ pa, pa = nth (row L (i - 1)) 0 := ⟨_, rfl⟩
            rw [← hpa] at cpa hla
            have HLA := Lib.hid hla
            have t5 : ((i : Int) - 1).toNat = i - 1 := by omega
            have t6 : (0 : Int) ≤ (i : Int) - 1 := by omega
            have t7 : (i : Int) - 1 < (L.length : Int) := by omega
            have t8 : (1 : Int) ≤ (i : Int) := by omega
            have t9 : IntKind.i64.wrap ((i : Int) - 1) = (i : Int) - 1 := IntWalk.i64_in _ (by omega)
            have hnpI : (0 : Int) < (np : Int) := by omega
            clear hpa hla
            cases q2 : decide (a ≤ pa) with
            | true =>
              have HF := Lib.hid (HBAD.out (by rw [HRA.out, decide_eq_false]; rintro ⟨-, h, -⟩; rw [HLA.out] at h; have := of_decide_eq_true q2; omega))
              go_wp2_with fail
              refine wp_region_held_drew (S := fun w' => w'.cell? ⟨bi, oi, none⟩ = some (.int .i64 a) ∧ w'.cell? ⟨bi, oi + 1, none⟩ = some (.int .i64 k) ∧ w'.cell? ⟨b, off + (i - 1), none⟩ = some (.slice (some ⟨bp, op, none⟩) np Cp) ∧ w'.cell? ⟨bp, op, none⟩ = some (.int .i64 pa)) (by kernel_rfl) (⟨ca, ck, cp, cpa⟩) (fun hS => ?_)
              refine wpAnyH_take (i := 0) (v := ?vQ7_1) rfl (by kernel_rfl) (by kernel_rfl) (by kernel_rfl) (fun _ _ _ h => h) (Or.inl ⟨by rfl, ?hQ7_1⟩) hS ?rQ7_1
              case hQ7_1 =>
                intro w1 hSw
                clear hSw
                go_simp
                try with_reducible rfl
              (try go_frame)
              refine wpAnyH_take (i := 1) (v := ?vQ7_2) rfl (by kernel_rfl) (by kernel_rfl) (by kernel_rfl) (fun _ _ _ h => h) (Or.inl ⟨by rfl, ?hQ7_2⟩) hS ?rQ7_2
              case hQ7_2 =>
                intro w1 hSw
                clear hSw
                go_simp
                try with_reducible rfl
              (try go_frame)
              refine wpAnyH_take (i := 2) (v := ?vQ7_3) rfl (by kernel_rfl) (by kernel_rfl) (by kernel_rfl) (fun _ _ _ h => h) (Or.inl ⟨by rfl, ?hQ7_3⟩) hS ?rQ7_3
              case hQ7_3 =>
                intro w1 hSw
                clear hSw
                go_simp
                try with_reducible rfl
              (try go_frame)
              refine wpAnyH_take (i := 3) (v := ?vQ7_4) rfl (by kernel_rfl) (by kernel_rfl) (by kernel_rfl) (fun _ _ _ h => h) (Or.inl ⟨by rfl, ?hQ7_4⟩) hS ?rQ7_4
              case hQ7_4 =>
                intro w1 hSw
                clear hSw
                go_simp
                try with_reducible rfl
              (try go_frame)
              refine wpAnyH_take (i := 4) (v := ?vQ7_5) rfl (by kernel_rfl) (by kernel_rfl) (by kernel_rfl) (fun _ _ _ h => h) (Or.inl ⟨by kernel_rfl, ?hQ7_5⟩) hS ?rQ7_5
              case hQ7_5 =>
                intro w1 hSw
                have y0 : w1.cell? ⟨bi, oi, none⟩ = some (.int .i64 a) := hSw.1
                have y1 : w1.cell? ⟨bi, oi + 1, none⟩ = some (.int .i64 k) := hSw.2.1
                have y2 : w1.cell? ⟨b, off + (i - 1), none⟩ = some (.slice (some ⟨bp, op, none⟩) np Cp) := hSw.2.2.1
                have y3 : w1.cell? ⟨bp, op, none⟩ = some (.int .i64 pa) := hSw.2.2.2
                clear hSw
                go_simp
                try with_reducible rfl
              (try go_frame)
              refine wpAnyH_take (i := 5) (v := ?vQ7_6) rfl (by kernel_rfl) (by kernel_rfl) (by kernel_rfl) (fun _ _ _ h => h) (Or.inl ⟨by kernel_rfl, ?hQ7_6⟩) hS ?rQ7_6
              case hQ7_6 =>
                intro w1 hSw
                have y0 : w1.cell? ⟨bi, oi, none⟩ = some (.int .i64 a) := hSw.1
                have y1 : w1.cell? ⟨bi, oi + 1, none⟩ = some (.int .i64 k) := hSw.2.1
                have y2 : w1.cell? ⟨b, off + (i - 1), none⟩ = some (.slice (some ⟨bp, op, none⟩) np Cp) := hSw.2.2.1
                have y3 : w1.cell? ⟨bp, op, none⟩ = some (.int .i64 pa) := hSw.2.2.2
                clear hSw
                go_simp
                try with_reducible rfl
              (try go_frame)
              refine wpAnyH_take (i := 6) (v := ?vQ7_7) rfl (by kernel_rfl) (by kernel_rfl) (by kernel_rfl) (fun _ _ _ h => h) (Or.inl ⟨by kernel_rfl, ?hQ7_7⟩) hS ?rQ7_7
              case hQ7_7 =>
                intro w1 hSw
                have y0 : w1.cell? ⟨bi, oi, none⟩ = some (.int .i64 a) := hSw.1
                have y1 : w1.cell? ⟨bi, oi + 1, none⟩ = some (.int .i64 k) := hSw.2.1
                have y2 : w1.cell? ⟨b, off + (i - 1), none⟩ = some (.slice (some ⟨bp, op, none⟩) np Cp) := hSw.2.2.1
                have y3 : w1.cell? ⟨bp, op, none⟩ = some (.int .i64 pa) := hSw.2.2.2
                clear hSw
                go_simp
                try with_reducible rfl
              (try go_frame)
              refine wpAnyH_take (i := 7) (v := ?vQ7_8) rfl (by kernel_rfl) (by kernel_rfl) (by kernel_rfl) (fun _ _ _ h => h) (Or.inl ⟨by kernel_rfl, ?hQ7_8⟩) hS ?rQ7_8
              case hQ7_8 =>
                intro w1 hSw
                have y0 : w1.cell? ⟨bi, oi, none⟩ = some (.int .i64 a) := hSw.1
                have y1 : w1.cell? ⟨bi, oi + 1, none⟩ = some (.int .i64 k) := hSw.2.1
                have y2 : w1.cell? ⟨b, off + (i - 1), none⟩ = some (.slice (some ⟨bp, op, none⟩) np Cp) := hSw.2.2.1
                have y3 : w1.cell? ⟨bp, op, none⟩ = some (.int .i64 pa) := hSw.2.2.2
                clear hSw
                go_simp
                try with_reducible rfl
              (try go_frame)
              refine wpAnyH_take (i := 8) (v := ?vQ7_9) rfl (by kernel_rfl) (by kernel_rfl) (by kernel_rfl) (fun _ _ _ h => h) (Or.inl ⟨by kernel_rfl, ?hQ7_9⟩) hS ?rQ7_9
              case hQ7_9 =>
                intro w1 hSw
                clear hSw
                go_simp
                try with_reducible rfl
              (try go_frame)
              refine wpAnyH_take (i := 9) (v := ?vQ7_10) rfl (by kernel_rfl) (by kernel_rfl) (by kernel_rfl) (fun _ _ _ h => h) (Or.inl ⟨by kernel_rfl, ?hQ7_10⟩) hS ?rQ7_10
              case hQ7_10 =>
                intro w1 hSw
                clear hSw
                go_simp
                try with_reducible rfl
              (try go_frame)
              refine wpAnyH_take (i := 10) (v := ?vQ7_11) rfl (by kernel_rfl) (by kernel_rfl) (by kernel_rfl) (fun _ _ _ h => h) (Or.inl ⟨by kernel_rfl, ?hQ7_11⟩) hS ?rQ7_11
              case hQ7_11 =>
                intro w1 hSw
                clear hSw
                go_simp
                try with_reducible rfl
              (try go_frame)
              refine wpAnyH_take (i := 11) (v := ?vQ7_12) rfl (by kernel_rfl) (by kernel_rfl) (by kernel_rfl) (fun _ _ _ h => h) (Or.inl ⟨by kernel_rfl, ?hQ7_12⟩) hS ?rQ7_12
              case hQ7_12 =>
                intro w1 hSw
                clear hSw
                go_simp
                try with_reducible rfl
              (try go_frame)
              refine wpAnyH_take (i := 12) (v := ?vQ7_13) rfl (by kernel_rfl) (by kernel_rfl) (by kernel_rfl) (fun _ _ _ h => h) (Or.inl ⟨by kernel_rfl, ?hQ7_13⟩) hS ?rQ7_13
              case hQ7_13 =>
                intro w1 hSw
                clear hSw
                go_simp
                try with_reducible rfl
              (try go_frame)
              refine wpAnyH_take (i := 13) (v := ?vQ7_14) rfl (by kernel_rfl) (by kernel_rfl) (by kernel_rfl) (fun _ _ _ h => h) (Or.inl ⟨by kernel_rfl, ?hQ7_14⟩) hS ?rQ7_14
              case hQ7_14 =>
                intro w1 hSw
                have y0 : w1.cell? ⟨bi, oi, none⟩ = some (.int .i64 a) := hSw.1
                have y1 : w1.cell? ⟨bi, oi + 1, none⟩ = some (.int .i64 k) := hSw.2.1
                have y2 : w1.cell? ⟨b, off + (i - 1), none⟩ = some (.slice (some ⟨bp, op, none⟩) np Cp) := hSw.2.2.1
                have y3 : w1.cell? ⟨bp, op, none⟩ = some (.int .i64 pa) := hSw.2.2.2
                clear hSw
                go_simp
                try with_reducible rfl
              (try go_frame)
              refine wpAnyH_take (i := 14) (v := ?vQ7_15) rfl (by kernel_rfl) (by kernel_rfl) (by kernel_rfl) (fun _ _ _ h => h) (Or.inl ⟨by kernel_rfl, ?hQ7_15⟩) hS ?rQ7_15
              case hQ7_15 =>
                intro w1 hSw
                have y0 : w1.cell? ⟨bi, oi, none⟩ = some (.int .i64 a) := hSw.1
                have y1 : w1.cell? ⟨bi, oi + 1, none⟩ = some (.int .i64 k) := hSw.2.1
                have y2 : w1.cell? ⟨b, off + (i - 1), none⟩ = some (.slice (some ⟨bp, op, none⟩) np Cp) := hSw.2.2.1
                have y3 : w1.cell? ⟨bp, op, none⟩ = some (.int .i64 pa) := hSw.2.2.2
                clear hSw
                go_simp
                try with_reducible rfl
              (try go_frame)
              refine wpAnyH_take (i := 15) (v := ?vQ7_16) rfl (by kernel_rfl) (by kernel_rfl) (by kernel_rfl) (fun _ _ _ h => h) (Or.inl ⟨by kernel_rfl, ?hQ7_16⟩) hS ?rQ7_16
              case hQ7_16 =>
                intro w1 hSw
                have y0 : w1.cell? ⟨bi, oi, none⟩ = some (.int .i64 a) := hSw.1
                have y1 : w1.cell? ⟨bi, oi + 1, none⟩ = some (.int .i64 k) := hSw.2.1
                have y2 : w1.cell? ⟨b, off + (i - 1), none⟩ = some (.slice (some ⟨bp, op, none⟩) np Cp) := hSw.2.2.1
                have y3 : w1.cell? ⟨bp, op, none⟩ = some (.int .i64 pa) := hSw.2.2.2
                clear hSw
                go_simp
                try with_reducible rfl
              (try go_frame)
              refine wpAnyH_take (i := 16) (v := ?vQ7_17) rfl (by kernel_rfl) (by kernel_rfl) (by kernel_rfl) (fun _ _ _ h => h) (Or.inl ⟨by kernel_rfl, ?hQ7_17⟩) hS ?rQ7_17
              case hQ7_17 =>
                intro w1 hSw
                have y0 : w1.cell? ⟨bi, oi, none⟩ = some (.int .i64 a) := hSw.1
                have y1 : w1.cell? ⟨bi, oi + 1, none⟩ = some (.int .i64 k) := hSw.2.1
                have y2 : w1.cell? ⟨b, off + (i - 1), none⟩ = some (.slice (some ⟨bp, op, none⟩) np Cp) := hSw.2.2.1
                have y3 : w1.cell? ⟨bp, op, none⟩ = some (.int .i64 pa) := hSw.2.2.2
                clear hSw
                go_simp
                try with_reducible rfl
              (try go_frame)
              refine wpAnyH_take (i := 17) (v := ?vQ7_18) rfl (by kernel_rfl) (by kernel_rfl) (by kernel_rfl) (fun _ _ _ h => h) (Or.inl ⟨by kernel_rfl, ?hQ7_18⟩) hS ?rQ7_18
              case hQ7_18 =>
                intro w1 hSw
                have y0 : w1.cell? ⟨bi, oi, none⟩ = some (.int .i64 a) := hSw.1
                have y1 : w1.cell? ⟨bi, oi + 1, none⟩ = some (.int .i64 k) := hSw.2.1
                have y2 : w1.cell? ⟨b, off + (i - 1), none⟩ = some (.slice (some ⟨bp, op, none⟩) np Cp) := hSw.2.2.1
                have y3 : w1.cell? ⟨bp, op, none⟩ = some (.int .i64 pa) := hSw.2.2.2
                clear hSw
                go_simp
                try with_reducible rfl
              (try go_frame)
              refine wpAnyH_take (i := 18) (v := ?vQ7_19) rfl (by kernel_rfl) (by kernel_rfl) (by kernel_rfl) (fun _ _ _ h => h) (Or.inl ⟨by kernel_rfl, ?hQ7_19⟩) hS ?rQ7_19
              case hQ7_19 =>
                intro w1 hSw
                have y0 : w1.cell? ⟨bi, oi, none⟩ = some (.int .i64 a) := hSw.1
                have y1 : w1.cell? ⟨bi, oi + 1, none⟩ = some (.int .i64 k) := hSw.2.1
                have y2 : w1.cell? ⟨b, off + (i - 1), none⟩ = some (.slice (some ⟨bp, op, none⟩) np Cp) := hSw.2.2.1
                have y3 : w1.cell? ⟨bp, op, none⟩ = some (.int .i64 pa) := hSw.2.2.2
                clear hSw
                go_simp
                try with_reducible rfl
              (try go_frame)
              refine wpAnyH_take (i := 19) (v := ?vQ7_20) rfl (by kernel_rfl) (by kernel_rfl) (by kernel_rfl) (fun _ _ _ h => h) (Or.inl ⟨by kernel_rfl, ?hQ7_20⟩) hS ?rQ7_20
              case hQ7_20 =>
                intro w1 hSw
                have y0 : w1.cell? ⟨bi, oi, none⟩ = some (.int .i64 a) := hSw.1
                have y1 : w1.cell? ⟨bi, oi + 1, none⟩ = some (.int .i64 k) := hSw.2.1
                have y2 : w1.cell? ⟨b, off + (i - 1), none⟩ = some (.slice (some ⟨bp, op, none⟩) np Cp) := hSw.2.2.1
                have y3 : w1.cell? ⟨bp, op, none⟩ = some (.int .i64 pa) := hSw.2.2.2
                clear hSw
                go_simp
                try with_reducible rfl
              (try go_frame)
              refine wpAnyH_take (i := 20) (v := ?vQ7_21) rfl (by kernel_rfl) (by kernel_rfl) (by kernel_rfl) (fun _ _ _ h => h) (Or.inl ⟨by kernel_rfl, ?hQ7_21⟩) hS ?rQ7_21
              case hQ7_21 =>
                intro w1 hSw
                have y0 : w1.cell? ⟨bi, oi, none⟩ = some (.int .i64 a) := hSw.1
                have y1 : w1.cell? ⟨bi, oi + 1, none⟩ = some (.int .i64 k) := hSw.2.1
                have y2 : w1.cell? ⟨b, off + (i - 1), none⟩ = some (.slice (some ⟨bp, op, none⟩) np Cp) := hSw.2.2.1
                have y3 : w1.cell? ⟨bp, op, none⟩ = some (.int .i64 pa) := hSw.2.2.2
                clear hSw
                go_simp
                try with_reducible rfl
              (try go_frame)
              refine wpAnyH_take (i := 21) (v := ?vQ7_22) rfl (by kernel_rfl) (by kernel_rfl) (by kernel_rfl) (fun _ _ _ h => h) (Or.inl ⟨by kernel_rfl, ?hQ7_22⟩) hS ?rQ7_22
              case hQ7_22 =>
                intro w1 hSw
                have y0 : w1.cell? ⟨bi, oi, none⟩ = some (.int .i64 a) := hSw.1
                have y1 : w1.cell? ⟨bi, oi + 1, none⟩ = some (.int .i64 k) := hSw.2.1
                have y2 : w1.cell? ⟨b, off + (i - 1), none⟩ = some (.slice (some ⟨bp, op, none⟩) np Cp) := hSw.2.2.1
                have y3 : w1.cell? ⟨bp, op, none⟩ = some (.int .i64 pa) := hSw.2.2.2
                clear hSw
                go_simp
                try with_reducible rfl
              (try go_frame)
              refine wpAnyH_take (i := 22) (v := ?vQ7_23) rfl (by kernel_rfl) (by kernel_rfl) (by kernel_rfl) (fun _ _ _ h => h) (Or.inl ⟨by kernel_rfl, ?hQ7_23⟩) hS ?rQ7_23
              case hQ7_23 =>
                intro w1 hSw
                have y0 : w1.cell? ⟨bi, oi, none⟩ = some (.int .i64 a) := hSw.1
                have y1 : w1.cell? ⟨bi, oi + 1, none⟩ = some (.int .i64 k) := hSw.2.1
                have y2 : w1.cell? ⟨b, off + (i - 1), none⟩ = some (.slice (some ⟨bp, op, none⟩) np Cp) := hSw.2.2.1
                have y3 : w1.cell? ⟨bp, op, none⟩ = some (.int .i64 pa) := hSw.2.2.2
                clear hSw
                go_simp
                try with_reducible rfl
              (try go_frame)
              refine wpAnyH_take (i := 23) (v := ?vQ7_24) rfl (by kernel_rfl) (by kernel_rfl) (by kernel_rfl) (fun _ _ _ h => h) (Or.inl ⟨by kernel_rfl, ?hQ7_24⟩) hS ?rQ7_24
              case hQ7_24 =>
                intro w1 hSw
                have y0 : w1.cell? ⟨bi, oi, none⟩ = some (.int .i64 a) := hSw.1
                have y1 : w1.cell? ⟨bi, oi + 1, none⟩ = some (.int .i64 k) := hSw.2.1
                have y2 : w1.cell? ⟨b, off + (i - 1), none⟩ = some (.slice (some ⟨bp, op, none⟩) np Cp) := hSw.2.2.1
                have y3 : w1.cell? ⟨bp, op, none⟩ = some (.int .i64 pa) := hSw.2.2.2
                clear hSw
                go_simp
                try with_reducible rfl
              (try go_frame)
              refine wpAnyH_take (i := 24) (v := ?vQ7_25) rfl (by kernel_rfl) (by kernel_rfl) (by kernel_rfl) (fun _ _ _ h => h) (Or.inl ⟨by kernel_rfl, ?hQ7_25⟩) hS ?rQ7_25
              case hQ7_25 =>
                intro w1 hSw
                clear hSw
                go_simp
                try with_reducible rfl
              (try go_frame)
              refine wpAnyH_take (i := 25) (v := ?vQ7_26) rfl (by kernel_rfl) (by kernel_rfl) (by kernel_rfl) (fun _ _ _ h => h) (Or.inl ⟨by kernel_rfl, ?hQ7_26⟩) hS ?rQ7_26
              case hQ7_26 =>
                intro w1 hSw
                clear hSw
                go_simp
                try with_reducible rfl
              (try go_frame)
              refine wpAnyH_take (i := 26) (v := ?vQ7_27) rfl (by kernel_rfl) (by kernel_rfl) (by kernel_rfl) (fun _ _ _ h => h) (Or.inl ⟨by kernel_rfl, ?hQ7_27⟩) hS ?rQ7_27
              case hQ7_27 =>
                intro w1 hSw
                clear hSw
                go_simp
                try with_reducible rfl
              (try go_frame)
              refine wpAnyH_take (i := 27) (v := undef) rfl (by kernel_rfl) (by kernel_rfl) (by kernel_rfl) (fun _ _ _ h => h) (Or.inr ⟨by kernel_rfl, rfl⟩) hS ?rQ7_28
              (try go_frame)
              refine wpAnyH_take (i := 28) (v := undef) rfl (by kernel_rfl) (by kernel_rfl) (by kernel_rfl) (fun _ _ _ h => h) (Or.inr ⟨by kernel_rfl, rfl⟩) hS ?rQ7_29
              (try go_frame)
              refine wpAnyH_take (i := 29) (v := undef) rfl (by kernel_rfl) (by kernel_rfl) (by kernel_rfl) (fun _ _ _ h => h) (Or.inr ⟨by kernel_rfl, rfl⟩) hS ?rQ7_30
              (try go_frame)
              refine wpAnyH_take (i := 30) (v := undef) rfl (by kernel_rfl) (by kernel_rfl) (by kernel_rfl) (fun _ _ _ h => h) (Or.inr ⟨by kernel_rfl, rfl⟩) hS ?rQ7_31
              (try go_frame)
              refine wpAnyH_ready (rs := [31]) (by kernel_rfl) (by simp) (AllReadyH.cons rfl (fun K hK => ?_) AllReadyH.nil)
              go_simp
              refine hK.out _ _ (hS) (fun hS => ?_)
              clear hK K
              refine wpAnyH_done (by kernel_rfl) ?_ _
              go_wp2_with fail
              go_meet
              case rel => exact ⟨true, rfl, Lib.hid (HBR.out.trans ((Below.refl _ wr).drew.mono hsr)), (fun _ => HF.out), fun h => absurd h (by decide)⟩
            | false =>
              have hgt : lastAt L i < a := by rw [HLA.out]; have := of_decide_eq_false q2; omega
              have HGT := Lib.hid hgt
              clear hgt
              go_wp2_with fail
              refine wp_region_held_drew (S := fun w' => w'.cell? ⟨bi, oi, none⟩ = some (.int .i64 a) ∧ w'.cell? ⟨bi, oi + 1, none⟩ = some (.int .i64 k) ∧ w'.cell? ⟨b, off + (i - 1), none⟩ = some (.slice (some ⟨bp, op, none⟩) np Cp) ∧ w'.cell? ⟨bp, op, none⟩ = some (.int .i64 pa)) (by kernel_rfl) (⟨ca, ck, cp, cpa⟩) (fun hS => ?_)
              refine wpAnyH_take (i := 0) (v := ?vQ8_1) rfl (by kernel_rfl) (by kernel_rfl) (by kernel_rfl) (fun _ _ _ h => h) (Or.inl ⟨by rfl, ?hQ8_1⟩) hS ?rQ8_1
              case hQ8_1 =>
                intro w1 hSw
                clear hSw
                go_simp
                try with_reducible rfl
              (try go_frame)
              refine wpAnyH_take (i := 1) (v := ?vQ8_2) rfl (by kernel_rfl) (by kernel_rfl) (by kernel_rfl) (fun _ _ _ h => h) (Or.inl ⟨by rfl, ?hQ8_2⟩) hS ?rQ8_2
              case hQ8_2 =>
                intro w1 hSw
                clear hSw
                go_simp
                try with_reducible rfl
              (try go_frame)
              refine wpAnyH_take (i := 2) (v := ?vQ8_3) rfl (by kernel_rfl) (by kernel_rfl) (by kernel_rfl) (fun _ _ _ h => h) (Or.inl ⟨by rfl, ?hQ8_3⟩) hS ?rQ8_3
              case hQ8_3 =>
                intro w1 hSw
                clear hSw
                go_simp
                try with_reducible rfl
              (try go_frame)
              refine wpAnyH_take (i := 3) (v := ?vQ8_4) rfl (by kernel_rfl) (by kernel_rfl) (by kernel_rfl) (fun _ _ _ h => h) (Or.inl ⟨by rfl, ?hQ8_4⟩) hS ?rQ8_4
              case hQ8_4 =>
                intro w1 hSw
                clear hSw
                go_simp
                try with_reducible rfl
              (try go_frame)
              refine wpAnyH_take (i := 4) (v := ?vQ8_5) rfl (by kernel_rfl) (by kernel_rfl) (by kernel_rfl) (fun _ _ _ h => h) (Or.inl ⟨by kernel_rfl, ?hQ8_5⟩) hS ?rQ8_5
              case hQ8_5 =>
                intro w1 hSw
                have y0 : w1.cell? ⟨bi, oi, none⟩ = some (.int .i64 a) := hSw.1
                have y1 : w1.cell? ⟨bi, oi + 1, none⟩ = some (.int .i64 k) := hSw.2.1
                have y2 : w1.cell? ⟨b, off + (i - 1), none⟩ = some (.slice (some ⟨bp, op, none⟩) np Cp) := hSw.2.2.1
                have y3 : w1.cell? ⟨bp, op, none⟩ = some (.int .i64 pa) := hSw.2.2.2
                clear hSw
                go_simp
                try with_reducible rfl
              (try go_frame)
              refine wpAnyH_take (i := 5) (v := ?vQ8_6) rfl (by kernel_rfl) (by kernel_rfl) (by kernel_rfl) (fun _ _ _ h => h) (Or.inl ⟨by kernel_rfl, ?hQ8_6⟩) hS ?rQ8_6
              case hQ8_6 =>
                intro w1 hSw
                have y0 : w1.cell? ⟨bi, oi, none⟩ = some (.int .i64 a) := hSw.1
                have y1 : w1.cell? ⟨bi, oi + 1, none⟩ = some (.int .i64 k) := hSw.2.1
                have y2 : w1.cell? ⟨b, off + (i - 1), none⟩ = some (.slice (some ⟨bp, op, none⟩) np Cp) := hSw.2.2.1
                have y3 : w1.cell? ⟨bp, op, none⟩ = some (.int .i64 pa) := hSw.2.2.2
                clear hSw
                go_simp
                try with_reducible rfl
              (try go_frame)
              refine wpAnyH_take (i := 6) (v := ?vQ8_7) rfl (by kernel_rfl) (by kernel_rfl) (by kernel_rfl) (fun _ _ _ h => h) (Or.inl ⟨by kernel_rfl, ?hQ8_7⟩) hS ?rQ8_7
              case hQ8_7 =>
                intro w1 hSw
                have y0 : w1.cell? ⟨bi, oi, none⟩ = some (.int .i64 a) := hSw.1
                have y1 : w1.cell? ⟨bi, oi + 1, none⟩ = some (.int .i64 k) := hSw.2.1
                have y2 : w1.cell? ⟨b, off + (i - 1), none⟩ = some (.slice (some ⟨bp, op, none⟩) np Cp) := hSw.2.2.1
                have y3 : w1.cell? ⟨bp, op, none⟩ = some (.int .i64 pa) := hSw.2.2.2
                clear hSw
                go_simp
                try with_reducible rfl
              (try go_frame)
              refine wpAnyH_take (i := 7) (v := ?vQ8_8) rfl (by kernel_rfl) (by kernel_rfl) (by kernel_rfl) (fun _ _ _ h => h) (Or.inl ⟨by kernel_rfl, ?hQ8_8⟩) hS ?rQ8_8
              case hQ8_8 =>
                intro w1 hSw
                have y0 : w1.cell? ⟨bi, oi, none⟩ = some (.int .i64 a) := hSw.1
                have y1 : w1.cell? ⟨bi, oi + 1, none⟩ = some (.int .i64 k) := hSw.2.1
                have y2 : w1.cell? ⟨b, off + (i - 1), none⟩ = some (.slice (some ⟨bp, op, none⟩) np Cp) := hSw.2.2.1
                have y3 : w1.cell? ⟨bp, op, none⟩ = some (.int .i64 pa) := hSw.2.2.2
                clear hSw
                go_simp
                try with_reducible rfl
              (try go_frame)
              refine wpAnyH_take (i := 8) (v := ?vQ8_9) rfl (by kernel_rfl) (by kernel_rfl) (by kernel_rfl) (fun _ _ _ h => h) (Or.inl ⟨by kernel_rfl, ?hQ8_9⟩) hS ?rQ8_9
              case hQ8_9 =>
                intro w1 hSw
                clear hSw
                go_simp
                try with_reducible rfl
              (try go_frame)
              refine wpAnyH_take (i := 9) (v := ?vQ8_10) rfl (by kernel_rfl) (by kernel_rfl) (by kernel_rfl) (fun _ _ _ h => h) (Or.inl ⟨by kernel_rfl, ?hQ8_10⟩) hS ?rQ8_10
              case hQ8_10 =>
                intro w1 hSw
                clear hSw
                go_simp
                try with_reducible rfl
              (try go_frame)
              refine wpAnyH_take (i := 10) (v := ?vQ8_11) rfl (by kernel_rfl) (by kernel_rfl) (by kernel_rfl) (fun _ _ _ h => h) (Or.inl ⟨by kernel_rfl, ?hQ8_11⟩) hS ?rQ8_11
              case hQ8_11 =>
                intro w1 hSw
                clear hSw
                go_simp
                try with_reducible rfl
              (try go_frame)
              refine wpAnyH_take (i := 11) (v := ?vQ8_12) rfl (by kernel_rfl) (by kernel_rfl) (by kernel_rfl) (fun _ _ _ h => h) (Or.inl ⟨by kernel_rfl, ?hQ8_12⟩) hS ?rQ8_12
              case hQ8_12 =>
                intro w1 hSw
                clear hSw
                go_simp
                try with_reducible rfl
              (try go_frame)
              refine wpAnyH_take (i := 12) (v := ?vQ8_13) rfl (by kernel_rfl) (by kernel_rfl) (by kernel_rfl) (fun _ _ _ h => h) (Or.inl ⟨by kernel_rfl, ?hQ8_13⟩) hS ?rQ8_13
              case hQ8_13 =>
                intro w1 hSw
                clear hSw
                go_simp
                try with_reducible rfl
              (try go_frame)
              refine wpAnyH_take (i := 13) (v := ?vQ8_14) rfl (by kernel_rfl) (by kernel_rfl) (by kernel_rfl) (fun _ _ _ h => h) (Or.inl ⟨by kernel_rfl, ?hQ8_14⟩) hS ?rQ8_14
              case hQ8_14 =>
                intro w1 hSw
                have y0 : w1.cell? ⟨bi, oi, none⟩ = some (.int .i64 a) := hSw.1
                have y1 : w1.cell? ⟨bi, oi + 1, none⟩ = some (.int .i64 k) := hSw.2.1
                have y2 : w1.cell? ⟨b, off + (i - 1), none⟩ = some (.slice (some ⟨bp, op, none⟩) np Cp) := hSw.2.2.1
                have y3 : w1.cell? ⟨bp, op, none⟩ = some (.int .i64 pa) := hSw.2.2.2
                clear hSw
                go_simp
                try with_reducible rfl
              (try go_frame)
              refine wpAnyH_take (i := 14) (v := ?vQ8_15) rfl (by kernel_rfl) (by kernel_rfl) (by kernel_rfl) (fun _ _ _ h => h) (Or.inl ⟨by kernel_rfl, ?hQ8_15⟩) hS ?rQ8_15
              case hQ8_15 =>
                intro w1 hSw
                have y0 : w1.cell? ⟨bi, oi, none⟩ = some (.int .i64 a) := hSw.1
                have y1 : w1.cell? ⟨bi, oi + 1, none⟩ = some (.int .i64 k) := hSw.2.1
                have y2 : w1.cell? ⟨b, off + (i - 1), none⟩ = some (.slice (some ⟨bp, op, none⟩) np Cp) := hSw.2.2.1
                have y3 : w1.cell? ⟨bp, op, none⟩ = some (.int .i64 pa) := hSw.2.2.2
                clear hSw
                go_simp
                try with_reducible rfl
              (try go_frame)
              refine wpAnyH_take (i := 15) (v := ?vQ8_16) rfl (by kernel_rfl) (by kernel_rfl) (by kernel_rfl) (fun _ _ _ h => h) (Or.inl ⟨by kernel_rfl, ?hQ8_16⟩) hS ?rQ8_16
              case hQ8_16 =>
                intro w1 hSw
                have y0 : w1.cell? ⟨bi, oi, none⟩ = some (.int .i64 a) := hSw.1
                have y1 : w1.cell? ⟨bi, oi + 1, none⟩ = some (.int .i64 k) := hSw.2.1
                have y2 : w1.cell? ⟨b, off + (i - 1), none⟩ = some (.slice (some ⟨bp, op, none⟩) np Cp) := hSw.2.2.1
                have y3 : w1.cell? ⟨bp, op, none⟩ = some (.int .i64 pa) := hSw.2.2.2
                clear hSw
                go_simp
                try with_reducible rfl
              (try go_frame)
              refine wpAnyH_take (i := 16) (v := ?vQ8_17) rfl (by kernel_rfl) (by kernel_rfl) (by kernel_rfl) (fun _ _ _ h => h) (Or.inl ⟨by kernel_rfl, ?hQ8_17⟩) hS ?rQ8_17
              case hQ8_17 =>
                intro w1 hSw
                have y0 : w1.cell? ⟨bi, oi, none⟩ = some (.int .i64 a) := hSw.1
                have y1 : w1.cell? ⟨bi, oi + 1, none⟩ = some (.int .i64 k) := hSw.2.1
                have y2 : w1.cell? ⟨b, off + (i - 1), none⟩ = some (.slice (some ⟨bp, op, none⟩) np Cp) := hSw.2.2.1
                have y3 : w1.cell? ⟨bp, op, none⟩ = some (.int .i64 pa) := hSw.2.2.2
                clear hSw
                go_simp
                try with_reducible rfl
              (try go_frame)
              refine wpAnyH_take (i := 17) (v := ?vQ8_18) rfl (by kernel_rfl) (by kernel_rfl) (by kernel_rfl) (fun _ _ _ h => h) (Or.inl ⟨by kernel_rfl, ?hQ8_18⟩) hS ?rQ8_18
              case hQ8_18 =>
                intro w1 hSw
                have y0 : w1.cell? ⟨bi, oi, none⟩ = some (.int .i64 a) := hSw.1
                have y1 : w1.cell? ⟨bi, oi + 1, none⟩ = some (.int .i64 k) := hSw.2.1
                have y2 : w1.cell? ⟨b, off + (i - 1), none⟩ = some (.slice (some ⟨bp, op, none⟩) np Cp) := hSw.2.2.1
                have y3 : w1.cell? ⟨bp, op, none⟩ = some (.int .i64 pa) := hSw.2.2.2
                clear hSw
                go_simp
                try with_reducible rfl
              (try go_frame)
              refine wpAnyH_take (i := 18) (v := ?vQ8_19) rfl (by kernel_rfl) (by kernel_rfl) (by kernel_rfl) (fun _ _ _ h => h) (Or.inl ⟨by kernel_rfl, ?hQ8_19⟩) hS ?rQ8_19
              case hQ8_19 =>
                intro w1 hSw
                have y0 : w1.cell? ⟨bi, oi, none⟩ = some (.int .i64 a) := hSw.1
                have y1 : w1.cell? ⟨bi, oi + 1, none⟩ = some (.int .i64 k) := hSw.2.1
                have y2 : w1.cell? ⟨b, off + (i - 1), none⟩ = some (.slice (some ⟨bp, op, none⟩) np Cp) := hSw.2.2.1
                have y3 : w1.cell? ⟨bp, op, none⟩ = some (.int .i64 pa) := hSw.2.2.2
                clear hSw
                go_simp
                try with_reducible rfl
              (try go_frame)
              refine wpAnyH_take (i := 19) (v := ?vQ8_20) rfl (by kernel_rfl) (by kernel_rfl) (by kernel_rfl) (fun _ _ _ h => h) (Or.inl ⟨by kernel_rfl, ?hQ8_20⟩) hS ?rQ8_20
              case hQ8_20 =>
                intro w1 hSw
                have y0 : w1.cell? ⟨bi, oi, none⟩ = some (.int .i64 a) := hSw.1
                have y1 : w1.cell? ⟨bi, oi + 1, none⟩ = some (.int .i64 k) := hSw.2.1
                have y2 : w1.cell? ⟨b, off + (i - 1), none⟩ = some (.slice (some ⟨bp, op, none⟩) np Cp) := hSw.2.2.1
                have y3 : w1.cell? ⟨bp, op, none⟩ = some (.int .i64 pa) := hSw.2.2.2
                clear hSw
                go_simp
                try with_reducible rfl
              (try go_frame)
              refine wpAnyH_take (i := 20) (v := ?vQ8_21) rfl (by kernel_rfl) (by kernel_rfl) (by kernel_rfl) (fun _ _ _ h => h) (Or.inl ⟨by kernel_rfl, ?hQ8_21⟩) hS ?rQ8_21
              case hQ8_21 =>
                intro w1 hSw
                have y0 : w1.cell? ⟨bi, oi, none⟩ = some (.int .i64 a) := hSw.1
                have y1 : w1.cell? ⟨bi, oi + 1, none⟩ = some (.int .i64 k) := hSw.2.1
                have y2 : w1.cell? ⟨b, off + (i - 1), none⟩ = some (.slice (some ⟨bp, op, none⟩) np Cp) := hSw.2.2.1
                have y3 : w1.cell? ⟨bp, op, none⟩ = some (.int .i64 pa) := hSw.2.2.2
                clear hSw
                go_simp
                try with_reducible rfl
              (try go_frame)
              refine wpAnyH_take (i := 21) (v := ?vQ8_22) rfl (by kernel_rfl) (by kernel_rfl) (by kernel_rfl) (fun _ _ _ h => h) (Or.inl ⟨by kernel_rfl, ?hQ8_22⟩) hS ?rQ8_22
              case hQ8_22 =>
                intro w1 hSw
                have y0 : w1.cell? ⟨bi, oi, none⟩ = some (.int .i64 a) := hSw.1
                have y1 : w1.cell? ⟨bi, oi + 1, none⟩ = some (.int .i64 k) := hSw.2.1
                have y2 : w1.cell? ⟨b, off + (i - 1), none⟩ = some (.slice (some ⟨bp, op, none⟩) np Cp) := hSw.2.2.1
                have y3 : w1.cell? ⟨bp, op, none⟩ = some (.int .i64 pa) := hSw.2.2.2
                clear hSw
                go_simp
                try with_reducible rfl
              (try go_frame)
              refine wpAnyH_take (i := 22) (v := ?vQ8_23) rfl (by kernel_rfl) (by kernel_rfl) (by kernel_rfl) (fun _ _ _ h => h) (Or.inl ⟨by kernel_rfl, ?hQ8_23⟩) hS ?rQ8_23
              case hQ8_23 =>
                intro w1 hSw
                have y0 : w1.cell? ⟨bi, oi, none⟩ = some (.int .i64 a) := hSw.1
                have y1 : w1.cell? ⟨bi, oi + 1, none⟩ = some (.int .i64 k) := hSw.2.1
                have y2 : w1.cell? ⟨b, off + (i - 1), none⟩ = some (.slice (some ⟨bp, op, none⟩) np Cp) := hSw.2.2.1
                have y3 : w1.cell? ⟨bp, op, none⟩ = some (.int .i64 pa) := hSw.2.2.2
                clear hSw
                go_simp
                try with_reducible rfl
              (try go_frame)
              refine wpAnyH_take (i := 23) (v := ?vQ8_24) rfl (by kernel_rfl) (by kernel_rfl) (by kernel_rfl) (fun _ _ _ h => h) (Or.inl ⟨by kernel_rfl, ?hQ8_24⟩) hS ?rQ8_24
              case hQ8_24 =>
                intro w1 hSw
                have y0 : w1.cell? ⟨bi, oi, none⟩ = some (.int .i64 a) := hSw.1
                have y1 : w1.cell? ⟨bi, oi + 1, none⟩ = some (.int .i64 k) := hSw.2.1
                have y2 : w1.cell? ⟨b, off + (i - 1), none⟩ = some (.slice (some ⟨bp, op, none⟩) np Cp) := hSw.2.2.1
                have y3 : w1.cell? ⟨bp, op, none⟩ = some (.int .i64 pa) := hSw.2.2.2
                clear hSw
                go_simp
                try with_reducible rfl
              (try go_frame)
              refine wpAnyH_take (i := 24) (v := ?vQ8_25) rfl (by kernel_rfl) (by kernel_rfl) (by kernel_rfl) (fun _ _ _ h => h) (Or.inl ⟨by kernel_rfl, ?hQ8_25⟩) hS ?rQ8_25
              case hQ8_25 =>
                intro w1 hSw
                clear hSw
                go_simp
                try with_reducible rfl
              (try go_frame)
              refine wpAnyH_take (i := 25) (v := ?vQ8_26) rfl (by kernel_rfl) (by kernel_rfl) (by kernel_rfl) (fun _ _ _ h => h) (Or.inl ⟨by kernel_rfl, ?hQ8_26⟩) hS ?rQ8_26
              case hQ8_26 =>
                intro w1 hSw
                clear hSw
                go_simp
                try with_reducible rfl
              (try go_frame)
              refine wpAnyH_take (i := 26) (v := ?vQ8_27) rfl (by kernel_rfl) (by kernel_rfl) (by kernel_rfl) (fun _ _ _ h => h) (Or.inl ⟨by kernel_rfl, ?hQ8_27⟩) hS ?rQ8_27
              case hQ8_27 =>
                intro w1 hSw
                clear hSw
                go_simp
                try with_reducible rfl
              (try go_frame)
              refine wpAnyH_take (i := 27) (v := ?vQ8_28) rfl (by kernel_rfl) (by kernel_rfl) (by kernel_rfl) (fun _ _ _ h => h) (Or.inl ⟨by kernel_rfl, ?hQ8_28⟩) hS ?rQ8_28
              case hQ8_28 =>
                intro w1 hSw
                have y0 : w1.cell? ⟨bi, oi, none⟩ = some (.int .i64 a) := hSw.1
                have y1 : w1.cell? ⟨bi, oi + 1, none⟩ = some (.int .i64 k) := hSw.2.1
                have y2 : w1.cell? ⟨b, off + (i - 1), none⟩ = some (.slice (some ⟨bp, op, none⟩) np Cp) := hSw.2.2.1
                have y3 : w1.cell? ⟨bp, op, none⟩ = some (.int .i64 pa) := hSw.2.2.2
                clear hSw
                go_simp
                try with_reducible rfl
              (try go_frame)
              refine wpAnyH_take (i := 28) (v := ?vQ8_29) rfl (by kernel_rfl) (by kernel_rfl) (by kernel_rfl) (fun _ _ _ h => h) (Or.inl ⟨by kernel_rfl, ?hQ8_29⟩) hS ?rQ8_29
              case hQ8_29 =>
                intro w1 hSw
                have y0 : w1.cell? ⟨bi, oi, none⟩ = some (.int .i64 a) := hSw.1
                have y1 : w1.cell? ⟨bi, oi + 1, none⟩ = some (.int .i64 k) := hSw.2.1
                have y2 : w1.cell? ⟨b, off + (i - 1), none⟩ = some (.slice (some ⟨bp, op, none⟩) np Cp) := hSw.2.2.1
                have y3 : w1.cell? ⟨bp, op, none⟩ = some (.int .i64 pa) := hSw.2.2.2
                clear hSw
                go_simp
                try with_reducible rfl
              (try go_frame)
              refine wpAnyH_take (i := 29) (v := ?vQ8_30) rfl (by kernel_rfl) (by kernel_rfl) (by kernel_rfl) (fun _ _ _ h => h) (Or.inl ⟨by kernel_rfl, ?hQ8_30⟩) hS ?rQ8_30
              case hQ8_30 =>
                intro w1 hSw
                have y0 : w1.cell? ⟨bi, oi, none⟩ = some (.int .i64 a) := hSw.1
                have y1 : w1.cell? ⟨bi, oi + 1, none⟩ = some (.int .i64 k) := hSw.2.1
                have y2 : w1.cell? ⟨b, off + (i - 1), none⟩ = some (.slice (some ⟨bp, op, none⟩) np Cp) := hSw.2.2.1
                have y3 : w1.cell? ⟨bp, op, none⟩ = some (.int .i64 pa) := hSw.2.2.2
                clear hSw
                go_simp
                try with_reducible rfl
              (try go_frame)
              refine wpAnyH_take (i := 30) (v := ?vQ8_31) rfl (by kernel_rfl) (by kernel_rfl) (by kernel_rfl) (fun _ _ _ h => h) (Or.inl ⟨by kernel_rfl, ?hQ8_31⟩) hS ?rQ8_31
              case hQ8_31 =>
                intro w1 hSw
                have y0 : w1.cell? ⟨bi, oi, none⟩ = some (.int .i64 a) := hSw.1
                have y1 : w1.cell? ⟨bi, oi + 1, none⟩ = some (.int .i64 k) := hSw.2.1
                have y2 : w1.cell? ⟨b, off + (i - 1), none⟩ = some (.slice (some ⟨bp, op, none⟩) np Cp) := hSw.2.2.1
                have y3 : w1.cell? ⟨bp, op, none⟩ = some (.int .i64 pa) := hSw.2.2.2
                clear hSw
                go_simp
                try with_reducible rfl
              (try go_frame)
              refine wpAnyH_ready (rs := [31]) (by kernel_rfl) (by simp) (AllReadyH.cons rfl (fun K hK => ?_) AllReadyH.nil)
              go_simp
              refine hK.out _ _ (hS) (fun hS => ?_)
              clear hK K
              refine wpAnyH_done (by kernel_rfl) ?_ _
              go_wp2_with fail
              go_meet
              case rel => exact ⟨decide (1 < k), rfl, Lib.hid (HBR.out.trans ((Below.refl _ wr).drew.mono hsr)), fun h => HBAD.out (by rw [HRA.out, decide_eq_false]; rintro ⟨-, -, h', -⟩; have := of_decide_eq_true h; omega), fun h => ⟨H3.out, by rw [← HAK.out.1]; exact hle, by rw [← HAK.out.1]; exact HGT.out, by rw [← HAK.out.2]; have := of_decide_eq_false h; omega⟩⟩
          · have h1I : decide ((1 : Int) < (i : Int)) = false := decide_eq_false (by omega)
            have HGT : Hid (lastAt L i < a) := Lib.hid (by unfold lastAt; rw [if_pos (by omega)]; omega)
            go_wp2_with fail
            refine wp_region_held_drew (S := fun w' => w'.cell? ⟨bi, oi, none⟩ = some (.int .i64 a) ∧ w'.cell? ⟨bi, oi + 1, none⟩ = some (.int .i64 k)) (by kernel_rfl) (⟨ca, ck⟩) (fun hS => ?_)
            refine wpAnyH_take (i := 0) (v := ?vQ9_1) rfl (by kernel_rfl) (by kernel_rfl) (by kernel_rfl) (fun _ _ _ h => h) (Or.inl ⟨by rfl, ?hQ9_1⟩) hS ?rQ9_1
            case hQ9_1 =>
              intro w1 hSw
              clear hSw
              go_simp
              try with_reducible rfl
            (try go_frame)
            refine wpAnyH_take (i := 1) (v := ?vQ9_2) rfl (by kernel_rfl) (by kernel_rfl) (by kernel_rfl) (fun _ _ _ h => h) (Or.inl ⟨by rfl, ?hQ9_2⟩) hS ?rQ9_2
            case hQ9_2 =>
              intro w1 hSw
              clear hSw
              go_simp
              try with_reducible rfl
            (try go_frame)
            refine wpAnyH_take (i := 2) (v := ?vQ9_3) rfl (by kernel_rfl) (by kernel_rfl) (by kernel_rfl) (fun _ _ _ h => h) (Or.inl ⟨by rfl, ?hQ9_3⟩) hS ?rQ9_3
            case hQ9_3 =>
              intro w1 hSw
              clear hSw
              go_simp
              try with_reducible rfl
            (try go_frame)
            refine wpAnyH_take (i := 3) (v := ?vQ9_4) rfl (by kernel_rfl) (by kernel_rfl) (by kernel_rfl) (fun _ _ _ h => h) (Or.inl ⟨by rfl, ?hQ9_4⟩) hS ?rQ9_4
            case hQ9_4 =>
              intro w1 hSw
              clear hSw
              go_simp
              try with_reducible rfl
            (try go_frame)
            refine wpAnyH_take (i := 4) (v := ?vQ9_5) rfl (by kernel_rfl) (by kernel_rfl) (by kernel_rfl) (fun _ _ _ h => h) (Or.inl ⟨by kernel_rfl, ?hQ9_5⟩) hS ?rQ9_5
            case hQ9_5 =>
              intro w1 hSw
              have y0 : w1.cell? ⟨bi, oi, none⟩ = some (.int .i64 a) := hSw.1
              have y1 : w1.cell? ⟨bi, oi + 1, none⟩ = some (.int .i64 k) := hSw.2
              clear hSw
              go_simp
              try with_reducible rfl
            (try go_frame)
            refine wpAnyH_take (i := 5) (v := ?vQ9_6) rfl (by kernel_rfl) (by kernel_rfl) (by kernel_rfl) (fun _ _ _ h => h) (Or.inl ⟨by kernel_rfl, ?hQ9_6⟩) hS ?rQ9_6
            case hQ9_6 =>
              intro w1 hSw
              have y0 : w1.cell? ⟨bi, oi, none⟩ = some (.int .i64 a) := hSw.1
              have y1 : w1.cell? ⟨bi, oi + 1, none⟩ = some (.int .i64 k) := hSw.2
              clear hSw
              go_simp
              try with_reducible rfl
            (try go_frame)
            refine wpAnyH_take (i := 6) (v := ?vQ9_7) rfl (by kernel_rfl) (by kernel_rfl) (by kernel_rfl) (fun _ _ _ h => h) (Or.inl ⟨by kernel_rfl, ?hQ9_7⟩) hS ?rQ9_7
            case hQ9_7 =>
              intro w1 hSw
              have y0 : w1.cell? ⟨bi, oi, none⟩ = some (.int .i64 a) := hSw.1
              have y1 : w1.cell? ⟨bi, oi + 1, none⟩ = some (.int .i64 k) := hSw.2
              clear hSw
              go_simp
              try with_reducible rfl
            (try go_frame)
            refine wpAnyH_take (i := 7) (v := ?vQ9_8) rfl (by kernel_rfl) (by kernel_rfl) (by kernel_rfl) (fun _ _ _ h => h) (Or.inl ⟨by kernel_rfl, ?hQ9_8⟩) hS ?rQ9_8
            case hQ9_8 =>
              intro w1 hSw
              have y0 : w1.cell? ⟨bi, oi, none⟩ = some (.int .i64 a) := hSw.1
              have y1 : w1.cell? ⟨bi, oi + 1, none⟩ = some (.int .i64 k) := hSw.2
              clear hSw
              go_simp
              try with_reducible rfl
            (try go_frame)
            refine wpAnyH_take (i := 8) (v := ?vQ9_9) rfl (by kernel_rfl) (by kernel_rfl) (by kernel_rfl) (fun _ _ _ h => h) (Or.inl ⟨by kernel_rfl, ?hQ9_9⟩) hS ?rQ9_9
            case hQ9_9 =>
              intro w1 hSw
              clear hSw
              go_simp
              try with_reducible rfl
            (try go_frame)
            refine wpAnyH_take (i := 9) (v := ?vQ9_10) rfl (by kernel_rfl) (by kernel_rfl) (by kernel_rfl) (fun _ _ _ h => h) (Or.inl ⟨by kernel_rfl, ?hQ9_10⟩) hS ?rQ9_10
            case hQ9_10 =>
              intro w1 hSw
              clear hSw
              go_simp
              try with_reducible rfl
            (try go_frame)
            refine wpAnyH_take (i := 10) (v := ?vQ9_11) rfl (by kernel_rfl) (by kernel_rfl) (by kernel_rfl) (fun _ _ _ h => h) (Or.inl ⟨by kernel_rfl, ?hQ9_11⟩) hS ?rQ9_11
            case hQ9_11 =>
              intro w1 hSw
              clear hSw
              go_simp
              try with_reducible rfl
            (try go_frame)
            refine wpAnyH_take (i := 11) (v := ?vQ9_12) rfl (by kernel_rfl) (by kernel_rfl) (by kernel_rfl) (fun _ _ _ h => h) (Or.inl ⟨by kernel_rfl, ?hQ9_12⟩) hS ?rQ9_12
            case hQ9_12 =>
              intro w1 hSw
              clear hSw
              go_simp
              try with_reducible rfl
            (try go_frame)
            refine wpAnyH_take (i := 12) (v := ?vQ9_13) rfl (by kernel_rfl) (by kernel_rfl) (by kernel_rfl) (fun _ _ _ h => h) (Or.inl ⟨by kernel_rfl, ?hQ9_13⟩) hS ?rQ9_13
            case hQ9_13 =>
              intro w1 hSw
              clear hSw
              go_simp
              try with_reducible rfl
            (try go_frame)
            refine wpAnyH_take (i := 13) (v := undef) rfl (by kernel_rfl) (by kernel_rfl) (by kernel_rfl) (fun _ _ _ h => h) (Or.inr ⟨by kernel_rfl, rfl⟩) hS ?rQ9_14
            (try go_frame)
            refine wpAnyH_take (i := 14) (v := undef) rfl (by kernel_rfl) (by kernel_rfl) (by kernel_rfl) (fun _ _ _ h => h) (Or.inr ⟨by kernel_rfl, rfl⟩) hS ?rQ9_15
            (try go_frame)
            refine wpAnyH_take (i := 15) (v := undef) rfl (by kernel_rfl) (by kernel_rfl) (by kernel_rfl) (fun _ _ _ h => h) (Or.inr ⟨by kernel_rfl, rfl⟩) hS ?rQ9_16
            (try go_frame)
            refine wpAnyH_take (i := 16) (v := undef) rfl (by kernel_rfl) (by kernel_rfl) (by kernel_rfl) (fun _ _ _ h => h) (Or.inr ⟨by kernel_rfl, rfl⟩) hS ?rQ9_17
            (try go_frame)
            refine wpAnyH_take (i := 17) (v := undef) rfl (by kernel_rfl) (by kernel_rfl) (by kernel_rfl) (fun _ _ _ h => h) (Or.inr ⟨by kernel_rfl, rfl⟩) hS ?rQ9_18
            (try go_frame)
            refine wpAnyH_take (i := 18) (v := undef) rfl (by kernel_rfl) (by kernel_rfl) (by kernel_rfl) (fun _ _ _ h => h) (Or.inr ⟨by kernel_rfl, rfl⟩) hS ?rQ9_19
            (try go_frame)
            refine wpAnyH_take (i := 19) (v := undef) rfl (by kernel_rfl) (by kernel_rfl) (by kernel_rfl) (fun _ _ _ h => h) (Or.inr ⟨by kernel_rfl, rfl⟩) hS ?rQ9_20
            (try go_frame)
            refine wpAnyH_take (i := 20) (v := undef) rfl (by kernel_rfl) (by kernel_rfl) (by kernel_rfl) (fun _ _ _ h => h) (Or.inr ⟨by kernel_rfl, rfl⟩) hS ?rQ9_21
            (try go_frame)
            refine wpAnyH_take (i := 21) (v := undef) rfl (by kernel_rfl) (by kernel_rfl) (by kernel_rfl) (fun _ _ _ h => h) (Or.inr ⟨by kernel_rfl, rfl⟩) hS ?rQ9_22
            (try go_frame)
            refine wpAnyH_take (i := 22) (v := undef) rfl (by kernel_rfl) (by kernel_rfl) (by kernel_rfl) (fun _ _ _ h => h) (Or.inr ⟨by kernel_rfl, rfl⟩) hS ?rQ9_23
            (try go_frame)
            refine wpAnyH_take (i := 23) (v := undef) rfl (by kernel_rfl) (by kernel_rfl) (by kernel_rfl) (fun _ _ _ h => h) (Or.inr ⟨by kernel_rfl, rfl⟩) hS ?rQ9_24
            (try go_frame)
            refine wpAnyH_take (i := 24) (v := ?vQ9_25) rfl (by kernel_rfl) (by kernel_rfl) (by kernel_rfl) (fun _ _ _ h => h) (Or.inl ⟨by kernel_rfl, ?hQ9_25⟩) hS ?rQ9_25
            case hQ9_25 =>
              intro w1 hSw
              clear hSw
              go_simp
              try with_reducible rfl
            (try go_frame)
            refine wpAnyH_take (i := 25) (v := ?vQ9_26) rfl (by kernel_rfl) (by kernel_rfl) (by kernel_rfl) (fun _ _ _ h => h) (Or.inl ⟨by kernel_rfl, ?hQ9_26⟩) hS ?rQ9_26
            case hQ9_26 =>
              intro w1 hSw
              clear hSw
              go_simp
              try with_reducible rfl
            (try go_frame)
            refine wpAnyH_take (i := 26) (v := ?vQ9_27) rfl (by kernel_rfl) (by kernel_rfl) (by kernel_rfl) (fun _ _ _ h => h) (Or.inl ⟨by kernel_rfl, ?hQ9_27⟩) hS ?rQ9_27
            case hQ9_27 =>
              intro w1 hSw
              clear hSw
              go_simp
              try with_reducible rfl
            (try go_frame)
            refine wpAnyH_take (i := 27) (v := ?vQ9_28) rfl (by kernel_rfl) (by kernel_rfl) (by kernel_rfl) (fun _ _ _ h => h) (Or.inl ⟨by kernel_rfl, ?hQ9_28⟩) hS ?rQ9_28
            case hQ9_28 =>
              intro w1 hSw
              have y0 : w1.cell? ⟨bi, oi, none⟩ = some (.int .i64 a) := hSw.1
              have y1 : w1.cell? ⟨bi, oi + 1, none⟩ = some (.int .i64 k) := hSw.2
              clear hSw
              go_simp
              try with_reducible rfl
            (try go_frame)
            refine wpAnyH_take (i := 28) (v := ?vQ9_29) rfl (by kernel_rfl) (by kernel_rfl) (by kernel_rfl) (fun _ _ _ h => h) (Or.inl ⟨by kernel_rfl, ?hQ9_29⟩) hS ?rQ9_29
            case hQ9_29 =>
              intro w1 hSw
              have y0 : w1.cell? ⟨bi, oi, none⟩ = some (.int .i64 a) := hSw.1
              have y1 : w1.cell? ⟨bi, oi + 1, none⟩ = some (.int .i64 k) := hSw.2
              clear hSw
              go_simp
              try with_reducible rfl
            (try go_frame)
            refine wpAnyH_take (i := 29) (v := ?vQ9_30) rfl (by kernel_rfl) (by kernel_rfl) (by kernel_rfl) (fun _ _ _ h => h) (Or.inl ⟨by kernel_rfl, ?hQ9_30⟩) hS ?rQ9_30
            case hQ9_30 =>
              intro w1 hSw
              have y0 : w1.cell? ⟨bi, oi, none⟩ = some (.int .i64 a) := hSw.1
              have y1 : w1.cell? ⟨bi, oi + 1, none⟩ = some (.int .i64 k) := hSw.2
              clear hSw
              go_simp
              try with_reducible rfl
            (try go_frame)
            refine wpAnyH_take (i := 30) (v := ?vQ9_31) rfl (by kernel_rfl) (by kernel_rfl) (by kernel_rfl) (fun _ _ _ h => h) (Or.inl ⟨by kernel_rfl, ?hQ9_31⟩) hS ?rQ9_31
            case hQ9_31 =>
              intro w1 hSw
              have y0 : w1.cell? ⟨bi, oi, none⟩ = some (.int .i64 a) := hSw.1
              have y1 : w1.cell? ⟨bi, oi + 1, none⟩ = some (.int .i64 k) := hSw.2
              clear hSw
              go_simp
              try with_reducible rfl
            (try go_frame)
            refine wpAnyH_ready (rs := [31]) (by kernel_rfl) (by simp) (AllReadyH.cons rfl (fun K hK => ?_) AllReadyH.nil)
            go_simp
            refine hK.out _ _ (hS) (fun hS => ?_)
            clear hK K
            refine wpAnyH_done (by kernel_rfl) ?_ _
            go_wp2_with fail
            go_meet
            case rel => exact ⟨decide (1 < k), rfl, Lib.hid (HBR.out.trans ((Below.refl _ wr).drew.mono hsr)), fun h => HBAD.out (by rw [HRA.out, decide_eq_false]; rintro ⟨-, -, h', -⟩; have := of_decide_eq_true h; omega), fun h => ⟨H3.out, by rw [← HAK.out.1]; exact hle, by rw [← HAK.out.1]; exact HGT.out, by rw [← HAK.out.2]; have := of_decide_eq_false h; omega⟩⟩
      case rest =>
        obtain ⟨v, rfl, HBC, hvt, hvf⟩ := hcut
        have hsc := HBC.out.size
        cases v with
        | true =>
          have HF := Lib.hid (hvt rfl)
          clear hvt hvf
          go_wp2_with fail
          go_ret
          exact ⟨ret_bool HF.out.symm, HB1.out.trans (HBC.out.mono hs1)⟩
        | false =>
        obtain ⟨h3, r1, r2, r3⟩ := hvf rfl
        clear hvt hvf
        have HRA := Lib.hid (accRow_at (t := (⟨need, win, keep, now, []⟩ : Ts)) (last := lastAt L i) h3)
        have HR := Lib.hid (And.intro r1 (And.intro r2 r3))
        have hn2 : 2 ≤ x.length := by omega
        clear r1 r2 r3 cx
        go_wp2_with fail
        go_loopw [11] (fun kk wk => ∃ j : Nat, 2 ≤ j ∧ j ≤ x.length ∧ kk = .int .i64 j ∧ Hid (GoodC now (x.drop 2) (j - 2)) ∧ Below w1.heap.size w1 wk) (fun kk _ => x.length - (intOf kk).toNat)
        case atStart => exact ⟨2, Nat.le_refl _, hn2, rfl, Lib.hid (GoodC.zero _ _), HBC.out⟩
        case round =>
          obtain ⟨j, hj2, hj, rfl, HG, hbk⟩ := hrel
          have HBK := Lib.hid hbk
          have hsk := hbk.size
          clear hbk
          by_cases hjl : j < x.length
          · have cj := (HBK.out.cell (p := ⟨bi, oi + j, none⟩) hbi).trans (HCI.out j hjl)
            have hjI : (j : Int) < (x.length : Int) := by omega
            have HNC : Hid (¬ (nth x j ≤ now ∧ (j = 2 ∨ nth x (j - 1) < nth x j)) → acceptsT s = false) := Lib.hid (fun hno => HBAD.out (by
              rw [HRA.out, decide_eq_false]
              rintro ⟨-, -, -, h4, h5, -⟩
              have := GoodC.of h4 h5 (j - 2) (by rw [List.length_drop]; omega)
              rw [nth_drop, nth_drop, show 2 + (j - 2) = j by omega] at this
              refine hno ⟨this.1, ?_⟩
              rcases this.2 with h | h
              · exact .inl (by omega)
              · by_cases e : j = 2
                · exact .inl e
                · rw [show 2 + (j - 2 - 1) = j - 1 by omega] at h
                  exact .inr h))
            have HGN : Hid (nth x j ≤ now ∧ (j = 2 ∨ nth x (j - 1) < nth x j) → GoodC now (x.drop 2) (j + 1 - 2)) := Lib.hid (fun h => by
              rw [show j + 1 - 2 = j - 2 + 1 by omega]
              refine HG.out.succ ?_
              rw [nth_drop, nth_drop, show 2 + (j - 2) = j by omega]
              refine ⟨h.1, ?_⟩
              rcases h.2 with h2 | h2
              · exact .inl (by omega)
              · by_cases e : j = 2
                · exact .inl (by omega)
                · rw [show 2 + (j - 2 - 1) = j - 1 by omega]
                  exact .inr h2)
            have cd := (HBK.out.cell (p := ⟨bi, oi + (j - 1), none⟩) hbi).trans (HCI.out (j - 1) (by omega))
            obtain ⟨c, hc⟩ : ∃ c, c = nth x j := ⟨_, rfl⟩
            obtain ⟨d, hd⟩ : ∃ d, d = nth x (j - 1) := ⟨_, rfl⟩
            rw [← hc, ← hd] at HNC HGN
            rw [← hc] at cj
            rw [← hd] at cd
            clear hc hd
            cases q1 : decide (now < c) with
            | true =>
              have HF := Lib.hid (HNC.out (fun h => by have := of_decide_eq_true q1; omega))
              go_wp2_with fail
              refine wp_region_held_drew (S := fun w' => w'.cell? ⟨bi, oi + j, none⟩ = some (.int .i64 c)) (by kernel_rfl) (cj) (fun hS => ?_)
              refine wpAnyH_take (i := 0) (v := ?vU10_1) rfl (by kernel_rfl) (by kernel_rfl) (by kernel_rfl) (fun _ _ _ h => h) (Or.inl ⟨by rfl, ?hU10_1⟩) hS ?rU10_1
              case hU10_1 =>
                intro w1 hSw
                have y0 : w1.cell? ⟨bi, oi + j, none⟩ = some (.int .i64 c) := hSw
                clear hSw
                go_simp
                try with_reducible rfl
              (try go_frame)
              refine wpAnyH_take (i := 1) (v := ?vU10_2) rfl (by kernel_rfl) (by kernel_rfl) (by kernel_rfl) (fun _ _ _ h => h) (Or.inl ⟨by rfl, ?hU10_2⟩) hS ?rU10_2
              case hU10_2 =>
                intro w1 hSw
                have y0 : w1.cell? ⟨bi, oi + j, none⟩ = some (.int .i64 c) := hSw
                clear hSw
                go_simp
                try with_reducible rfl
              (try go_frame)
              refine wpAnyH_take (i := 2) (v := ?vU10_3) rfl (by kernel_rfl) (by kernel_rfl) (by kernel_rfl) (fun _ _ _ h => h) (Or.inl ⟨by rfl, ?hU10_3⟩) hS ?rU10_3
              case hU10_3 =>
                intro w1 hSw
                have y0 : w1.cell? ⟨bi, oi + j, none⟩ = some (.int .i64 c) := hSw
                clear hSw
                go_simp
                try with_reducible rfl
              (try go_frame)
              refine wpAnyH_take (i := 3) (v := ?vU10_4) rfl (by kernel_rfl) (by kernel_rfl) (by kernel_rfl) (fun _ _ _ h => h) (Or.inl ⟨by rfl, ?hU10_4⟩) hS ?rU10_4
              case hU10_4 =>
                intro w1 hSw
                have y0 : w1.cell? ⟨bi, oi + j, none⟩ = some (.int .i64 c) := hSw
                clear hSw
                go_simp
                try with_reducible rfl
              (try go_frame)
              refine wpAnyH_take (i := 4) (v := ?vU10_5) rfl (by kernel_rfl) (by kernel_rfl) (by kernel_rfl) (fun _ _ _ h => h) (Or.inl ⟨by rfl, ?hU10_5⟩) hS ?rU10_5
              case hU10_5 =>
                intro w1 hSw
                clear hSw
                go_simp
                try with_reducible rfl
              (try go_frame)
              refine wpAnyH_take (i := 5) (v := ?vU10_6) rfl (by kernel_rfl) (by kernel_rfl) (by kernel_rfl) (fun _ _ _ h => h) (Or.inl ⟨by rfl, ?hU10_6⟩) hS ?rU10_6
              case hU10_6 =>
                intro w1 hSw
                clear hSw
                go_simp
                try with_reducible rfl
              (try go_frame)
              refine wpAnyH_take (i := 6) (v := ?vU10_7) rfl (by kernel_rfl) (by kernel_rfl) (by kernel_rfl) (fun _ _ _ h => h) (Or.inl ⟨by rfl, ?hU10_7⟩) hS ?rU10_7
              case hU10_7 =>
                intro w1 hSw
                clear hSw
                go_simp
                try with_reducible rfl
              (try go_frame)
              refine wpAnyH_take (i := 7) (v := undef) rfl (by kernel_rfl) (by kernel_rfl) (by kernel_rfl) (fun _ _ _ h => h) (Or.inr ⟨by kernel_rfl, rfl⟩) hS ?rU10_8
              (try go_frame)
              refine wpAnyH_take (i := 8) (v := undef) rfl (by kernel_rfl) (by kernel_rfl) (by kernel_rfl) (fun _ _ _ h => h) (Or.inr ⟨by kernel_rfl, rfl⟩) hS ?rU10_9
              (try go_frame)
              refine wpAnyH_take (i := 9) (v := undef) rfl (by kernel_rfl) (by kernel_rfl) (by kernel_rfl) (fun _ _ _ h => h) (Or.inr ⟨by kernel_rfl, rfl⟩) hS ?rU10_10
              (try go_frame)
              refine wpAnyH_take (i := 10) (v := undef) rfl (by kernel_rfl) (by kernel_rfl) (by kernel_rfl) (fun _ _ _ h => h) (Or.inr ⟨by kernel_rfl, rfl⟩) hS ?rU10_11
              (try go_frame)
              refine wpAnyH_take (i := 11) (v := undef) rfl (by kernel_rfl) (by kernel_rfl) (by kernel_rfl) (fun _ _ _ h => h) (Or.inr ⟨by kernel_rfl, rfl⟩) hS ?rU10_12
              (try go_frame)
              refine wpAnyH_take (i := 12) (v := undef) rfl (by kernel_rfl) (by kernel_rfl) (by kernel_rfl) (fun _ _ _ h => h) (Or.inr ⟨by kernel_rfl, rfl⟩) hS ?rU10_13
              (try go_frame)
              refine wpAnyH_take (i := 13) (v := undef) rfl (by kernel_rfl) (by kernel_rfl) (by kernel_rfl) (fun _ _ _ h => h) (Or.inr ⟨by kernel_rfl, rfl⟩) hS ?rU10_14
              (try go_frame)
              refine wpAnyH_take (i := 14) (v := undef) rfl (by kernel_rfl) (by kernel_rfl) (by kernel_rfl) (fun _ _ _ h => h) (Or.inr ⟨by kernel_rfl, rfl⟩) hS ?rU10_15
              (try go_frame)
              refine wpAnyH_take (i := 15) (v := undef) rfl (by kernel_rfl) (by kernel_rfl) (by kernel_rfl) (fun _ _ _ h => h) (Or.inr ⟨by kernel_rfl, rfl⟩) hS ?rU10_16
              (try go_frame)
              refine wpAnyH_take (i := 16) (v := undef) rfl (by kernel_rfl) (by kernel_rfl) (by kernel_rfl) (fun _ _ _ h => h) (Or.inr ⟨by kernel_rfl, rfl⟩) hS ?rU10_17
              (try go_frame)
              refine wpAnyH_take (i := 17) (v := undef) rfl (by kernel_rfl) (by kernel_rfl) (by kernel_rfl) (fun _ _ _ h => h) (Or.inr ⟨by kernel_rfl, rfl⟩) hS ?rU10_18
              (try go_frame)
              refine wpAnyH_take (i := 18) (v := undef) rfl (by kernel_rfl) (by kernel_rfl) (by kernel_rfl) (fun _ _ _ h => h) (Or.inr ⟨by kernel_rfl, rfl⟩) hS ?rU10_19
              (try go_frame)
              refine wpAnyH_take (i := 19) (v := undef) rfl (by kernel_rfl) (by kernel_rfl) (by kernel_rfl) (fun _ _ _ h => h) (Or.inr ⟨by kernel_rfl, rfl⟩) hS ?rU10_20
              (try go_frame)
              refine wpAnyH_take (i := 20) (v := undef) rfl (by kernel_rfl) (by kernel_rfl) (by kernel_rfl) (fun _ _ _ h => h) (Or.inr ⟨by kernel_rfl, rfl⟩) hS ?rU10_21
              (try go_frame)
              refine wpAnyH_ready (rs := [21]) (by kernel_rfl) (by simp) (AllReadyH.cons rfl (fun K hK => ?_) AllReadyH.nil)
              go_simp
              refine hK.out _ _ (hS) (fun hS => ?_)
              clear hK K
              refine wpAnyH_done (by kernel_rfl) ?_ _
              go_wp2_with fail
              go_ret
              exact ⟨ret_bool HF.out.symm, HB1.out.trans ((HBK.out.trans ((Below.refl _ _).drew.mono hsk)).mono hs1)⟩
            | false =>
              have hcn : c ≤ now := by have := of_decide_eq_false q1; omega
              by_cases h2 : 2 < j
              · have h2I : (2 : Int) < (j : Int) := by omega
                have t5 : ((j : Int) - 1).toNat = j - 1 := by omega
                have t6 : (0 : Int) ≤ (j : Int) - 1 := by omega
                have t7 : (j : Int) - 1 < (x.length : Int) := by omega
                have t8 : (1 : Int) ≤ (j : Int) := by omega
                have t9 : IntKind.i64.wrap ((j : Int) - 1) = (j : Int) - 1 := IntWalk.i64_in _ (by omega)
                cases q2 : decide (c ≤ d) with
                | true =>
                  have HF := Lib.hid (HNC.out (fun h => by have := of_decide_eq_true q2; rcases h.2 with h | h <;> omega))
                  go_wp2_with fail
                  refine wp_region_held_drew (S := fun w' => w'.cell? ⟨bi, oi + j, none⟩ = some (.int .i64 c) ∧ w'.cell? ⟨bi, oi + (j - 1), none⟩ = some (.int .i64 d)) (by kernel_rfl) (⟨cj, cd⟩) (fun hS => ?_)
                  refine wpAnyH_take (i := 0) (v := ?vU11_1) rfl (by kernel_rfl) (by kernel_rfl) (by kernel_rfl) (fun _ _ _ h => h) (Or.inl ⟨by rfl, ?hU11_1⟩) hS ?rU11_1
                  case hU11_1 =>
                    intro w1 hSw
                    have y0 : w1.cell? ⟨bi, oi + j, none⟩ = some (.int .i64 c) := hSw.1
                    have y1 : w1.cell? ⟨bi, oi + (j - 1), none⟩ = some (.int .i64 d) := hSw.2
                    clear hSw
                    go_simp
                    try with_reducible rfl
                  (try go_frame)
                  refine wpAnyH_take (i := 1) (v := ?vU11_2) rfl (by kernel_rfl) (by kernel_rfl) (by kernel_rfl) (fun _ _ _ h => h) (Or.inl ⟨by rfl, ?hU11_2⟩) hS ?rU11_2
                  case hU11_2 =>
                    intro w1 hSw
                    have y0 : w1.cell? ⟨bi, oi + j, none⟩ = some (.int .i64 c) := hSw.1
                    have y1 : w1.cell? ⟨bi, oi + (j - 1), none⟩ = some (.int .i64 d) := hSw.2
                    clear hSw
                    go_simp
                    try with_reducible rfl
                  (try go_frame)
                  refine wpAnyH_take (i := 2) (v := ?vU11_3) rfl (by kernel_rfl) (by kernel_rfl) (by kernel_rfl) (fun _ _ _ h => h) (Or.inl ⟨by rfl, ?hU11_3⟩) hS ?rU11_3
                  case hU11_3 =>
                    intro w1 hSw
                    have y0 : w1.cell? ⟨bi, oi + j, none⟩ = some (.int .i64 c) := hSw.1
                    have y1 : w1.cell? ⟨bi, oi + (j - 1), none⟩ = some (.int .i64 d) := hSw.2
                    clear hSw
                    go_simp
                    try with_reducible rfl
                  (try go_frame)
                  refine wpAnyH_take (i := 3) (v := ?vU11_4) rfl (by kernel_rfl) (by kernel_rfl) (by kernel_rfl) (fun _ _ _ h => h) (Or.inl ⟨by rfl, ?hU11_4⟩) hS ?rU11_4
                  case hU11_4 =>
                    intro w1 hSw
                    have y0 : w1.cell? ⟨bi, oi + j, none⟩ = some (.int .i64 c) := hSw.1
                    have y1 : w1.cell? ⟨bi, oi + (j - 1), none⟩ = some (.int .i64 d) := hSw.2
                    clear hSw
                    go_simp
                    try with_reducible rfl
                  (try go_frame)
                  refine wpAnyH_take (i := 4) (v := ?vU11_5) rfl (by kernel_rfl) (by kernel_rfl) (by kernel_rfl) (fun _ _ _ h => h) (Or.inl ⟨by rfl, ?hU11_5⟩) hS ?rU11_5
                  case hU11_5 =>
                    intro w1 hSw
                    clear hSw
                    go_simp
                    try with_reducible rfl
                  (try go_frame)
                  refine wpAnyH_take (i := 5) (v := ?vU11_6) rfl (by kernel_rfl) (by kernel_rfl) (by kernel_rfl) (fun _ _ _ h => h) (Or.inl ⟨by rfl, ?hU11_6⟩) hS ?rU11_6
                  case hU11_6 =>
                    intro w1 hSw
                    clear hSw
                    go_simp
                    try with_reducible rfl
                  (try go_frame)
                  refine wpAnyH_take (i := 6) (v := ?vU11_7) rfl (by kernel_rfl) (by kernel_rfl) (by kernel_rfl) (fun _ _ _ h => h) (Or.inl ⟨by rfl, ?hU11_7⟩) hS ?rU11_7
                  case hU11_7 =>
                    intro w1 hSw
                    clear hSw
                    go_simp
                    try with_reducible rfl
                  (try go_frame)
                  refine wpAnyH_take (i := 7) (v := ?vU11_8) rfl (by kernel_rfl) (by kernel_rfl) (by kernel_rfl) (fun _ _ _ h => h) (Or.inl ⟨by kernel_rfl, ?hU11_8⟩) hS ?rU11_8
                  case hU11_8 =>
                    intro w1 hSw
                    clear hSw
                    go_simp
                    try with_reducible rfl
                  (try go_frame)
                  refine wpAnyH_take (i := 8) (v := ?vU11_9) rfl (by kernel_rfl) (by kernel_rfl) (by kernel_rfl) (fun _ _ _ h => h) (Or.inl ⟨by kernel_rfl, ?hU11_9⟩) hS ?rU11_9
                  case hU11_9 =>
                    intro w1 hSw
                    clear hSw
                    go_simp
                    try with_reducible rfl
                  (try go_frame)
                  refine wpAnyH_take (i := 9) (v := ?vU11_10) rfl (by kernel_rfl) (by kernel_rfl) (by kernel_rfl) (fun _ _ _ h => h) (Or.inl ⟨by kernel_rfl, ?hU11_10⟩) hS ?rU11_10
                  case hU11_10 =>
                    intro w1 hSw
                    clear hSw
                    go_simp
                    try with_reducible rfl
                  (try go_frame)
                  refine wpAnyH_take (i := 10) (v := ?vU11_11) rfl (by kernel_rfl) (by kernel_rfl) (by kernel_rfl) (fun _ _ _ h => h) (Or.inl ⟨by kernel_rfl, ?hU11_11⟩) hS ?rU11_11
                  case hU11_11 =>
                    intro w1 hSw
                    have y0 : w1.cell? ⟨bi, oi + j, none⟩ = some (.int .i64 c) := hSw.1
                    have y1 : w1.cell? ⟨bi, oi + (j - 1), none⟩ = some (.int .i64 d) := hSw.2
                    clear hSw
                    go_simp
                    try with_reducible rfl
                  (try go_frame)
                  refine wpAnyH_take (i := 11) (v := ?vU11_12) rfl (by kernel_rfl) (by kernel_rfl) (by kernel_rfl) (fun _ _ _ h => h) (Or.inl ⟨by kernel_rfl, ?hU11_12⟩) hS ?rU11_12
                  case hU11_12 =>
                    intro w1 hSw
                    have y0 : w1.cell? ⟨bi, oi + j, none⟩ = some (.int .i64 c) := hSw.1
                    have y1 : w1.cell? ⟨bi, oi + (j - 1), none⟩ = some (.int .i64 d) := hSw.2
                    clear hSw
                    go_simp
                    try with_reducible rfl
                  (try go_frame)
                  refine wpAnyH_take (i := 12) (v := ?vU11_13) rfl (by kernel_rfl) (by kernel_rfl) (by kernel_rfl) (fun _ _ _ h => h) (Or.inl ⟨by kernel_rfl, ?hU11_13⟩) hS ?rU11_13
                  case hU11_13 =>
                    intro w1 hSw
                    have y0 : w1.cell? ⟨bi, oi + j, none⟩ = some (.int .i64 c) := hSw.1
                    have y1 : w1.cell? ⟨bi, oi + (j - 1), none⟩ = some (.int .i64 d) := hSw.2
                    clear hSw
                    go_simp
                    try with_reducible rfl
                  (try go_frame)
                  refine wpAnyH_take (i := 13) (v := ?vU11_14) rfl (by kernel_rfl) (by kernel_rfl) (by kernel_rfl) (fun _ _ _ h => h) (Or.inl ⟨by kernel_rfl, ?hU11_14⟩) hS ?rU11_14
                  case hU11_14 =>
                    intro w1 hSw
                    have y0 : w1.cell? ⟨bi, oi + j, none⟩ = some (.int .i64 c) := hSw.1
                    have y1 : w1.cell? ⟨bi, oi + (j - 1), none⟩ = some (.int .i64 d) := hSw.2
                    clear hSw
                    go_simp
                    try with_reducible rfl
                  (try go_frame)
                  refine wpAnyH_take (i := 14) (v := ?vU11_15) rfl (by kernel_rfl) (by kernel_rfl) (by kernel_rfl) (fun _ _ _ h => h) (Or.inl ⟨by kernel_rfl, ?hU11_15⟩) hS ?rU11_15
                  case hU11_15 =>
                    intro w1 hSw
                    have y0 : w1.cell? ⟨bi, oi + j, none⟩ = some (.int .i64 c) := hSw.1
                    have y1 : w1.cell? ⟨bi, oi + (j - 1), none⟩ = some (.int .i64 d) := hSw.2
                    clear hSw
                    go_simp
                    try with_reducible rfl
                  (try go_frame)
                  refine wpAnyH_take (i := 15) (v := ?vU11_16) rfl (by kernel_rfl) (by kernel_rfl) (by kernel_rfl) (fun _ _ _ h => h) (Or.inl ⟨by kernel_rfl, ?hU11_16⟩) hS ?rU11_16
                  case hU11_16 =>
                    intro w1 hSw
                    have y0 : w1.cell? ⟨bi, oi + j, none⟩ = some (.int .i64 c) := hSw.1
                    have y1 : w1.cell? ⟨bi, oi + (j - 1), none⟩ = some (.int .i64 d) := hSw.2
                    clear hSw
                    go_simp
                    try with_reducible rfl
                  (try go_frame)
                  refine wpAnyH_take (i := 16) (v := ?vU11_17) rfl (by kernel_rfl) (by kernel_rfl) (by kernel_rfl) (fun _ _ _ h => h) (Or.inl ⟨by kernel_rfl, ?hU11_17⟩) hS ?rU11_17
                  case hU11_17 =>
                    intro w1 hSw
                    have y0 : w1.cell? ⟨bi, oi + j, none⟩ = some (.int .i64 c) := hSw.1
                    have y1 : w1.cell? ⟨bi, oi + (j - 1), none⟩ = some (.int .i64 d) := hSw.2
                    clear hSw
                    go_simp
                    try with_reducible rfl
                  (try go_frame)
                  refine wpAnyH_take (i := 17) (v := ?vU11_18) rfl (by kernel_rfl) (by kernel_rfl) (by kernel_rfl) (fun _ _ _ h => h) (Or.inl ⟨by kernel_rfl, ?hU11_18⟩) hS ?rU11_18
                  case hU11_18 =>
                    intro w1 hSw
                    have y0 : w1.cell? ⟨bi, oi + j, none⟩ = some (.int .i64 c) := hSw.1
                    have y1 : w1.cell? ⟨bi, oi + (j - 1), none⟩ = some (.int .i64 d) := hSw.2
                    clear hSw
                    go_simp
                    try with_reducible rfl
                  (try go_frame)
                  refine wpAnyH_take (i := 18) (v := ?vU11_19) rfl (by kernel_rfl) (by kernel_rfl) (by kernel_rfl) (fun _ _ _ h => h) (Or.inl ⟨by kernel_rfl, ?hU11_19⟩) hS ?rU11_19
                  case hU11_19 =>
                    intro w1 hSw
                    have y0 : w1.cell? ⟨bi, oi + j, none⟩ = some (.int .i64 c) := hSw.1
                    have y1 : w1.cell? ⟨bi, oi + (j - 1), none⟩ = some (.int .i64 d) := hSw.2
                    clear hSw
                    go_simp
                    try with_reducible rfl
                  (try go_frame)
                  refine wpAnyH_take (i := 19) (v := ?vU11_20) rfl (by kernel_rfl) (by kernel_rfl) (by kernel_rfl) (fun _ _ _ h => h) (Or.inl ⟨by kernel_rfl, ?hU11_20⟩) hS ?rU11_20
                  case hU11_20 =>
                    intro w1 hSw
                    have y0 : w1.cell? ⟨bi, oi + j, none⟩ = some (.int .i64 c) := hSw.1
                    have y1 : w1.cell? ⟨bi, oi + (j - 1), none⟩ = some (.int .i64 d) := hSw.2
                    clear hSw
                    go_simp
                    try with_reducible rfl
                  (try go_frame)
                  refine wpAnyH_take (i := 20) (v := ?vU11_21) rfl (by kernel_rfl) (by kernel_rfl) (by kernel_rfl) (fun _ _ _ h => h) (Or.inl ⟨by kernel_rfl, ?hU11_21⟩) hS ?rU11_21
                  case hU11_21 =>
                    intro w1 hSw
                    clear hSw
                    go_simp
                    try with_reducible rfl
                  (try go_frame)
                  refine wpAnyH_ready (rs := [21]) (by kernel_rfl) (by simp) (AllReadyH.cons rfl (fun K hK => ?_) AllReadyH.nil)
                  go_simp
                  refine hK.out _ _ (hS) (fun hS => ?_)
                  clear hK K
                  refine wpAnyH_done (by kernel_rfl) ?_ _
                  go_wp2_with fail
                  go_ret
                  exact ⟨ret_bool HF.out.symm, HB1.out.trans ((HBK.out.trans ((Below.refl _ _).drew.mono hsk)).mono hs1)⟩
                | false =>
                  have HX := Lib.hid (HGN.out ⟨hcn, .inr (by have := of_decide_eq_false q2; omega)⟩)
                  go_wp2_with fail
                  refine wp_region_held_drew (S := fun w' => w'.cell? ⟨bi, oi + j, none⟩ = some (.int .i64 c) ∧ w'.cell? ⟨bi, oi + (j - 1), none⟩ = some (.int .i64 d)) (by kernel_rfl) (⟨cj, cd⟩) (fun hS => ?_)
                  refine wpAnyH_take (i := 0) (v := ?vU12_1) rfl (by kernel_rfl) (by kernel_rfl) (by kernel_rfl) (fun _ _ _ h => h) (Or.inl ⟨by rfl, ?hU12_1⟩) hS ?rU12_1
                  case hU12_1 =>
                    intro w1 hSw
                    have y0 : w1.cell? ⟨bi, oi + j, none⟩ = some (.int .i64 c) := hSw.1
                    have y1 : w1.cell? ⟨bi, oi + (j - 1), none⟩ = some (.int .i64 d) := hSw.2
                    clear hSw
                    go_simp
                    try with_reducible rfl
                  (try go_frame)
                  refine wpAnyH_take (i := 1) (v := ?vU12_2) rfl (by kernel_rfl) (by kernel_rfl) (by kernel_rfl) (fun _ _ _ h => h) (Or.inl ⟨by rfl, ?hU12_2⟩) hS ?rU12_2
                  case hU12_2 =>
                    intro w1 hSw
                    have y0 : w1.cell? ⟨bi, oi + j, none⟩ = some (.int .i64 c) := hSw.1
                    have y1 : w1.cell? ⟨bi, oi + (j - 1), none⟩ = some (.int .i64 d) := hSw.2
                    clear hSw
                    go_simp
                    try with_reducible rfl
                  (try go_frame)
                  refine wpAnyH_take (i := 2) (v := ?vU12_3) rfl (by kernel_rfl) (by kernel_rfl) (by kernel_rfl) (fun _ _ _ h => h) (Or.inl ⟨by rfl, ?hU12_3⟩) hS ?rU12_3
                  case hU12_3 =>
                    intro w1 hSw
                    have y0 : w1.cell? ⟨bi, oi + j, none⟩ = some (.int .i64 c) := hSw.1
                    have y1 : w1.cell? ⟨bi, oi + (j - 1), none⟩ = some (.int .i64 d) := hSw.2
                    clear hSw
                    go_simp
                    try with_reducible rfl
                  (try go_frame)
                  refine wpAnyH_take (i := 3) (v := ?vU12_4) rfl (by kernel_rfl) (by kernel_rfl) (by kernel_rfl) (fun _ _ _ h => h) (Or.inl ⟨by rfl, ?hU12_4⟩) hS ?rU12_4
                  case hU12_4 =>
                    intro w1 hSw
                    have y0 : w1.cell? ⟨bi, oi + j, none⟩ = some (.int .i64 c) := hSw.1
                    have y1 : w1.cell? ⟨bi, oi + (j - 1), none⟩ = some (.int .i64 d) := hSw.2
                    clear hSw
                    go_simp
                    try with_reducible rfl
                  (try go_frame)
                  refine wpAnyH_take (i := 4) (v := ?vU12_5) rfl (by kernel_rfl) (by kernel_rfl) (by kernel_rfl) (fun _ _ _ h => h) (Or.inl ⟨by rfl, ?hU12_5⟩) hS ?rU12_5
                  case hU12_5 =>
                    intro w1 hSw
                    clear hSw
                    go_simp
                    try with_reducible rfl
                  (try go_frame)
                  refine wpAnyH_take (i := 5) (v := ?vU12_6) rfl (by kernel_rfl) (by kernel_rfl) (by kernel_rfl) (fun _ _ _ h => h) (Or.inl ⟨by rfl, ?hU12_6⟩) hS ?rU12_6
                  case hU12_6 =>
                    intro w1 hSw
                    clear hSw
                    go_simp
                    try with_reducible rfl
                  (try go_frame)
                  refine wpAnyH_take (i := 6) (v := ?vU12_7) rfl (by kernel_rfl) (by kernel_rfl) (by kernel_rfl) (fun _ _ _ h => h) (Or.inl ⟨by rfl, ?hU12_7⟩) hS ?rU12_7
                  case hU12_7 =>
                    intro w1 hSw
                    clear hSw
                    go_simp
                    try with_reducible rfl
                  (try go_frame)
                  refine wpAnyH_take (i := 7) (v := ?vU12_8) rfl (by kernel_rfl) (by kernel_rfl) (by kernel_rfl) (fun _ _ _ h => h) (Or.inl ⟨by kernel_rfl, ?hU12_8⟩) hS ?rU12_8
                  case hU12_8 =>
                    intro w1 hSw
                    clear hSw
                    go_simp
                    try with_reducible rfl
                  (try go_frame)
                  refine wpAnyH_take (i := 8) (v := ?vU12_9) rfl (by kernel_rfl) (by kernel_rfl) (by kernel_rfl) (fun _ _ _ h => h) (Or.inl ⟨by kernel_rfl, ?hU12_9⟩) hS ?rU12_9
                  case hU12_9 =>
                    intro w1 hSw
                    clear hSw
                    go_simp
                    try with_reducible rfl
                  (try go_frame)
                  refine wpAnyH_take (i := 9) (v := ?vU12_10) rfl (by kernel_rfl) (by kernel_rfl) (by kernel_rfl) (fun _ _ _ h => h) (Or.inl ⟨by kernel_rfl, ?hU12_10⟩) hS ?rU12_10
                  case hU12_10 =>
                    intro w1 hSw
                    clear hSw
                    go_simp
                    try with_reducible rfl
                  (try go_frame)
                  refine wpAnyH_take (i := 10) (v := ?vU12_11) rfl (by kernel_rfl) (by kernel_rfl) (by kernel_rfl) (fun _ _ _ h => h) (Or.inl ⟨by kernel_rfl, ?hU12_11⟩) hS ?rU12_11
                  case hU12_11 =>
                    intro w1 hSw
                    have y0 : w1.cell? ⟨bi, oi + j, none⟩ = some (.int .i64 c) := hSw.1
                    have y1 : w1.cell? ⟨bi, oi + (j - 1), none⟩ = some (.int .i64 d) := hSw.2
                    clear hSw
                    go_simp
                    try with_reducible rfl
                  (try go_frame)
                  refine wpAnyH_take (i := 11) (v := ?vU12_12) rfl (by kernel_rfl) (by kernel_rfl) (by kernel_rfl) (fun _ _ _ h => h) (Or.inl ⟨by kernel_rfl, ?hU12_12⟩) hS ?rU12_12
                  case hU12_12 =>
                    intro w1 hSw
                    have y0 : w1.cell? ⟨bi, oi + j, none⟩ = some (.int .i64 c) := hSw.1
                    have y1 : w1.cell? ⟨bi, oi + (j - 1), none⟩ = some (.int .i64 d) := hSw.2
                    clear hSw
                    go_simp
                    try with_reducible rfl
                  (try go_frame)
                  refine wpAnyH_take (i := 12) (v := ?vU12_13) rfl (by kernel_rfl) (by kernel_rfl) (by kernel_rfl) (fun _ _ _ h => h) (Or.inl ⟨by kernel_rfl, ?hU12_13⟩) hS ?rU12_13
                  case hU12_13 =>
                    intro w1 hSw
                    have y0 : w1.cell? ⟨bi, oi + j, none⟩ = some (.int .i64 c) := hSw.1
                    have y1 : w1.cell? ⟨bi, oi + (j - 1), none⟩ = some (.int .i64 d) := hSw.2
                    clear hSw
                    go_simp
                    try with_reducible rfl
                  (try go_frame)
                  refine wpAnyH_take (i := 13) (v := ?vU12_14) rfl (by kernel_rfl) (by kernel_rfl) (by kernel_rfl) (fun _ _ _ h => h) (Or.inl ⟨by kernel_rfl, ?hU12_14⟩) hS ?rU12_14
                  case hU12_14 =>
                    intro w1 hSw
                    have y0 : w1.cell? ⟨bi, oi + j, none⟩ = some (.int .i64 c) := hSw.1
                    have y1 : w1.cell? ⟨bi, oi + (j - 1), none⟩ = some (.int .i64 d) := hSw.2
                    clear hSw
                    go_simp
                    try with_reducible rfl
                  (try go_frame)
                  refine wpAnyH_take (i := 14) (v := ?vU12_15) rfl (by kernel_rfl) (by kernel_rfl) (by kernel_rfl) (fun _ _ _ h => h) (Or.inl ⟨by kernel_rfl, ?hU12_15⟩) hS ?rU12_15
                  case hU12_15 =>
                    intro w1 hSw
                    have y0 : w1.cell? ⟨bi, oi + j, none⟩ = some (.int .i64 c) := hSw.1
                    have y1 : w1.cell? ⟨bi, oi + (j - 1), none⟩ = some (.int .i64 d) := hSw.2
                    clear hSw
                    go_simp
                    try with_reducible rfl
                  (try go_frame)
                  refine wpAnyH_take (i := 15) (v := ?vU12_16) rfl (by kernel_rfl) (by kernel_rfl) (by kernel_rfl) (fun _ _ _ h => h) (Or.inl ⟨by kernel_rfl, ?hU12_16⟩) hS ?rU12_16
                  case hU12_16 =>
                    intro w1 hSw
                    have y0 : w1.cell? ⟨bi, oi + j, none⟩ = some (.int .i64 c) := hSw.1
                    have y1 : w1.cell? ⟨bi, oi + (j - 1), none⟩ = some (.int .i64 d) := hSw.2
                    clear hSw
                    go_simp
                    try with_reducible rfl
                  (try go_frame)
                  refine wpAnyH_take (i := 16) (v := ?vU12_17) rfl (by kernel_rfl) (by kernel_rfl) (by kernel_rfl) (fun _ _ _ h => h) (Or.inl ⟨by kernel_rfl, ?hU12_17⟩) hS ?rU12_17
                  case hU12_17 =>
                    intro w1 hSw
                    have y0 : w1.cell? ⟨bi, oi + j, none⟩ = some (.int .i64 c) := hSw.1
                    have y1 : w1.cell? ⟨bi, oi + (j - 1), none⟩ = some (.int .i64 d) := hSw.2
                    clear hSw
                    go_simp
                    try with_reducible rfl
                  (try go_frame)
                  refine wpAnyH_take (i := 17) (v := ?vU12_18) rfl (by kernel_rfl) (by kernel_rfl) (by kernel_rfl) (fun _ _ _ h => h) (Or.inl ⟨by kernel_rfl, ?hU12_18⟩) hS ?rU12_18
                  case hU12_18 =>
                    intro w1 hSw
                    have y0 : w1.cell? ⟨bi, oi + j, none⟩ = some (.int .i64 c) := hSw.1
                    have y1 : w1.cell? ⟨bi, oi + (j - 1), none⟩ = some (.int .i64 d) := hSw.2
                    clear hSw
                    go_simp
                    try with_reducible rfl
                  (try go_frame)
                  refine wpAnyH_take (i := 18) (v := ?vU12_19) rfl (by kernel_rfl) (by kernel_rfl) (by kernel_rfl) (fun _ _ _ h => h) (Or.inl ⟨by kernel_rfl, ?hU12_19⟩) hS ?rU12_19
                  case hU12_19 =>
                    intro w1 hSw
                    have y0 : w1.cell? ⟨bi, oi + j, none⟩ = some (.int .i64 c) := hSw.1
                    have y1 : w1.cell? ⟨bi, oi + (j - 1), none⟩ = some (.int .i64 d) := hSw.2
                    clear hSw
                    go_simp
                    try with_reducible rfl
                  (try go_frame)
                  refine wpAnyH_take (i := 19) (v := ?vU12_20) rfl (by kernel_rfl) (by kernel_rfl) (by kernel_rfl) (fun _ _ _ h => h) (Or.inl ⟨by kernel_rfl, ?hU12_20⟩) hS ?rU12_20
                  case hU12_20 =>
                    intro w1 hSw
                    have y0 : w1.cell? ⟨bi, oi + j, none⟩ = some (.int .i64 c) := hSw.1
                    have y1 : w1.cell? ⟨bi, oi + (j - 1), none⟩ = some (.int .i64 d) := hSw.2
                    clear hSw
                    go_simp
                    try with_reducible rfl
                  (try go_frame)
                  refine wpAnyH_take (i := 20) (v := ?vU12_21) rfl (by kernel_rfl) (by kernel_rfl) (by kernel_rfl) (fun _ _ _ h => h) (Or.inl ⟨by kernel_rfl, ?hU12_21⟩) hS ?rU12_21
                  case hU12_21 =>
                    intro w1 hSw
                    clear hSw
                    go_simp
                    try with_reducible rfl
                  (try go_frame)
                  refine wpAnyH_ready (rs := [21]) (by kernel_rfl) (by simp) (AllReadyH.cons rfl (fun K hK => ?_) AllReadyH.nil)
                  go_simp
                  refine hK.out _ _ (hS) (fun hS => ?_)
                  clear hK K
                  refine wpAnyH_done (by kernel_rfl) ?_ _
                  go_wp2_with fail
                  exact ⟨⟨j + 1, by omega, by omega, by go_num, HX, HBK.out.trans ((Below.refl _ _).drew.mono hsk)⟩, by simp [intOf]; omega⟩
              · have h2I : decide ((2 : Int) < (j : Int)) = false := decide_eq_false (by omega)
                have HX := Lib.hid (HGN.out ⟨hcn, .inl (by omega)⟩)
                go_wp2_with fail
                refine wp_region_held_drew (S := fun w' => w'.cell? ⟨bi, oi + j, none⟩ = some (.int .i64 c)) (by kernel_rfl) (cj) (fun hS => ?_)
                refine wpAnyH_take (i := 0) (v := ?vU13_1) rfl (by kernel_rfl) (by kernel_rfl) (by kernel_rfl) (fun _ _ _ h => h) (Or.inl ⟨by rfl, ?hU13_1⟩) hS ?rU13_1
                case hU13_1 =>
                  intro w1 hSw
                  have y0 : w1.cell? ⟨bi, oi + j, none⟩ = some (.int .i64 c) := hSw
                  clear hSw
                  go_simp
                  try with_reducible rfl
                (try go_frame)
                refine wpAnyH_take (i := 1) (v := ?vU13_2) rfl (by kernel_rfl) (by kernel_rfl) (by kernel_rfl) (fun _ _ _ h => h) (Or.inl ⟨by rfl, ?hU13_2⟩) hS ?rU13_2
                case hU13_2 =>
                  intro w1 hSw
                  have y0 : w1.cell? ⟨bi, oi + j, none⟩ = some (.int .i64 c) := hSw
                  clear hSw
                  go_simp
                  try with_reducible rfl
                (try go_frame)
                refine wpAnyH_take (i := 2) (v := ?vU13_3) rfl (by kernel_rfl) (by kernel_rfl) (by kernel_rfl) (fun _ _ _ h => h) (Or.inl ⟨by rfl, ?hU13_3⟩) hS ?rU13_3
                case hU13_3 =>
                  intro w1 hSw
                  have y0 : w1.cell? ⟨bi, oi + j, none⟩ = some (.int .i64 c) := hSw
                  clear hSw
                  go_simp
                  try with_reducible rfl
                (try go_frame)
                refine wpAnyH_take (i := 3) (v := ?vU13_4) rfl (by kernel_rfl) (by kernel_rfl) (by kernel_rfl) (fun _ _ _ h => h) (Or.inl ⟨by rfl, ?hU13_4⟩) hS ?rU13_4
                case hU13_4 =>
                  intro w1 hSw
                  have y0 : w1.cell? ⟨bi, oi + j, none⟩ = some (.int .i64 c) := hSw
                  clear hSw
                  go_simp
                  try with_reducible rfl
                (try go_frame)
                refine wpAnyH_take (i := 4) (v := ?vU13_5) rfl (by kernel_rfl) (by kernel_rfl) (by kernel_rfl) (fun _ _ _ h => h) (Or.inl ⟨by rfl, ?hU13_5⟩) hS ?rU13_5
                case hU13_5 =>
                  intro w1 hSw
                  clear hSw
                  go_simp
                  try with_reducible rfl
                (try go_frame)
                refine wpAnyH_take (i := 5) (v := ?vU13_6) rfl (by kernel_rfl) (by kernel_rfl) (by kernel_rfl) (fun _ _ _ h => h) (Or.inl ⟨by rfl, ?hU13_6⟩) hS ?rU13_6
                case hU13_6 =>
                  intro w1 hSw
                  clear hSw
                  go_simp
                  try with_reducible rfl
                (try go_frame)
                refine wpAnyH_take (i := 6) (v := ?vU13_7) rfl (by kernel_rfl) (by kernel_rfl) (by kernel_rfl) (fun _ _ _ h => h) (Or.inl ⟨by rfl, ?hU13_7⟩) hS ?rU13_7
                case hU13_7 =>
                  intro w1 hSw
                  clear hSw
                  go_simp
                  try with_reducible rfl
                (try go_frame)
                refine wpAnyH_take (i := 7) (v := ?vU13_8) rfl (by kernel_rfl) (by kernel_rfl) (by kernel_rfl) (fun _ _ _ h => h) (Or.inl ⟨by kernel_rfl, ?hU13_8⟩) hS ?rU13_8
                case hU13_8 =>
                  intro w1 hSw
                  clear hSw
                  go_simp
                  try with_reducible rfl
                (try go_frame)
                refine wpAnyH_take (i := 8) (v := ?vU13_9) rfl (by kernel_rfl) (by kernel_rfl) (by kernel_rfl) (fun _ _ _ h => h) (Or.inl ⟨by kernel_rfl, ?hU13_9⟩) hS ?rU13_9
                case hU13_9 =>
                  intro w1 hSw
                  clear hSw
                  go_simp
                  try with_reducible rfl
                (try go_frame)
                refine wpAnyH_take (i := 9) (v := ?vU13_10) rfl (by kernel_rfl) (by kernel_rfl) (by kernel_rfl) (fun _ _ _ h => h) (Or.inl ⟨by kernel_rfl, ?hU13_10⟩) hS ?rU13_10
                case hU13_10 =>
                  intro w1 hSw
                  clear hSw
                  go_simp
                  try with_reducible rfl
                (try go_frame)
                refine wpAnyH_take (i := 10) (v := undef) rfl (by kernel_rfl) (by kernel_rfl) (by kernel_rfl) (fun _ _ _ h => h) (Or.inr ⟨by kernel_rfl, rfl⟩) hS ?rU13_11
                (try go_frame)
                refine wpAnyH_take (i := 11) (v := undef) rfl (by kernel_rfl) (by kernel_rfl) (by kernel_rfl) (fun _ _ _ h => h) (Or.inr ⟨by kernel_rfl, rfl⟩) hS ?rU13_12
                (try go_frame)
                refine wpAnyH_take (i := 12) (v := undef) rfl (by kernel_rfl) (by kernel_rfl) (by kernel_rfl) (fun _ _ _ h => h) (Or.inr ⟨by kernel_rfl, rfl⟩) hS ?rU13_13
                (try go_frame)
                refine wpAnyH_take (i := 13) (v := undef) rfl (by kernel_rfl) (by kernel_rfl) (by kernel_rfl) (fun _ _ _ h => h) (Or.inr ⟨by kernel_rfl, rfl⟩) hS ?rU13_14
                (try go_frame)
                refine wpAnyH_take (i := 14) (v := undef) rfl (by kernel_rfl) (by kernel_rfl) (by kernel_rfl) (fun _ _ _ h => h) (Or.inr ⟨by kernel_rfl, rfl⟩) hS ?rU13_15
                (try go_frame)
                refine wpAnyH_take (i := 15) (v := undef) rfl (by kernel_rfl) (by kernel_rfl) (by kernel_rfl) (fun _ _ _ h => h) (Or.inr ⟨by kernel_rfl, rfl⟩) hS ?rU13_16
                (try go_frame)
                refine wpAnyH_take (i := 16) (v := undef) rfl (by kernel_rfl) (by kernel_rfl) (by kernel_rfl) (fun _ _ _ h => h) (Or.inr ⟨by kernel_rfl, rfl⟩) hS ?rU13_17
                (try go_frame)
                refine wpAnyH_take (i := 17) (v := undef) rfl (by kernel_rfl) (by kernel_rfl) (by kernel_rfl) (fun _ _ _ h => h) (Or.inr ⟨by kernel_rfl, rfl⟩) hS ?rU13_18
                (try go_frame)
                refine wpAnyH_take (i := 18) (v := undef) rfl (by kernel_rfl) (by kernel_rfl) (by kernel_rfl) (fun _ _ _ h => h) (Or.inr ⟨by kernel_rfl, rfl⟩) hS ?rU13_19
                (try go_frame)
                refine wpAnyH_take (i := 19) (v := undef) rfl (by kernel_rfl) (by kernel_rfl) (by kernel_rfl) (fun _ _ _ h => h) (Or.inr ⟨by kernel_rfl, rfl⟩) hS ?rU13_20
                (try go_frame)
                refine wpAnyH_take (i := 20) (v := ?vU13_21) rfl (by kernel_rfl) (by kernel_rfl) (by kernel_rfl) (fun _ _ _ h => h) (Or.inl ⟨by kernel_rfl, ?hU13_21⟩) hS ?rU13_21
                case hU13_21 =>
                  intro w1 hSw
                  clear hSw
                  go_simp
                  try with_reducible rfl
                (try go_frame)
                refine wpAnyH_ready (rs := [21]) (by kernel_rfl) (by simp) (AllReadyH.cons rfl (fun K hK => ?_) AllReadyH.nil)
                go_simp
                refine hK.out _ _ (hS) (fun hS => ?_)
                clear hK K
                refine wpAnyH_done (by kernel_rfl) ?_ _
                go_wp2_with fail
                exact ⟨⟨j + 1, by omega, by omega, by go_num, HX, HBK.out.trans ((Below.refl _ _).drew.mono hsk)⟩, by simp [intOf]; omega⟩
          · obtain rfl : j = x.length := by omega
            have HGA := HG.out
            rw [show x.length - 2 = (x.drop 2).length by rw [List.length_drop]] at HGA
            have HALL := Lib.hid HGA.all
            have ck := (HBK.out.cell (p := ⟨bi, oi + 1, none⟩) hbi).trans (HCI.out 1 (by omega))
            have c2 := (HBK.out.cell (p := ⟨bi, oi + 2, none⟩) hbi).trans (HCI.out 2 (by omega))
            have hk0 := HNX.out (nth x 1) (nthL_mem (by omega))
            have p1I : (1 : Int) < (x.length : Int) := by omega
            have p2I : (2 : Int) < (x.length : Int) := by omega
            have HR2 := HR.out
            obtain ⟨k, hk⟩ : ∃ k, k = nth x 1 := ⟨_, rfl⟩
            obtain ⟨c, hc⟩ : ∃ c, c = nth x 2 := ⟨_, rfl⟩
            rw [← hk, ← hc] at HRA
            rw [← hk] at ck hk0 HR2
            rw [← hc] at c2
            obtain ⟨m0, m1, m2, m3, m4, m5⟩ := HNE.out
            have HRE : Hid (accRow (⟨need, win, keep, now, []⟩ : Ts) (lastAt L i) x = decide (¬ (k = 0 ∧ need ≤ (x.length : Int) - 2) ∧ (now - win < c ∨ ¬ (k = 0 ∨ 3 < x.length ∨ c ≤ now - keep)))) := Lib.hid (by
              rw [HRA.out, decide_eq_decide]
              exact ⟨fun h => ⟨h.2.2.2.2.2.1, h.2.2.2.2.2.2⟩, fun h => ⟨HR2.1, HR2.2.1, HR2.2.2, HALL.out.1, HALL.out.2, h.1, h.2⟩⟩)
            have hb2 : k ≤ 1 := HR2.2.2
            clear hk hc HGA HR2 hjl
            have xr : ∀ b : Bool, True := fun _ => trivial
            cases q1 : (k == 0) with
            | true =>
              have hk0' : k = 0 := by simpa using q1
              cases q2 : decide (need ≤ (x.length : Int) - 2) with
              | true =>
                have HF := Lib.hid (HBAD.out (by rw [HRE.out, decide_eq_false]; rintro ⟨h, -⟩; exact h ⟨hk0', of_decide_eq_true q2⟩))
                clear hk0'
                go_wp2_with fail
                go_ret
                exact ⟨ret_bool HF.out.symm, HB1.out.trans (HBK.out.mono hs1)⟩
              | false =>
                cases q3 : decide (now - win < c) with
                | true =>
                  have HX := Lib.hid (HGO.out (by rw [HRE.out, decide_eq_true]; exact ⟨fun h => of_decide_eq_false q2 h.2, .inl (of_decide_eq_true q3)⟩))
                  clear hk0'
                  go_wp2_with fail
                  exact ⟨⟨i + 1, by omega, by omega, by go_num, HX, HBK.out⟩, by simp [intOf]; omega⟩
                | false =>
                  have HF := Lib.hid (HBAD.out (by rw [HRE.out, decide_eq_false]; rintro ⟨-, h | h⟩; exact of_decide_eq_false q3 h; exact h (.inl hk0')))
                  clear hk0'
                  go_wp2_with fail
                  go_ret
                  exact ⟨ret_bool HF.out.symm, HB1.out.trans (HBK.out.mono hs1)⟩
            | false =>
              have hk1 : ¬ k = 0 := by simpa using q1
              have HK1 := Lib.hid hk1
              clear hk1
              cases q3 : decide (now - win < c) with
              | true =>
                have HX := Lib.hid (HGO.out (by rw [HRE.out, decide_eq_true]; exact ⟨fun h => HK1.out h.1, .inl (of_decide_eq_true q3)⟩))
                go_wp2_with fail
                exact ⟨⟨i + 1, by omega, by omega, by go_num, HX, HBK.out⟩, by simp [intOf]; omega⟩
              | false =>
                by_cases h4 : 3 < x.length
                · have h4I : (3 : Int) < (x.length : Int) := by omega
                  have HF := Lib.hid (HBAD.out (by rw [HRE.out, decide_eq_false]; rintro ⟨-, h | h⟩; exact of_decide_eq_false q3 h; exact h (.inr (.inl h4))))
                  go_wp2_with fail
                  go_ret
                  exact ⟨ret_bool HF.out.symm, HB1.out.trans (HBK.out.mono hs1)⟩
                · have h4I : ¬ (3 : Int) < (x.length : Int) := by omega
                  cases q5 : decide (c ≤ now - keep) with
                  | true =>
                    have HF := Lib.hid (HBAD.out (by rw [HRE.out, decide_eq_false]; rintro ⟨-, h | h⟩; exact of_decide_eq_false q3 h; exact h (.inr (.inr (of_decide_eq_true q5)))))
                    go_wp2_with fail
                    go_ret
                    exact ⟨ret_bool HF.out.symm, HB1.out.trans (HBK.out.mono hs1)⟩
                  | false =>
                    have HX := Lib.hid (HGO.out (by rw [HRE.out, decide_eq_true]; exact ⟨fun h => HK1.out h.1, .inr (fun h => by rcases h with h | h | h; exact HK1.out h; exact h4 h; exact of_decide_eq_false q5 h)⟩))
                    go_wp2_with fail
                    exact ⟨⟨i + 1, by omega, by omega, by go_num, HX, HBK.out⟩, by simp [intOf]; omega⟩
    · obtain rfl : i = L.length := by omega
      have HF : Hid (acceptsT s = true) := Lib.hid (by rw [HAI.out]; exact acc_end)
      clear hlt
      go_wp2_with fail
      go_ret
      exact ⟨ret_bool HF.out.symm, HB1.out.trans (HBR.out.mono hs1)⟩

theorem accepts28 (s : Tx) (hs : s.length ≤ 100000) (w : World) : Calls Tryd.prog 28 #[.string (S s)] w fun e w' => e = .returned (.bool (acceptsT s)) ∧ Below w.heap.size w w' := by
  cases hL : scanR s [] [] 0 false with
  | none => exact acc_none s hs w hL
  | some L =>
    by_cases hn : 0 < L.length
    · by_cases h65 : 65 < L.length
      · exact acc_many s hs w hL h65
      · by_cases h4 : (row L 0).length = 4
        · obtain ⟨need, win, keep, now, h0⟩ := list4 h4
          by_cases hne : newE need win keep = 0
          · by_cases hnow : now ≤ 1073741824
            · exact acc_main s hs w hL hn (by omega) h0 hne hnow
            · exact acc_late s hs w hL hn (by omega) h0 hne (by omega)
          · exact acc_new s hs w hL hn (by omega) h0 hne
        · exact acc_four s hs w hL hn (by omega) h4
    · obtain rfl : L = [] := List.eq_nil_of_length_eq_zero (by omega)
      exact acc_nil s hs w hL
end Go.Proofs.YtkikokldijccnaaDoor
