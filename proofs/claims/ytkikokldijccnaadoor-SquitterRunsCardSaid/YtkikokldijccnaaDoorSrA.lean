/- squitter's reference: its table in memory; heard, Cycles. -/
import Derived.Test.YtkikokldijccnaaDoorRows
import Derived.WalkKit
import Derived.WalkLawsBesides
import Derived.WalkSpells
import Derived.ProofKit
import Derived.Below
import Derived.Outline
import Derived.Lib.Hide
import Derived.Deep.RegionWith
import Derived.Deep.RegionHeld3
import Derived.Deep.DrawnRows
import Derived.StillTailTactics
import Derived.BigQuiet
import Derived.Deep.QuietTactic
import Derived.Deep.LoopGhost
import Derived.IntWalk
import Derived.BigQuiet
import Derived.Test.YtkikokldijccnaaDoorSqV
namespace Go.Proofs.YtkikokldijccnaaDoor
open Go.RowKit Go.Maps
attribute [local go_sem ↓] Go.wp_at_zero Go.wp_at_succ
attribute [local go_sem] wrap_lit
/-- the reference's table lies at R, its hearings at A -/
structure RefR (w : World) (R : Nat) (need win keep now : Int) (A : Option Addr) (cap : Nat) (P : List (Int × Int)) : Prop where
  lt : R < w.heap.size
  c0 : w.cell? ⟨R, 0, none⟩ = some (.int .i64 need)
  c1 : w.cell? ⟨R, 1, none⟩ = some (.int .i64 win)
  c2 : w.cell? ⟨R, 2, none⟩ = some (.int .i64 keep)
  c3 : w.cell? ⟨R, 3, none⟩ = some (.int .i64 now)
  c4 : w.cell? ⟨R, 4, none⟩ = some (.slice A P.length cap)
  past : Is .i64 w w.heap.size A (flatS P)
  len : P.length ≤ 1000
theorem RefR.below {w : World} {R cap : Nat} {A : Option Addr} {need win keep now : Int} {P : List (Int × Int)} {w' : World} (h : RefR w R need win keep now A cap P) (hb : Below w.heap.size w w') : RefR w' R need win keep now A cap P :=
  have c := fun k => hb.cell (p := ⟨R, k, none⟩) h.lt
  ⟨Nat.lt_of_lt_of_le h.lt hb.size, (c 0).trans h.c0, (c 1).trans h.c1, (c 2).trans h.c2, (c 3).trans h.c3, (c 4).trans h.c4, (h.past.below hb).mono hb.size, h.len⟩
theorem RefR.at_ {w : World} {R cap : Nat} {A : Option Addr} {need win keep now : Int} {P : List (Int × Int)} (h : RefR w R need win keep now A cap P) {k : Nat} (hk : k < P.length) : ∃ b off, A = some ⟨b, off, none⟩ ∧ b < w.heap.size ∧ w.cell? ⟨b, off + k * 2, none⟩ = some (.int .i64 (stl P k)) ∧ w.cell? ⟨b, off + k * 2 + 1, none⟩ = some (.int .i64 (sth P k)) := by
  have f0 := flatS_len P
  obtain ⟨b, off, e, hb, hc⟩ := h.past (by omega)
  obtain ⟨f1, f2⟩ := flatS_nth P k hk
  have c1 := hc (k * 2) (by omega)
  have c2 := hc (k * 2 + 1) (by omega)
  rw [f1] at c1
  rw [f2, ← Nat.add_assoc] at c2
  exact ⟨b, off, e, hb, c1, c2⟩
theorem any_take {f : Int × Int → Bool} {P : List (Int × Int)} : P.any f = true ↔ ∃ k, k < P.length ∧ f (stl P k, sth P k) = true := by
  rw [List.any_eq_true]
  constructor
  · rintro ⟨p, hp, hf⟩
    obtain ⟨k, hk, e⟩ := List.getElem_of_mem hp
    refine ⟨k, hk, ?_⟩
    unfold stl sth
    rw [List.getD_eq_getElem?_getD, List.getElem?_eq_getElem hk, e]
    exact hf
  · rintro ⟨k, hk, hf⟩
    exact ⟨_, sts_at hk, hf⟩
theorem take_sts (P : List (Int × Int)) (k : Nat) (h : k < P.length) : P.take (k + 1) = P.take k ++ [(stl P k, sth P k)] := by
  rw [List.take_succ_eq_append_getElem h]
  unfold stl sth
  rw [List.getD_eq_getElem?_getD, List.getElem?_eq_getElem h]
  rfl
set_option maxHeartbeats 1000000 in
theorem heard51 {w : World} {R cap : Nat} {A : Option Addr} {need win keep now : Int} {P : List (Int × Int)} (hR : RefR w R need win keep now A cap P) (a lo hi : Int) : Calls Tryd.prog 51 #[.pointer (some ⟨R, 0, none⟩), .int .i64 a, .int .i64 lo, .int .i64 hi] w fun e w' => e = .returned (.bool (heardF P a lo hi)) ∧ w' = w := by
  have HR := Lib.hid hR
  have r4 := hR.c4
  have hl := hR.len
  clear hR
  go_enter Tryd.func51, Tryd.ntmps51
  go_wp2_with fail
  go_loop [9] (fun i => ∃ k : Nat, k ≤ P.length ∧ i = .int .i64 k ∧ ∀ r, r < k → ¬ (stl P r = a ∧ lo ≤ sth P r ∧ sth P r ≤ hi)) (fun i => P.length - (intOf i).toNat)
  case atStart => exact ⟨0, Nat.zero_le _, rfl, fun r h => absurd h (by omega)⟩
  case round =>
    obtain ⟨k, hk, rfl, hall⟩ := hrel
    have Hall := Lib.hid hall
    clear hall
    by_cases hlt : k < P.length
    · obtain ⟨b, off, rfl, hb, c1, c2⟩ := HR.out.at_ hlt
      have hltI : (k : Int) < (P.length : Int) := by omega
      obtain ⟨h1, e1⟩ : ∃ x, x = stl P k := ⟨_, rfl⟩
      obtain ⟨h2, e2⟩ : ∃ x, x = sth P k := ⟨_, rfl⟩
      rw [← e1] at c1
      rw [← e2] at c2
      have HV := Lib.hid (And.intro e1 e2)
      clear e1 e2
      by_cases g : h1 = a ∧ lo ≤ h2 ∧ h2 ≤ hi
      · have q1 : (h1 == a) = true := by simpa using g.1
        have q2 : decide (lo ≤ h2) = true := decide_eq_true g.2.1
        have q3 : decide (h2 ≤ hi) = true := decide_eq_true g.2.2
        have HM : Hid (heardF P a lo hi = true) := Lib.hid (any_take.2 ⟨k, hlt, by rw [← HV.out.1, ← HV.out.2]; exact decide_eq_true g⟩)
        clear g
        go_wp2_with fail
        go_ret
        exact ⟨by rw [HM.out]; rfl, rfl⟩
      · have HG := Lib.hid g
        have hgo : ∀ r, r < k + 1 → ¬ (stl P r = a ∧ lo ≤ sth P r ∧ sth P r ≤ hi) := fun r hr => by
          by_cases e : r = k
          · subst e; rw [← HV.out.1, ← HV.out.2]; exact HG.out
          · exact Hall.out r (by omega)
        have HGO := Lib.hid hgo
        clear g hgo
        cases q1 : (h1 == a) with
        | false =>
          go_wp2_with fail
          exact ⟨⟨k + 1, by omega, by go_num, HGO.out⟩, by simp [intOf]; omega⟩
        | true =>
          cases q2 : decide (lo ≤ h2) with
          | false =>
            go_wp2_with fail
            exact ⟨⟨k + 1, by omega, by go_num, HGO.out⟩, by simp [intOf]; omega⟩
          | true =>
            have q3 : decide (h2 ≤ hi) = false := decide_eq_false fun g => HG.out ⟨by simpa using q1, of_decide_eq_true q2, g⟩
            go_wp2_with fail
            exact ⟨⟨k + 1, by omega, by go_num, HGO.out⟩, by simp [intOf]; omega⟩
    · obtain rfl : k = P.length := by omega
      have HM : Hid (heardF P a lo hi = false) := Lib.hid (by
        rw [← Bool.not_eq_true]
        intro h
        obtain ⟨j, hj, e⟩ := any_take.1 h
        exact Hall.out j hj (of_decide_eq_true e))
      clear hlt
      go_wp2_with fail
      go_ret
      exact ⟨by rw [HM.out]; rfl, rfl⟩
theorem cyc_take (a lo hi : Int) (P : List (Int × Int)) (k : Nat) (h : k < P.length) : cycF a lo hi (P.take (k + 1)) = cycStep a lo hi (cycF a lo hi (P.take k)) (stl P k, sth P k) := by
  rw [take_sts P k h]
  unfold cycF
  rw [List.foldl_append]
  rfl
theorem cyc_len (a lo hi : Int) : ∀ (P : List (Int × Int)) (l : List Int), (P.foldl (cycStep a lo hi) l).length ≤ l.length + P.length
  | [], _ => Nat.le_refl _
  | p :: P, l => by
    have := cyc_len a lo hi P (cycStep a lo hi l p)
    have h2 : (cycStep a lo hi l p).length ≤ l.length + 1 := by unfold cycStep; split <;> simp
    rw [List.foldl_cons, List.length_cons]
    omega
theorem cycF_len (a lo hi : Int) (P : List (Int × Int)) : (cycF a lo hi P).length ≤ P.length := by
  have := cyc_len a lo hi P []
  simp only [List.length_nil, Nat.zero_add] at this
  exact this
theorem Acc.shape {w : World} {B : Nat} {v : Value} {n : Nat} {ys : List Int} (h : Acc .i64 w B 3 1 v n ys) : ∃ A0 c0, v = .slice A0 n c0 := by
  have hl : ys.length = n := by have := h.len; omega
  rcases h.slice with ⟨rfl, rfl⟩ | ⟨g, cap, cs, rfl, _⟩
  · exact ⟨none, 0, by rw [← hl]; rfl⟩
  · exact ⟨_, _, rfl⟩
/-- a row that the call made: as an answer -/
def RowP (w : World) (l : List Int) (e : Ending) (w' : World) : Prop := ∃ A cap, e = .returned (.slice A l.length cap) ∧ Own .i64 w' w.heap.size A 3 l ∧ l.length ≤ cap ∧ Below w.heap.size w w'
theorem RowP.of {w w' : World} {v : Value} {l : List Int} (h : Acc .i64 w' w.heap.size 3 1 v l.length l) (hb : Below w.heap.size w w') : RowP w l (.returned v) w' := by
  rcases h.slice with ⟨rfl, rfl⟩ | ⟨g, cap, cs, rfl, hB, hg, hnc, hsz, hc⟩
  · exact ⟨none, 0, rfl, fun h => absurd h (by simp), Nat.le_refl _, hb⟩
  · exact ⟨_, cap, rfl, fun _ => ⟨g, cs, rfl, hB, hg, hc⟩, hnc, hb⟩
set_option maxRecDepth 100000 in
set_option maxHeartbeats 4000000 in
theorem cycles43 {w : World} {R cap : Nat} {A : Option Addr} {need win keep now : Int} {P : List (Int × Int)} (hR : RefR w R need win keep now A cap P) (a lo hi : Int) : Calls Tryd.prog 43 #[.pointer (some ⟨R, 0, none⟩), .int .i64 a, .int .i64 lo, .int .i64 hi] w (RowP w (cycF a lo hi P)) := by
  obtain ⟨i0, hi0, hz0, hz1, hz2⟩ := info_parts int_info
  have HR := Lib.hid hR
  have r4 := hR.c4
  have hl := hR.len
  have hRl := hR.lt
  clear hR
  go_enter Tryd.func43, Tryd.ntmps43
  go_wp2_with fail
  go_loopw [9, 10, 11] (fun v i _ wr => ∃ k : Nat, k ≤ P.length ∧ i = .int .i64 k ∧ Acc .i64 wr w.heap.size 3 1 v (cycF a lo hi (P.take k)).length (cycF a lo hi (P.take k)) ∧ Below w.heap.size w wr) (fun _ i _ _ => P.length - (intOf i).toNat)
  case atStart => exact ⟨0, Nat.zero_le _, rfl, Acc.nil _ _ _ _ _, Below.refl _ _⟩
  case round =>
    obtain ⟨k, hk, rfl, hacc, hb⟩ := hrel
    have HACC := Lib.hid hacc
    have HB := Lib.hid hb
    have r4' : wr.cell? ⟨R, 4, none⟩ = some (.slice A P.length cap) := (hb.cell (p := ⟨R, 4, none⟩) hRl).trans r4
    clear hacc
    by_cases hlt : k < P.length
    · obtain ⟨b, off, rfl, hbb, c1, c2⟩ := (HR.out.below hb).at_ hlt
      have hltI : (k : Int) < (P.length : Int) := by omega
      obtain ⟨h1, e1⟩ : ∃ x, x = stl P k := ⟨_, rfl⟩
      obtain ⟨h2, e2⟩ : ∃ x, x = sth P k := ⟨_, rfl⟩
      rw [← e1] at c1
      rw [← e2] at c2
      have hstep := cyc_take a lo hi P k hlt
      rw [← e1, ← e2] at hstep
      have hln := cycF_len a lo hi (P.take k)
      have hln2 := List.length_take_le k P
      obtain ⟨l, hel⟩ : ∃ l, l = cycF a lo hi (P.take k) := ⟨_, rfl⟩
      rw [← hel] at HACC hstep hln
      have hln : l.length ≤ 1000 := by omega
      have HST := Lib.hid hstep
      have hb1 := below_alloc1 wr (.cells #[.int .i64 h1, .int .i64 h2] 33)
      have HB1 := Lib.hid ((HB.out.trans (hb1.mono hb.size)))
      have HA1 := Lib.hid (HACC.out.below hb1)
      have hsz := hb.size
      clear hstep e1 e2 hel hln2 hb
      cases q1 : (h1 == a) with
      | false =>
        have hs : cycF a lo hi (P.take (k + 1)) = l := by rw [HST.out]; unfold cycStep; rw [if_neg]; rintro ⟨g, -⟩; exact (show ¬ h1 = a by simpa using q1) g
        have HS := Lib.hid hs
        clear hs hb1
        go_wp2_with fail
        go_quiet (fail)
        go_wp2_with fail
        exact ⟨⟨k + 1, by omega, by go_num, by rw [HS.out]; exact HA1.out, below_drewN HB1.out _⟩, by simp [intOf]; omega⟩
      | true =>
        cases q2 : decide (lo ≤ h2) with
        | false =>
          have hs : cycF a lo hi (P.take (k + 1)) = l := by rw [HST.out]; unfold cycStep; rw [if_neg]; rintro ⟨-, g, -⟩; exact of_decide_eq_false q2 g
          have HS := Lib.hid hs
          clear hs hb1
          go_wp2_with fail
          go_quiet (fail)
          go_wp2_with fail
          exact ⟨⟨k + 1, by omega, by go_num, by rw [HS.out]; exact HA1.out, below_drewN HB1.out _⟩, by simp [intOf]; omega⟩
        | true =>
          cases q3 : decide (h2 ≤ hi) with
          | false =>
            have hs : cycF a lo hi (P.take (k + 1)) = l := by rw [HST.out]; unfold cycStep; rw [if_neg]; rintro ⟨-, -, g, -⟩; exact of_decide_eq_false q3 g
            have HS := Lib.hid hs
            clear hs hb1
            go_wp2_with fail
            go_quiet (fail)
            go_wp2_with fail
            exact ⟨⟨k + 1, by omega, by go_num, by rw [HS.out]; exact HA1.out, below_drewN HB1.out _⟩, by simp [intOf]; omega⟩
          | true =>
            have g1 : h1 = a ∧ lo ≤ h2 ∧ h2 ≤ hi := ⟨by simpa using q1, of_decide_eq_true q2, of_decide_eq_true q3⟩
            obtain ⟨A0, c0, rfl⟩ := HACC.out.shape
            by_cases hnil : l = []
            · have hs : cycF a lo hi (P.take (k + 1)) = l ++ [h2] := by rw [HST.out]; unfold cycStep; rw [if_pos ⟨g1.1, g1.2.1, g1.2.2, .inl hnil⟩]
              have HS := Lib.hid hs
              have q4 : ((l.length : Int) == 0) = true := by simp [hnil]
              clear hs g1 hb1 hnil
              go_wp2_with fail
              go_quiet (fail)
              go_wp2_with (first
                | (at_builtin; refine wpList_appH rfl _ _ 38 rfl .i64 w.heap.size 3 i0 _ 1 8 Tryd.underlying38 hi0 hz0 hz1 hz2 rfl (by decide) _ _ _ [h2] rfl (HA1.out.drewN _) _ rfl (wr.heap.size + 1) rfl (by simp) rfl (by omega) (by decide) (by have := HB1.out.size; exact this) ?_; intro v' w4 hacc4 hb4)
                | go_in)
              exact ⟨⟨k + 1, by omega, by go_num, by rw [HS.out, List.length_append]; exact hacc4, (below_drewN HB1.out _).trans hb4⟩, by simp [intOf]; omega⟩
            · have hlp : 0 < l.length := List.length_pos_iff.2 hnil
              have hlast : nth l (l.length - 1) = lastC l := by
                have := last_get hnil
                simp [nth, List.getD_eq_getElem?_getD, this]
              rcases HACC.out.slice with ⟨hn2, -⟩ | ⟨g, capl, cs, e0, hgB, hg, hnc, hsz2, hc⟩
              · exact absurd hn2 hnil
              injection e0 with e0 _ e3
              subst e0 e3
              have hgl : g < wr.heap.size := heap_lt hg
              have cl : (wr.alloc (.cells #[.int .i64 h1, .int .i64 h2] 33)).cell? ⟨g, l.length - 1, none⟩ = some (.int .i64 (lastC l)) := by
                rw [hb1.cell (p := ⟨g, l.length - 1, none⟩) hgl, cellOf hg, hc _ (by omega), hlast]
              have q4 : ((l.length : Int) == 0) = false := by rw [beq_eq_false_iff_ne]; omega
              have t1 : ((l.length : Int) - 1).toNat = l.length - 1 := by omega
              have t2 : (0 : Int) ≤ (l.length : Int) - 1 := by omega
              have t3 : (l.length : Int) - 1 < (l.length : Int) := by omega
              have HNL := Lib.hid hnil
              obtain ⟨la, hla⟩ : ∃ la, la = lastC l := ⟨_, rfl⟩
              rw [← hla] at cl
              have HLA := Lib.hid hla
              clear hnil hlast hc hb1 hla hgl
              cases q5 : (la != h2) with
              | true =>
                have hs : cycF a lo hi (P.take (k + 1)) = l ++ [h2] := by rw [HST.out]; unfold cycStep; rw [if_pos ⟨g1.1, g1.2.1, g1.2.2, .inr (by rw [← HLA.out]; simpa using q5)⟩]
                have HS := Lib.hid hs
                clear hs g1
                go_wp2_with fail
                go_quiet (fail)
                go_wp2_with (first
                  | (at_builtin; refine wpList_appH rfl _ _ 38 rfl .i64 w.heap.size 3 i0 _ 1 8 Tryd.underlying38 hi0 hz0 hz1 hz2 rfl (by decide) _ _ _ [h2] rfl (HA1.out.drewN _) _ rfl (wr.heap.size + 1) rfl (by simp) rfl (by omega) (by decide) (by have := HB1.out.size; exact this) ?_; intro v' w4 hacc4 hb4)
                  | go_in)
                exact ⟨⟨k + 1, by omega, by go_num, by rw [HS.out, List.length_append]; exact hacc4, (below_drewN HB1.out _).trans hb4⟩, by simp [intOf]; omega⟩
              | false =>
                have hs : cycF a lo hi (P.take (k + 1)) = l := by
                  rw [HST.out]; unfold cycStep; rw [if_neg]; rintro ⟨-, -, -, g⟩
                  rcases g with g | g
                  · exact HNL.out g
                  · rw [← HLA.out] at g; simp at q5; exact g q5
                have HS := Lib.hid hs
                clear hs g1
                go_wp2_with fail
                go_quiet (fail)
                go_wp2_with fail
                exact ⟨⟨k + 1, by omega, by go_num, by rw [HS.out]; exact HA1.out, below_drewN HB1.out _⟩, by simp [intOf]; omega⟩
    · obtain rfl : k = P.length := by omega
      rw [List.take_length] at HACC
      clear hlt hb
      go_wp2_with fail
      go_ret
      exact RowP.of HACC.out HB.out
end Go.Proofs.YtkikokldijccnaaDoor
