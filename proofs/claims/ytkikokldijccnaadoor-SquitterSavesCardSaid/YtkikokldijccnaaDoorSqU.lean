/- squitter: what the law History asks: HasInt, through; one table. -/
import Derived.Test.YtkikokldijccnaaDoorRows
import Derived.WalkKit
import Derived.WalkLawsBesides
import Derived.WalkSpells
import Derived.ProofKit
import Derived.Below
import Derived.Outline
import Derived.Lib.Hide
import Derived.Deep.RegionWith
import Derived.Deep.RegionHeld3
import Derived.Deep.DrawnRows
import Derived.StillTailTactics
import Derived.BigQuiet
import Derived.Deep.QuietTactic
import Derived.Deep.LoopGhost
import Derived.IntWalk
import Derived.BigQuiet
import Derived.Lib.MinMax
import Derived.Test.YtkikokldijccnaaDoorSqAw
namespace Go.Proofs.YtkikokldijccnaaDoor
open Go.RowKit Go.Maps
attribute [local go_sem ↓] Go.wp_at_zero Go.wp_at_succ
attribute [local go_sem] wrap_lit
theorem mem_nth {l : List Int} {x : Int} : x ∈ l ↔ ∃ j, j < l.length ∧ nth l j = x := by
  constructor
  · intro h
    obtain ⟨j, hj, e⟩ := List.getElem_of_mem h
    exact ⟨j, hj, by simp [nth, List.getD_eq_getElem?_getD, hj, e]⟩
  · rintro ⟨j, hj, rfl⟩
    simp [nth, List.getD_eq_getElem?_getD, hj]
set_option maxHeartbeats 1000000 in
theorem hasInt24 {w : World} (A : Option Addr) (cap : Nat) (l : List Int) (x : Int) (hA : Is .i64 w w.heap.size A l) (hl : l.length ≤ 1000000) : Calls Tryd.prog 24 #[.slice A l.length cap, .int .i64 x] w fun e w' => e = .returned (.bool (decide (x ∈ l))) ∧ w' = w := by
  have HA := Lib.hid hA
  clear hA
  go_enter Tryd.func24, Tryd.ntmps24
  go_wp2_with fail
  go_loop [5] (fun i => ∃ k : Nat, k ≤ l.length ∧ i = .int .i64 k ∧ ∀ r, r < k → nth l r ≠ x) (fun i => l.length - (intOf i).toNat)
  case atStart => exact ⟨0, Nat.zero_le _, rfl, fun r h => absurd h (by omega)⟩
  case round =>
    obtain ⟨k, hk, rfl, hall⟩ := hrel
    have Hall := Lib.hid hall
    clear hall
    by_cases hlt : k < l.length
    · obtain ⟨b, off, rfl, hb, hc⟩ := HA.out (by omega)
      have hck := hc k hlt
      have hltI : (k : Int) < (l.length : Int) := by omega
      obtain ⟨v, hv⟩ : ∃ v, v = nth l k := ⟨_, rfl⟩
      rw [← hv] at hck
      have HV := Lib.hid hv
      clear hc hv
      by_cases hx : v = x
      · have qx : (v == x) = true := by simpa using hx
        have hmem : x ∈ l := mem_nth.2 ⟨k, hlt, by rw [← HV.out, hx]⟩
        have HM := Lib.hid (decide_eq_true hmem)
        clear hmem
        go_wp2_with fail
        go_ret
        exact ⟨by rw [HM.out]; rfl, rfl⟩
      · have qx : (v == x) = false := by simpa using hx
        have HX := Lib.hid hx
        clear hx
        go_wp2_with fail
        refine ⟨⟨k + 1, by omega, by go_num, fun r hr => ?_⟩, by simp [intOf]; omega⟩
        by_cases e : r = k
        · subst e; rw [← HV.out]; exact HX.out
        · exact Hall.out r (by omega)
    · obtain rfl : k = l.length := by omega
      have hmem : ¬ x ∈ l := fun h => by
        obtain ⟨j, hj, e⟩ := mem_nth.1 h
        exact Hall.out j hj e
      have HM := Lib.hid (decide_eq_false hmem)
      clear hmem
      go_wp2_with fail
      go_ret
      exact ⟨by rw [HM.out]; rfl, rfl⟩
theorem thrN_bd (H : Int → Bool) (need win keep : Int) : ∀ m : Nat, -1 ≤ (thrN H need win keep m).1 ∧ (thrN H need win keep m).1 < (m : Int)
  | 0 => ⟨Int.le_refl _, (show (-1 : Int) < 0 by decide)⟩
  | m + 1 => by
    obtain ⟨h1, h2⟩ := thrN_bd H need win keep m
    show -1 ≤ (thrStep H need win keep m (thrN H need win keep m)).1 ∧ (thrStep H need win keep m (thrN H need win keep m)).1 < _
    unfold thrStep
    split
    · exact ⟨(show (-1 : Int) ≤ (m : Int) by omega), (show (m : Int) < ((m + 1 : Nat) : Int) by omega)⟩
    · exact ⟨h1, (show (thrN H need win keep m).1 < ((m + 1 : Nat) : Int) by omega)⟩
theorem cntH_bd (H : Int → Bool) (lo : Int) : ∀ n : Nat, 0 ≤ cntH H lo n ∧ cntH H lo n ≤ n
  | 0 => ⟨Int.le_refl _, Int.le_refl _⟩
  | n + 1 => by
    obtain ⟨h1, h2⟩ := cntH_bd H lo n
    unfold cntH
    split <;> omega
/-- the round of a cycle that is heard: what is known after it -/
def nxB (H : Int → Bool) (need win s : Int) (kb : Bool) : Bool := kb || decide (need ≤ cntH H (max 0 (s - win + 1)) (s + 1 - max 0 (s - win + 1)).toNat)
set_option maxRecDepth 100000 in
set_option maxHeartbeats 4000000 in
theorem through23 {w : World} {g : Nat} {H : Int → Bool} (need win keep : Int) (m : Nat) (hc : ∀ j : Nat, j < 301 → w.cell? ⟨g, j, none⟩ = some (.bool (H j))) (hm : m ≤ 300) (hw0 : 1 ≤ win) (hw1 : win ≤ 1024) : Calls Tryd.prog 23 #[.slice (some ⟨g, 0, none⟩) 301 301, .int .i64 need, .int .i64 win, .int .i64 keep, .int .i64 m] w fun e w' => e = .returned (.tuple #[.bool (thrN H need win keep (m + 1)).2, .bool (decide (0 ≤ (thrN H need win keep (m + 1)).1) && decide ((m : Int) - win < (thrN H need win keep (m + 1)).1))]) ∧ w' = w := by
  have HC := Lib.hid hc
  clear hc
  go_enter Tryd.func23, Tryd.ntmps23
  go_wp2_with fail
  go_loop [10, 12, 13, 14, 15] (fun kn la ss _ _ => ∃ s : Nat, s ≤ m + 1 ∧ kn = .bool (thrN H need win keep s).2 ∧ la = .int .i64 (thrN H need win keep s).1 ∧ ss = .int .i64 s) (fun _ _ ss _ _ => m + 1 - (intOf ss).toNat)
  case atStart => exact ⟨0, Nat.zero_le _, rfl, rfl, rfl⟩
  case round =>
    obtain ⟨s, hs, rfl, rfl, rfl⟩ := hrel
    obtain ⟨l0, l1⟩ := thrN_bd H need win keep s
    have hS : thrN H need win keep (s + 1) = thrStep H need win keep s (thrN H need win keep s) := rfl
    obtain ⟨last, kb, hst⟩ : ∃ last kb, thrN H need win keep s = (last, kb) := ⟨_, _, rfl⟩
    rw [hst] at hS l0 l1 ⊢
    replace l0 : -1 ≤ last := l0
    replace l1 : last < (s : Int) := l1
    have HT := Lib.hid hst
    clear hst
    by_cases hsm : s ≤ m
    · have HS := Lib.hid hS
      have hcs := HC.out s (by omega)
      have hsI : (s : Int) ≤ (m : Int) := by omega
      have hs3 : s < 301 := by omega
      clear hS
      cases hH : H (s : Int) with
      | true =>
        rw [hH] at hcs
        cases kb with
        | true =>
          cases q1 : decide (0 ≤ last) with
          | false =>
            have HR : Hid ((thrN H need win keep (s + 1)).2 = nxB H need win s true) := Lib.hid (by rw [HS.out]; unfold thrStep nxB; rw [hH]; simp [q1])
            have HL : Hid ((thrN H need win keep (s + 1)).1 = (s : Int)) := Lib.hid (by rw [HS.out]; unfold thrStep; rw [hH]; simp)
            clear HS
            go_wp2_with fail
            obtain ⟨lo, hlo⟩ : ∃ lo : Nat, (lo : Int) = max 0 ((s : Int) - win + 1) := ⟨(max 0 ((s : Int) - win + 1)).toNat, by omega⟩
            rw [← hlo]
            have hlo1 : lo ≤ s + 1 := by omega
            have HLO := Lib.hid hlo
            clear hlo
            go_loop [14, 15] (fun n k => ∃ j : Nat, lo + j ≤ s + 1 ∧ n = .int .i64 (cntH H lo j) ∧ k = .int .i64 ((lo + j : Nat) : Int)) (fun _ k => s + 1 - (intOf k).toNat)
            case atStart => exact ⟨0, hlo1, rfl, rfl⟩
            case round =>
              obtain ⟨j, hj, rfl, rfl⟩ := hrel
              obtain ⟨cj0, cj1⟩ := cntH_bd H lo j
              by_cases hjs : lo + j ≤ s
              · have hcj := HC.out (lo + j) (by omega)
                have hj0 : lo + j < 301 := by omega
                have hj1 : ((lo + j : Nat) : Int) ≤ (s : Int) := by omega
                obtain ⟨kk, hkk⟩ : ∃ kk : Nat, kk = lo + j := ⟨_, rfl⟩
                obtain ⟨cn, hcn⟩ : ∃ cn : Int, cn = cntH H lo j := ⟨_, rfl⟩
                rw [← hkk] at hcj hj0 hj1 ⊢
                rw [← hcn] at cj0 cj1 ⊢
                have HK := Lib.hid (And.intro hkk hcn)
                clear hkk hcn
                have hstep : ∀ b, H kk = b → cntH H lo (j + 1) = cn + (if b then 1 else 0) := fun b hb => by
                  unfold cntH
                  rw [HK.out.2, ← hb, HK.out.1, Int.natCast_add]
                have HST := Lib.hid hstep
                clear hstep
                cases hb : H (kk : Int) with
                | true =>
                  rw [hb] at hcj
                  have HB := Lib.hid (HST.out true hb)
                  clear hb
                  go_wp2_with fail
                  exact ⟨⟨j + 1, by have := HK.out.1; omega, by rw [HB.out]; go_num, by have := HK.out.1; subst this; go_num⟩, by simp [intOf]; omega⟩
                | false =>
                  rw [hb] at hcj
                  have HB := Lib.hid (HST.out false hb)
                  clear hb
                  go_wp2_with fail
                  exact ⟨⟨j + 1, by have := HK.out.1; omega, by rw [HB.out]; simp, by have := HK.out.1; subst this; go_num⟩, by simp [intOf]; omega⟩
              · have hje : lo + j = s + 1 := by omega
                have hjn : j = ((s : Int) + 1 - max 0 ((s : Int) - win + 1)).toNat := by have := HLO.out; omega
                have hN : nxB H need win s true = (true || decide (need ≤ cntH H lo j)) := by unfold nxB; rw [← hjn, ← HLO.out]
                rw [hje]
                have HN := Lib.hid hN
                clear hN hjn hje
                obtain ⟨cn, hcn⟩ : ∃ cn : Int, cn = cntH H lo j := ⟨_, rfl⟩
                rw [← hcn] at cj0 cj1 HN ⊢
                clear hcn
                go_wp2_with fail
                refine ⟨⟨s + 1, by omega, ?_, ?_, by go_num⟩, by simp [intOf]; omega⟩
                · rw [HR.out, HN.out]; rfl
                · rw [HL.out]
          | true =>
            cases q2 : decide (keep ≤ (s : Int) - last) with
            | true =>
              have HR : Hid ((thrN H need win keep (s + 1)).2 = nxB H need win s false) := Lib.hid (by rw [HS.out]; unfold thrStep nxB; rw [hH]; simp [q1, q2])
              have HL : Hid ((thrN H need win keep (s + 1)).1 = (s : Int)) := Lib.hid (by rw [HS.out]; unfold thrStep; rw [hH]; simp)
              clear HS
              go_wp2_with fail
              obtain ⟨lo, hlo⟩ : ∃ lo : Nat, (lo : Int) = max 0 ((s : Int) - win + 1) := ⟨(max 0 ((s : Int) - win + 1)).toNat, by omega⟩
              rw [← hlo]
              have hlo1 : lo ≤ s + 1 := by omega
              have HLO := Lib.hid hlo
              clear hlo
              go_loop [14, 15] (fun n k => ∃ j : Nat, lo + j ≤ s + 1 ∧ n = .int .i64 (cntH H lo j) ∧ k = .int .i64 ((lo + j : Nat) : Int)) (fun _ k => s + 1 - (intOf k).toNat)
              case atStart => exact ⟨0, hlo1, rfl, rfl⟩
              case round =>
                obtain ⟨j, hj, rfl, rfl⟩ := hrel
                obtain ⟨cj0, cj1⟩ := cntH_bd H lo j
                by_cases hjs : lo + j ≤ s
                · have hcj := HC.out (lo + j) (by omega)
                  have hj0 : lo + j < 301 := by omega
                  have hj1 : ((lo + j : Nat) : Int) ≤ (s : Int) := by omega
                  obtain ⟨kk, hkk⟩ : ∃ kk : Nat, kk = lo + j := ⟨_, rfl⟩
                  obtain ⟨cn, hcn⟩ : ∃ cn : Int, cn = cntH H lo j := ⟨_, rfl⟩
                  rw [← hkk] at hcj hj0 hj1 ⊢
                  rw [← hcn] at cj0 cj1 ⊢
                  have HK := Lib.hid (And.intro hkk hcn)
                  clear hkk hcn
                  have hstep : ∀ b, H kk = b → cntH H lo (j + 1) = cn + (if b then 1 else 0) := fun b hb => by
                    unfold cntH
                    rw [HK.out.2, ← hb, HK.out.1, Int.natCast_add]
                  have HST := Lib.hid hstep
                  clear hstep
                  cases hb : H (kk : Int) with
                  | true =>
                    rw [hb] at hcj
                    have HB := Lib.hid (HST.out true hb)
                    clear hb
                    go_wp2_with fail
                    exact ⟨⟨j + 1, by have := HK.out.1; omega, by rw [HB.out]; go_num, by have := HK.out.1; subst this; go_num⟩, by simp [intOf]; omega⟩
                  | false =>
                    rw [hb] at hcj
                    have HB := Lib.hid (HST.out false hb)
                    clear hb
                    go_wp2_with fail
                    exact ⟨⟨j + 1, by have := HK.out.1; omega, by rw [HB.out]; simp, by have := HK.out.1; subst this; go_num⟩, by simp [intOf]; omega⟩
                · have hje : lo + j = s + 1 := by omega
                  have hjn : j = ((s : Int) + 1 - max 0 ((s : Int) - win + 1)).toNat := by have := HLO.out; omega
                  have hN : nxB H need win s false = (false || decide (need ≤ cntH H lo j)) := by unfold nxB; rw [← hjn, ← HLO.out]
                  rw [hje]
                  have HN := Lib.hid hN
                  clear hN hjn hje
                  obtain ⟨cn, hcn⟩ : ∃ cn : Int, cn = cntH H lo j := ⟨_, rfl⟩
                  rw [← hcn] at cj0 cj1 HN ⊢
                  clear hcn
                  cases hd : decide (need ≤ cn) with
                  | true =>
                    go_wp2_with fail
                    refine ⟨⟨s + 1, by omega, ?_, ?_, by go_num⟩, by simp [intOf]; omega⟩
                    · rw [HR.out, HN.out, hd]; rfl
                    · rw [HL.out]
                  | false =>
                    go_wp2_with fail
                    refine ⟨⟨s + 1, by omega, ?_, ?_, by go_num⟩, by simp [intOf]; omega⟩
                    · rw [HR.out, HN.out, hd]; rfl
                    · rw [HL.out]
            | false =>
              have HR : Hid ((thrN H need win keep (s + 1)).2 = nxB H need win s true) := Lib.hid (by rw [HS.out]; unfold thrStep nxB; rw [hH]; simp [q1, q2])
              have HL : Hid ((thrN H need win keep (s + 1)).1 = (s : Int)) := Lib.hid (by rw [HS.out]; unfold thrStep; rw [hH]; simp)
              clear HS
              go_wp2_with fail
              obtain ⟨lo, hlo⟩ : ∃ lo : Nat, (lo : Int) = max 0 ((s : Int) - win + 1) := ⟨(max 0 ((s : Int) - win + 1)).toNat, by omega⟩
              rw [← hlo]
              have hlo1 : lo ≤ s + 1 := by omega
              have HLO := Lib.hid hlo
              clear hlo
              go_loop [14, 15] (fun n k => ∃ j : Nat, lo + j ≤ s + 1 ∧ n = .int .i64 (cntH H lo j) ∧ k = .int .i64 ((lo + j : Nat) : Int)) (fun _ k => s + 1 - (intOf k).toNat)
              case atStart => exact ⟨0, hlo1, rfl, rfl⟩
              case round =>
                obtain ⟨j, hj, rfl, rfl⟩ := hrel
                obtain ⟨cj0, cj1⟩ := cntH_bd H lo j
                by_cases hjs : lo + j ≤ s
                · have hcj := HC.out (lo + j) (by omega)
                  have hj0 : lo + j < 301 := by omega
                  have hj1 : ((lo + j : Nat) : Int) ≤ (s : Int) := by omega
                  obtain ⟨kk, hkk⟩ : ∃ kk : Nat, kk = lo + j := ⟨_, rfl⟩
                  obtain ⟨cn, hcn⟩ : ∃ cn : Int, cn = cntH H lo j := ⟨_, rfl⟩
                  rw [← hkk] at hcj hj0 hj1 ⊢
                  rw [← hcn] at cj0 cj1 ⊢
                  have HK := Lib.hid (And.intro hkk hcn)
                  clear hkk hcn
                  have hstep : ∀ b, H kk = b → cntH H lo (j + 1) = cn + (if b then 1 else 0) := fun b hb => by
                    unfold cntH
                    rw [HK.out.2, ← hb, HK.out.1, Int.natCast_add]
                  have HST := Lib.hid hstep
                  clear hstep
                  cases hb : H (kk : Int) with
                  | true =>
                    rw [hb] at hcj
                    have HB := Lib.hid (HST.out true hb)
                    clear hb
                    go_wp2_with fail
                    exact ⟨⟨j + 1, by have := HK.out.1; omega, by rw [HB.out]; go_num, by have := HK.out.1; subst this; go_num⟩, by simp [intOf]; omega⟩
                  | false =>
                    rw [hb] at hcj
                    have HB := Lib.hid (HST.out false hb)
                    clear hb
                    go_wp2_with fail
                    exact ⟨⟨j + 1, by have := HK.out.1; omega, by rw [HB.out]; simp, by have := HK.out.1; subst this; go_num⟩, by simp [intOf]; omega⟩
                · have hje : lo + j = s + 1 := by omega
                  have hjn : j = ((s : Int) + 1 - max 0 ((s : Int) - win + 1)).toNat := by have := HLO.out; omega
                  have hN : nxB H need win s true = (true || decide (need ≤ cntH H lo j)) := by unfold nxB; rw [← hjn, ← HLO.out]
                  rw [hje]
                  have HN := Lib.hid hN
                  clear hN hjn hje
                  obtain ⟨cn, hcn⟩ : ∃ cn : Int, cn = cntH H lo j := ⟨_, rfl⟩
                  rw [← hcn] at cj0 cj1 HN ⊢
                  clear hcn
                  go_wp2_with fail
                  refine ⟨⟨s + 1, by omega, ?_, ?_, by go_num⟩, by simp [intOf]; omega⟩
                  · rw [HR.out, HN.out]; rfl
                  · rw [HL.out]
        | false =>
          cases q1 : decide (0 ≤ last) with
          | false =>
            have HR : Hid ((thrN H need win keep (s + 1)).2 = nxB H need win s false) := Lib.hid (by rw [HS.out]; unfold thrStep nxB; rw [hH]; simp [q1])
            have HL : Hid ((thrN H need win keep (s + 1)).1 = (s : Int)) := Lib.hid (by rw [HS.out]; unfold thrStep; rw [hH]; simp)
            clear HS
            go_wp2_with fail
            obtain ⟨lo, hlo⟩ : ∃ lo : Nat, (lo : Int) = max 0 ((s : Int) - win + 1) := ⟨(max 0 ((s : Int) - win + 1)).toNat, by omega⟩
            rw [← hlo]
            have hlo1 : lo ≤ s + 1 := by omega
            have HLO := Lib.hid hlo
            clear hlo
            go_loop [14, 15] (fun n k => ∃ j : Nat, lo + j ≤ s + 1 ∧ n = .int .i64 (cntH H lo j) ∧ k = .int .i64 ((lo + j : Nat) : Int)) (fun _ k => s + 1 - (intOf k).toNat)
            case atStart => exact ⟨0, hlo1, rfl, rfl⟩
            case round =>
              obtain ⟨j, hj, rfl, rfl⟩ := hrel
              obtain ⟨cj0, cj1⟩ := cntH_bd H lo j
              by_cases hjs : lo + j ≤ s
              · have hcj := HC.out (lo + j) (by omega)
                have hj0 : lo + j < 301 := by omega
                have hj1 : ((lo + j : Nat) : Int) ≤ (s : Int) := by omega
                obtain ⟨kk, hkk⟩ : ∃ kk : Nat, kk = lo + j := ⟨_, rfl⟩
                obtain ⟨cn, hcn⟩ : ∃ cn : Int, cn = cntH H lo j := ⟨_, rfl⟩
                rw [← hkk] at hcj hj0 hj1 ⊢
                rw [← hcn] at cj0 cj1 ⊢
                have HK := Lib.hid (And.intro hkk hcn)
                clear hkk hcn
                have hstep : ∀ b, H kk = b → cntH H lo (j + 1) = cn + (if b then 1 else 0) := fun b hb => by
                  unfold cntH
                  rw [HK.out.2, ← hb, HK.out.1, Int.natCast_add]
                have HST := Lib.hid hstep
                clear hstep
                cases hb : H (kk : Int) with
                | true =>
                  rw [hb] at hcj
                  have HB := Lib.hid (HST.out true hb)
                  clear hb
                  go_wp2_with fail
                  exact ⟨⟨j + 1, by have := HK.out.1; omega, by rw [HB.out]; go_num, by have := HK.out.1; subst this; go_num⟩, by simp [intOf]; omega⟩
                | false =>
                  rw [hb] at hcj
                  have HB := Lib.hid (HST.out false hb)
                  clear hb
                  go_wp2_with fail
                  exact ⟨⟨j + 1, by have := HK.out.1; omega, by rw [HB.out]; simp, by have := HK.out.1; subst this; go_num⟩, by simp [intOf]; omega⟩
              · have hje : lo + j = s + 1 := by omega
                have hjn : j = ((s : Int) + 1 - max 0 ((s : Int) - win + 1)).toNat := by have := HLO.out; omega
                have hN : nxB H need win s false = (false || decide (need ≤ cntH H lo j)) := by unfold nxB; rw [← hjn, ← HLO.out]
                rw [hje]
                have HN := Lib.hid hN
                clear hN hjn hje
                obtain ⟨cn, hcn⟩ : ∃ cn : Int, cn = cntH H lo j := ⟨_, rfl⟩
                rw [← hcn] at cj0 cj1 HN ⊢
                clear hcn
                cases hd : decide (need ≤ cn) with
                | true =>
                  go_wp2_with fail
                  refine ⟨⟨s + 1, by omega, ?_, ?_, by go_num⟩, by simp [intOf]; omega⟩
                  · rw [HR.out, HN.out, hd]; rfl
                  · rw [HL.out]
                | false =>
                  go_wp2_with fail
                  refine ⟨⟨s + 1, by omega, ?_, ?_, by go_num⟩, by simp [intOf]; omega⟩
                  · rw [HR.out, HN.out, hd]; rfl
                  · rw [HL.out]
          | true =>
            cases q2 : decide (keep ≤ (s : Int) - last) with
            | true =>
              have HR : Hid ((thrN H need win keep (s + 1)).2 = nxB H need win s false) := Lib.hid (by rw [HS.out]; unfold thrStep nxB; rw [hH]; simp [q1, q2])
              have HL : Hid ((thrN H need win keep (s + 1)).1 = (s : Int)) := Lib.hid (by rw [HS.out]; unfold thrStep; rw [hH]; simp)
              clear HS
              go_wp2_with fail
              obtain ⟨lo, hlo⟩ : ∃ lo : Nat, (lo : Int) = max 0 ((s : Int) - win + 1) := ⟨(max 0 ((s : Int) - win + 1)).toNat, by omega⟩
              rw [← hlo]
              have hlo1 : lo ≤ s + 1 := by omega
              have HLO := Lib.hid hlo
              clear hlo
              go_loop [14, 15] (fun n k => ∃ j : Nat, lo + j ≤ s + 1 ∧ n = .int .i64 (cntH H lo j) ∧ k = .int .i64 ((lo + j : Nat) : Int)) (fun _ k => s + 1 - (intOf k).toNat)
              case atStart => exact ⟨0, hlo1, rfl, rfl⟩
              case round =>
                obtain ⟨j, hj, rfl, rfl⟩ := hrel
                obtain ⟨cj0, cj1⟩ := cntH_bd H lo j
                by_cases hjs : lo + j ≤ s
                · have hcj := HC.out (lo + j) (by omega)
                  have hj0 : lo + j < 301 := by omega
                  have hj1 : ((lo + j : Nat) : Int) ≤ (s : Int) := by omega
                  obtain ⟨kk, hkk⟩ : ∃ kk : Nat, kk = lo + j := ⟨_, rfl⟩
                  obtain ⟨cn, hcn⟩ : ∃ cn : Int, cn = cntH H lo j := ⟨_, rfl⟩
                  rw [← hkk] at hcj hj0 hj1 ⊢
                  rw [← hcn] at cj0 cj1 ⊢
                  have HK := Lib.hid (And.intro hkk hcn)
                  clear hkk hcn
                  have hstep : ∀ b, H kk = b → cntH H lo (j + 1) = cn + (if b then 1 else 0) := fun b hb => by
                    unfold cntH
                    rw [HK.out.2, ← hb, HK.out.1, Int.natCast_add]
                  have HST := Lib.hid hstep
                  clear hstep
                  cases hb : H (kk : Int) with
                  | true =>
                    rw [hb] at hcj
                    have HB := Lib.hid (HST.out true hb)
                    clear hb
                    go_wp2_with fail
                    exact ⟨⟨j + 1, by have := HK.out.1; omega, by rw [HB.out]; go_num, by have := HK.out.1; subst this; go_num⟩, by simp [intOf]; omega⟩
                  | false =>
                    rw [hb] at hcj
                    have HB := Lib.hid (HST.out false hb)
                    clear hb
                    go_wp2_with fail
                    exact ⟨⟨j + 1, by have := HK.out.1; omega, by rw [HB.out]; simp, by have := HK.out.1; subst this; go_num⟩, by simp [intOf]; omega⟩
                · have hje : lo + j = s + 1 := by omega
                  have hjn : j = ((s : Int) + 1 - max 0 ((s : Int) - win + 1)).toNat := by have := HLO.out; omega
                  have hN : nxB H need win s false = (false || decide (need ≤ cntH H lo j)) := by unfold nxB; rw [← hjn, ← HLO.out]
                  rw [hje]
                  have HN := Lib.hid hN
                  clear hN hjn hje
                  obtain ⟨cn, hcn⟩ : ∃ cn : Int, cn = cntH H lo j := ⟨_, rfl⟩
                  rw [← hcn] at cj0 cj1 HN ⊢
                  clear hcn
                  cases hd : decide (need ≤ cn) with
                  | true =>
                    go_wp2_with fail
                    refine ⟨⟨s + 1, by omega, ?_, ?_, by go_num⟩, by simp [intOf]; omega⟩
                    · rw [HR.out, HN.out, hd]; rfl
                    · rw [HL.out]
                  | false =>
                    go_wp2_with fail
                    refine ⟨⟨s + 1, by omega, ?_, ?_, by go_num⟩, by simp [intOf]; omega⟩
                    · rw [HR.out, HN.out, hd]; rfl
                    · rw [HL.out]
            | false =>
              have HR : Hid ((thrN H need win keep (s + 1)).2 = nxB H need win s false) := Lib.hid (by rw [HS.out]; unfold thrStep nxB; rw [hH]; simp [q1, q2])
              have HL : Hid ((thrN H need win keep (s + 1)).1 = (s : Int)) := Lib.hid (by rw [HS.out]; unfold thrStep; rw [hH]; simp)
              clear HS
              go_wp2_with fail
              obtain ⟨lo, hlo⟩ : ∃ lo : Nat, (lo : Int) = max 0 ((s : Int) - win + 1) := ⟨(max 0 ((s : Int) - win + 1)).toNat, by omega⟩
              rw [← hlo]
              have hlo1 : lo ≤ s + 1 := by omega
              have HLO := Lib.hid hlo
              clear hlo
              go_loop [14, 15] (fun n k => ∃ j : Nat, lo + j ≤ s + 1 ∧ n = .int .i64 (cntH H lo j) ∧ k = .int .i64 ((lo + j : Nat) : Int)) (fun _ k => s + 1 - (intOf k).toNat)
              case atStart => exact ⟨0, hlo1, rfl, rfl⟩
              case round =>
                obtain ⟨j, hj, rfl, rfl⟩ := hrel
                obtain ⟨cj0, cj1⟩ := cntH_bd H lo j
                by_cases hjs : lo + j ≤ s
                · have hcj := HC.out (lo + j) (by omega)
                  have hj0 : lo + j < 301 := by omega
                  have hj1 : ((lo + j : Nat) : Int) ≤ (s : Int) := by omega
                  obtain ⟨kk, hkk⟩ : ∃ kk : Nat, kk = lo + j := ⟨_, rfl⟩
                  obtain ⟨cn, hcn⟩ : ∃ cn : Int, cn = cntH H lo j := ⟨_, rfl⟩
                  rw [← hkk] at hcj hj0 hj1 ⊢
                  rw [← hcn] at cj0 cj1 ⊢
                  have HK := Lib.hid (And.intro hkk hcn)
                  clear hkk hcn
                  have hstep : ∀ b, H kk = b → cntH H lo (j + 1) = cn + (if b then 1 else 0) := fun b hb => by
                    unfold cntH
                    rw [HK.out.2, ← hb, HK.out.1, Int.natCast_add]
                  have HST := Lib.hid hstep
                  clear hstep
                  cases hb : H (kk : Int) with
                  | true =>
                    rw [hb] at hcj
                    have HB := Lib.hid (HST.out true hb)
                    clear hb
                    go_wp2_with fail
                    exact ⟨⟨j + 1, by have := HK.out.1; omega, by rw [HB.out]; go_num, by have := HK.out.1; subst this; go_num⟩, by simp [intOf]; omega⟩
                  | false =>
                    rw [hb] at hcj
                    have HB := Lib.hid (HST.out false hb)
                    clear hb
                    go_wp2_with fail
                    exact ⟨⟨j + 1, by have := HK.out.1; omega, by rw [HB.out]; simp, by have := HK.out.1; subst this; go_num⟩, by simp [intOf]; omega⟩
                · have hje : lo + j = s + 1 := by omega
                  have hjn : j = ((s : Int) + 1 - max 0 ((s : Int) - win + 1)).toNat := by have := HLO.out; omega
                  have hN : nxB H need win s false = (false || decide (need ≤ cntH H lo j)) := by unfold nxB; rw [← hjn, ← HLO.out]
                  rw [hje]
                  have HN := Lib.hid hN
                  clear hN hjn hje
                  obtain ⟨cn, hcn⟩ : ∃ cn : Int, cn = cntH H lo j := ⟨_, rfl⟩
                  rw [← hcn] at cj0 cj1 HN ⊢
                  clear hcn
                  cases hd : decide (need ≤ cn) with
                  | true =>
                    go_wp2_with fail
                    refine ⟨⟨s + 1, by omega, ?_, ?_, by go_num⟩, by simp [intOf]; omega⟩
                    · rw [HR.out, HN.out, hd]; rfl
                    · rw [HL.out]
                  | false =>
                    go_wp2_with fail
                    refine ⟨⟨s + 1, by omega, ?_, ?_, by go_num⟩, by simp [intOf]; omega⟩
                    · rw [HR.out, HN.out, hd]; rfl
                    · rw [HL.out]
      | false =>
        rw [hH] at hcs
        cases kb with
        | true =>
          cases q1 : decide (0 ≤ last) with
          | false =>
            have HR : Hid ((thrN H need win keep (s + 1)).2 = true) := Lib.hid (by rw [HS.out]; unfold thrStep; rw [hH]; simp [q1])
            have HL : Hid ((thrN H need win keep (s + 1)).1 = last) := Lib.hid (by rw [HS.out]; unfold thrStep; rw [hH]; simp)
            clear HS
            go_wp2_with fail
            refine ⟨⟨s + 1, by omega, ?_, ?_, by go_num⟩, by simp [intOf]; omega⟩
            · rw [HR.out]
            · rw [HL.out]
          | true =>
            cases q2 : decide (keep ≤ (s : Int) - last) with
            | true =>
              have HR : Hid ((thrN H need win keep (s + 1)).2 = false) := Lib.hid (by rw [HS.out]; unfold thrStep; rw [hH]; simp [q1, q2])
              have HL : Hid ((thrN H need win keep (s + 1)).1 = last) := Lib.hid (by rw [HS.out]; unfold thrStep; rw [hH]; simp)
              clear HS
              go_wp2_with fail
              refine ⟨⟨s + 1, by omega, ?_, ?_, by go_num⟩, by simp [intOf]; omega⟩
              · rw [HR.out]
              · rw [HL.out]
            | false =>
              have HR : Hid ((thrN H need win keep (s + 1)).2 = true) := Lib.hid (by rw [HS.out]; unfold thrStep; rw [hH]; simp [q1, q2])
              have HL : Hid ((thrN H need win keep (s + 1)).1 = last) := Lib.hid (by rw [HS.out]; unfold thrStep; rw [hH]; simp)
              clear HS
              go_wp2_with fail
              refine ⟨⟨s + 1, by omega, ?_, ?_, by go_num⟩, by simp [intOf]; omega⟩
              · rw [HR.out]
              · rw [HL.out]
        | false =>
          cases q1 : decide (0 ≤ last) with
          | false =>
            have HR : Hid ((thrN H need win keep (s + 1)).2 = false) := Lib.hid (by rw [HS.out]; unfold thrStep; rw [hH]; simp [q1])
            have HL : Hid ((thrN H need win keep (s + 1)).1 = last) := Lib.hid (by rw [HS.out]; unfold thrStep; rw [hH]; simp)
            clear HS
            go_wp2_with fail
            refine ⟨⟨s + 1, by omega, ?_, ?_, by go_num⟩, by simp [intOf]; omega⟩
            · rw [HR.out]
            · rw [HL.out]
          | true =>
            cases q2 : decide (keep ≤ (s : Int) - last) with
            | true =>
              have HR : Hid ((thrN H need win keep (s + 1)).2 = false) := Lib.hid (by rw [HS.out]; unfold thrStep; rw [hH]; simp [q1, q2])
              have HL : Hid ((thrN H need win keep (s + 1)).1 = last) := Lib.hid (by rw [HS.out]; unfold thrStep; rw [hH]; simp)
              clear HS
              go_wp2_with fail
              refine ⟨⟨s + 1, by omega, ?_, ?_, by go_num⟩, by simp [intOf]; omega⟩
              · rw [HR.out]
              · rw [HL.out]
            | false =>
              have HR : Hid ((thrN H need win keep (s + 1)).2 = false) := Lib.hid (by rw [HS.out]; unfold thrStep; rw [hH]; simp [q1, q2])
              have HL : Hid ((thrN H need win keep (s + 1)).1 = last) := Lib.hid (by rw [HS.out]; unfold thrStep; rw [hH]; simp)
              clear HS
              go_wp2_with fail
              refine ⟨⟨s + 1, by omega, ?_, ?_, by go_num⟩, by simp [intOf]; omega⟩
              · rw [HR.out]
              · rw [HL.out]
    · obtain rfl : s = m + 1 := by omega
      clear hS
      have hsI : ¬ (((m + 1 : Nat) : Int) ≤ (m : Int)) := by omega
      cases q1 : decide (0 ≤ last) with
      | false =>
        go_wp2_with fail
        go_ret2
        exact ⟨by rw [HT.out]; simp [q1], rfl⟩
      | true =>
        go_wp2_with fail
        go_ret2
        exact ⟨by rw [HT.out]; simp [q1], rfl⟩
end Go.Proofs.YtkikokldijccnaaDoor
