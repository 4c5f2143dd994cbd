/- squitter's reference: known, pending. -/
import Derived.Test.YtkikokldijccnaaDoorRows
import Derived.WalkKit
import Derived.WalkLawsBesides
import Derived.WalkSpells
import Derived.ProofKit
import Derived.Below
import Derived.Outline
import Derived.Lib.Hide
import Derived.Deep.RegionWith
import Derived.Deep.RegionHeld3
import Derived.Deep.DrawnRows
import Derived.StillTailTactics
import Derived.BigQuiet
import Derived.Deep.QuietTactic
import Derived.Deep.LoopGhost
import Derived.IntWalk
import Derived.BigQuiet
import Derived.Test.YtkikokldijccnaaDoorSrA
namespace Go.Proofs.YtkikokldijccnaaDoor
open Go.RowKit Go.Maps
attribute [local go_sem ↓] Go.wp_at_zero Go.wp_at_succ
attribute [local go_sem] wrap_lit
/-- the bounds of the reference's numbers -/
structure RefB (need win keep now : Int) (P : List (Int × Int)) : Prop where
  n0 : 1 ≤ need
  n1 : need ≤ 8
  w0 : 1 ≤ win
  w1 : win ≤ 64
  k0 : 1 ≤ keep
  k1 : keep ≤ 1024
  t0 : 0 ≤ now
  t1 : now ≤ 1073741824
  p : ∀ h ∈ P, 0 ≤ h.1 ∧ h.1 ≤ 16777215 ∧ 0 ≤ h.2 ∧ h.2 ≤ 1073741824
theorem cyc_mem (a lo hi : Int) : ∀ (P : List (Int × Int)) (l : List Int) (c : Int), c ∈ P.foldl (cycStep a lo hi) l → c ∈ l ∨ ((a, c) ∈ P ∧ lo ≤ c ∧ c ≤ hi)
  | [], _, _, h => .inl h
  | p :: P, l, c, h => by
    rcases cyc_mem a lo hi P _ c h with h | h
    · unfold cycStep at h
      split at h
      · rename_i g
        rcases List.mem_append.1 h with h | h
        · exact .inl h
        · simp at h; subst h
          exact .inr ⟨List.mem_cons.2 (.inl (by rw [← g.1])), g.2.1, g.2.2.1⟩
      · exact .inl h
    · exact .inr ⟨List.mem_cons_of_mem _ h.1, h.2⟩
theorem cycF_mem {a lo hi : Int} {P : List (Int × Int)} {c : Int} (h : c ∈ cycF a lo hi P) : (a, c) ∈ P ∧ lo ≤ c ∧ c ≤ hi := by
  rcases cyc_mem a lo hi P [] c h with h | h
  · cases h
  · exact h
theorem isW_step (P : List (Int × Int)) (a need win keep : Int) (l : List Int) (i : Nat) (h : i < l.length) : isW P a need win keep (l.take (i + 1)).reverse = (decide (need ≤ ((cycF a (nth l i - win + 1) (nth l i) P).length : Int)) || (isW P a need win keep (l.take i).reverse && !(decide (0 < i) && decide (keep ≤ nth l i - nth l (i - 1))))) := by
  rw [take_nth l i h, List.reverse_append, List.reverse_singleton, List.singleton_append]
  cases i with
  | zero => simp [isW]
  | succ j =>
    rw [take_nth l j (by omega), List.reverse_append, List.reverse_singleton, List.singleton_append]
    simp [isW]
theorem nth_mem {l : List Int} {j : Nat} (h : j < l.length) : nth l j ∈ l := mem_nth.2 ⟨j, h, rfl⟩
theorem nth_last {l : List Int} (h : l ≠ []) : nth l (l.length - 1) = lastC l := by
  have := last_get h
  simp [nth, List.getD_eq_getElem?_getD, this]
set_option maxRecDepth 100000 in
set_option maxHeartbeats 4000000 in
theorem known29 {w : World} {R cap : Nat} {A : Option Addr} {need win keep now : Int} {P : List (Int × Int)} (hR : RefR w R need win keep now A cap P) (hB : RefB need win keep now P) (a : Int) : Calls Tryd.prog 29 #[.pointer (some ⟨R, 0, none⟩), .int .i64 a] w fun e w' => e = .returned (.bool (knownF P need win keep now a)) ∧ Below w.heap.size w w' := by
  have HR := Lib.hid hR
  have HB := Lib.hid hB
  have hRl0 := hR.lt
  have r3 := hR.c3
  have hlP := hR.len
  obtain ⟨n0, n1, b0, b1, k0, k1, t0, t1, -⟩ := hB
  clear hR
  go_enter Tryd.func29, Tryd.ntmps29
  go_wp2_with fail
  refine (cycles43 HR.out a 0 now).mono ?_
  rintro e w1 ⟨A1, cap1, rfl, hown, hcap, hb1⟩
  have hln := cycF_len a 0 now P
  have hbd : ∀ c ∈ cycF a 0 now P, 0 ≤ c ∧ c ≤ 1073741824 := fun c hc => by have := cycF_mem hc; omega
  have hKF : knownF P need win keep now a = (isW P a need win keep (cycF a 0 now P).reverse && decide (now - lastC (cycF a 0 now P) < keep)) := rfl
  obtain ⟨l, hl⟩ : ∃ l, l = cycF a 0 now P := ⟨_, rfl⟩
  rw [← hl] at hown hcap hln hbd hKF ⊢
  have HIS := Lib.hid hown.is
  have HBD := Lib.hid hbd
  have HKF := Lib.hid hKF
  have HB1 := Lib.hid hb1
  have hs1 := hb1.size
  have hll : l.length ≤ 1000 := by omega
  clear hown hbd hKF hl hb1 r3
  go_wp2_with fail
  go_loopw [6, 7] (fun b i wr => ∃ k : Nat, k ≤ l.length ∧ b = .bool (isW P a need win keep (l.take k).reverse) ∧ i = .int .i64 k ∧ Below w1.heap.size w1 wr) (fun _ i _ => l.length - (intOf i).toNat)
  case atStart => exact ⟨0, Nat.zero_le _, rfl, rfl, Below.refl _ _⟩
  case round =>
    obtain ⟨i, hi, rfl, rfl, hbr⟩ := hrel
    have HRR := Lib.hid ((HR.out.below HB1.out).below hbr)
    have hRl := HRR.out.lt
    have hsr := hbr.size
    by_cases hlt : i < l.length
    · obtain ⟨g, off, rfl, hgl, hc⟩ := (HIS.out.below hbr) (by omega)
      have hgl : g < wr.heap.size := by omega
      have r0 := HRR.out.c0
      have r1 := HRR.out.c1
      have r2 := HRR.out.c2
      have ci := hc i hlt
      have hst := isW_step P a need win keep l i hlt
      obtain ⟨c0, c1⟩ := HBD.out (nth l i) (nth_mem hlt)
      have hltI : (i : Int) < (l.length : Int) := by omega
      obtain ⟨c, hcv⟩ : ∃ c, c = nth l i := ⟨_, rfl⟩
      rw [← hcv] at ci hst c0 c1
      have hw1 : IntKind.i64.wrap (c - win) = c - win := IntWalk.i64_in _ (by omega)
      have hw2 : IntKind.i64.wrap (c - win + 1) = c - win + 1 := IntWalk.i64_in _ (by omega)
      have clg : ∀ k, wr.cell? ⟨g, off + k, none⟩ = wr.cell? ⟨g, off + k, none⟩ := fun _ => rfl
      clear clg
      cases hb : isW P a need win keep (l.take i).reverse with
      | true =>
        rw [hb] at hst
        by_cases hi0 : 0 < i
        · have cj := hc (i - 1) (by omega)
          obtain ⟨d0, d1⟩ := HBD.out (nth l (i - 1)) (nth_mem (by omega))
          obtain ⟨d, hdv⟩ : ∃ d, d = nth l (i - 1) := ⟨_, rfl⟩
          rw [← hdv] at cj hst d0 d1
          have q1 : decide (0 < i) = true := decide_eq_true hi0
          rw [q1, Bool.true_and] at hst
          have t5 : ((i : Int) - 1).toNat = i - 1 := by omega
          have t6 : (0 : Int) ≤ (i : Int) - 1 := by omega
          have t7 : (i : Int) - 1 < (l.length : Int) := by omega
          have h1i : (1 : Int) ≤ (i : Int) := by omega
          clear hcv hc hdv hb
          cases q2 : decide (keep ≤ c - d) with
          | true =>
            rw [q2] at hst
            have HST := Lib.hid hst
            clear hst
            go_wp2_with fail
            go_quiet (fail)
            go_wp2_with fail
            go_region_held3 (fun w' => w'.cell? ⟨g, off + i, none⟩ = some (.int .i64 c) ∧ w'.cell? ⟨R, 0, none⟩ = some (.int .i64 need) ∧ w'.cell? ⟨R, 1, none⟩ = some (.int .i64 win)) (first | exact ⟨ci, r0, r1⟩ | exact ⟨kk0, kk1, kk2⟩) (((with_reducible refine (cycles43 (HRR.out.below (below_drewN (Below.refl _ wr) _)) a (c - win + 1) c).mono ?_); rintro e w4 ⟨A2, cap2, rfl, -, -, hb4⟩; have kk0 := (hb4.cell (p := ⟨g, off + i, none⟩) hgl).trans ci; have kk1 := (hb4.cell (p := ⟨R, 0, none⟩) hRl).trans r0; have kk2 := (hb4.cell (p := ⟨R, 1, none⟩) hRl).trans r1))
            have HB4 := Lib.hid (hbr.trans (((below_drewN (Below.refl _ wr) (nq + 1)).trans hb4).mono hsr))
            clear kk0 kk1 kk2 hb4
            obtain ⟨q, hq⟩ : ∃ q : Nat, q = (cycF a (c - win + 1) c P).length := ⟨_, rfl⟩
            rw [← hq] at HST ⊢
            clear hq
            cases hd : decide (need ≤ (q : Int)) with
            | true =>
              go_wp2_with fail
              exact ⟨⟨i + 1, by omega, by rw [HST.out, hd]; rfl, by go_num, HB4.out⟩, by simp [intOf]; omega⟩
            | false =>
              go_wp2_with fail
              exact ⟨⟨i + 1, by omega, by rw [HST.out, hd]; rfl, by go_num, HB4.out⟩, by simp [intOf]; omega⟩
          | false =>
            rw [q2] at hst
            have HST := Lib.hid hst
            clear hst
            go_wp2_with fail
            go_quiet (fail)
            go_wp2_with fail
            go_region_held3 (fun w' => w'.cell? ⟨g, off + i, none⟩ = some (.int .i64 c) ∧ w'.cell? ⟨R, 0, none⟩ = some (.int .i64 need) ∧ w'.cell? ⟨R, 1, none⟩ = some (.int .i64 win)) (first | exact ⟨ci, r0, r1⟩ | exact ⟨kk0, kk1, kk2⟩) (((with_reducible refine (cycles43 (HRR.out.below (below_drewN (Below.refl _ wr) _)) a (c - win + 1) c).mono ?_); rintro e w4 ⟨A2, cap2, rfl, -, -, hb4⟩; have kk0 := (hb4.cell (p := ⟨g, off + i, none⟩) hgl).trans ci; have kk1 := (hb4.cell (p := ⟨R, 0, none⟩) hRl).trans r0; have kk2 := (hb4.cell (p := ⟨R, 1, none⟩) hRl).trans r1))
            have HB4 := Lib.hid (hbr.trans (((below_drewN (Below.refl _ wr) (nq + 1)).trans hb4).mono hsr))
            clear kk0 kk1 kk2 hb4
            obtain ⟨q, hq⟩ : ∃ q : Nat, q = (cycF a (c - win + 1) c P).length := ⟨_, rfl⟩
            rw [← hq] at HST ⊢
            clear hq
            cases hd : decide (need ≤ (q : Int)) with
            | true =>
              go_wp2_with fail
              exact ⟨⟨i + 1, by omega, by rw [HST.out, hd]; rfl, by go_num, HB4.out⟩, by simp [intOf]; omega⟩
            | false =>
              go_wp2_with fail
              exact ⟨⟨i + 1, by omega, by rw [HST.out, hd]; rfl, by go_num, HB4.out⟩, by simp [intOf]; omega⟩
        · have q1 : decide (0 < i) = false := decide_eq_false hi0
          rw [q1, Bool.false_and] at hst
          have HST := Lib.hid hst
          clear hst hcv hc hb
          go_wp2_with fail
          go_quiet (fail)
          go_wp2_with fail
          go_region_held3 (fun w' => w'.cell? ⟨g, off + i, none⟩ = some (.int .i64 c) ∧ w'.cell? ⟨R, 0, none⟩ = some (.int .i64 need) ∧ w'.cell? ⟨R, 1, none⟩ = some (.int .i64 win)) (first | exact ⟨ci, r0, r1⟩ | exact ⟨kk0, kk1, kk2⟩) (((with_reducible refine (cycles43 (HRR.out.below (below_drewN (Below.refl _ wr) _)) a (c - win + 1) c).mono ?_); rintro e w4 ⟨A2, cap2, rfl, -, -, hb4⟩; have kk0 := (hb4.cell (p := ⟨g, off + i, none⟩) hgl).trans ci; have kk1 := (hb4.cell (p := ⟨R, 0, none⟩) hRl).trans r0; have kk2 := (hb4.cell (p := ⟨R, 1, none⟩) hRl).trans r1))
          have HB4 := Lib.hid (hbr.trans (((below_drewN (Below.refl _ wr) (nq + 1)).trans hb4).mono hsr))
          clear kk0 kk1 kk2 hb4
          obtain ⟨q, hq⟩ : ∃ q : Nat, q = (cycF a (c - win + 1) c P).length := ⟨_, rfl⟩
          rw [← hq] at HST ⊢
          clear hq
          cases hd : decide (need ≤ (q : Int)) with
          | true =>
            go_wp2_with fail
            exact ⟨⟨i + 1, by omega, by rw [HST.out, hd]; rfl, by go_num, HB4.out⟩, by simp [intOf]; omega⟩
          | false =>
            go_wp2_with fail
            exact ⟨⟨i + 1, by omega, by rw [HST.out, hd]; rfl, by go_num, HB4.out⟩, by simp [intOf]; omega⟩
      | false =>
        rw [hb] at hst
        by_cases hi0 : 0 < i
        · have cj := hc (i - 1) (by omega)
          obtain ⟨d0, d1⟩ := HBD.out (nth l (i - 1)) (nth_mem (by omega))
          obtain ⟨d, hdv⟩ : ∃ d, d = nth l (i - 1) := ⟨_, rfl⟩
          rw [← hdv] at cj hst d0 d1
          have q1 : decide (0 < i) = true := decide_eq_true hi0
          rw [q1, Bool.true_and] at hst
          have t5 : ((i : Int) - 1).toNat = i - 1 := by omega
          have t6 : (0 : Int) ≤ (i : Int) - 1 := by omega
          have t7 : (i : Int) - 1 < (l.length : Int) := by omega
          have h1i : (1 : Int) ≤ (i : Int) := by omega
          clear hcv hc hdv hb
          cases q2 : decide (keep ≤ c - d) with
          | true =>
            rw [q2] at hst
            have HST := Lib.hid hst
            clear hst
            go_wp2_with fail
            go_quiet (fail)
            go_wp2_with fail
            go_region_held3 (fun w' => w'.cell? ⟨g, off + i, none⟩ = some (.int .i64 c) ∧ w'.cell? ⟨R, 0, none⟩ = some (.int .i64 need) ∧ w'.cell? ⟨R, 1, none⟩ = some (.int .i64 win)) (first | exact ⟨ci, r0, r1⟩ | exact ⟨kk0, kk1, kk2⟩) (((with_reducible refine (cycles43 (HRR.out.below (below_drewN (Below.refl _ wr) _)) a (c - win + 1) c).mono ?_); rintro e w4 ⟨A2, cap2, rfl, -, -, hb4⟩; have kk0 := (hb4.cell (p := ⟨g, off + i, none⟩) hgl).trans ci; have kk1 := (hb4.cell (p := ⟨R, 0, none⟩) hRl).trans r0; have kk2 := (hb4.cell (p := ⟨R, 1, none⟩) hRl).trans r1))
            have HB4 := Lib.hid (hbr.trans (((below_drewN (Below.refl _ wr) (nq + 1)).trans hb4).mono hsr))
            clear kk0 kk1 kk2 hb4
            obtain ⟨q, hq⟩ : ∃ q : Nat, q = (cycF a (c - win + 1) c P).length := ⟨_, rfl⟩
            rw [← hq] at HST ⊢
            clear hq
            cases hd : decide (need ≤ (q : Int)) with
            | true =>
              go_wp2_with fail
              exact ⟨⟨i + 1, by omega, by rw [HST.out, hd]; rfl, by go_num, HB4.out⟩, by simp [intOf]; omega⟩
            | false =>
              go_wp2_with fail
              exact ⟨⟨i + 1, by omega, by rw [HST.out, hd]; rfl, by go_num, HB4.out⟩, by simp [intOf]; omega⟩
          | false =>
            rw [q2] at hst
            have HST := Lib.hid hst
            clear hst
            go_wp2_with fail
            go_quiet (fail)
            go_wp2_with fail
            go_region_held3 (fun w' => w'.cell? ⟨g, off + i, none⟩ = some (.int .i64 c) ∧ w'.cell? ⟨R, 0, none⟩ = some (.int .i64 need) ∧ w'.cell? ⟨R, 1, none⟩ = some (.int .i64 win)) (first | exact ⟨ci, r0, r1⟩ | exact ⟨kk0, kk1, kk2⟩) (((with_reducible refine (cycles43 (HRR.out.below (below_drewN (Below.refl _ wr) _)) a (c - win + 1) c).mono ?_); rintro e w4 ⟨A2, cap2, rfl, -, -, hb4⟩; have kk0 := (hb4.cell (p := ⟨g, off + i, none⟩) hgl).trans ci; have kk1 := (hb4.cell (p := ⟨R, 0, none⟩) hRl).trans r0; have kk2 := (hb4.cell (p := ⟨R, 1, none⟩) hRl).trans r1))
            have HB4 := Lib.hid (hbr.trans (((below_drewN (Below.refl _ wr) (nq + 1)).trans hb4).mono hsr))
            clear kk0 kk1 kk2 hb4
            obtain ⟨q, hq⟩ : ∃ q : Nat, q = (cycF a (c - win + 1) c P).length := ⟨_, rfl⟩
            rw [← hq] at HST ⊢
            clear hq
            cases hd : decide (need ≤ (q : Int)) with
            | true =>
              go_wp2_with fail
              exact ⟨⟨i + 1, by omega, by rw [HST.out, hd]; rfl, by go_num, HB4.out⟩, by simp [intOf]; omega⟩
            | false =>
              go_wp2_with fail
              exact ⟨⟨i + 1, by omega, by rw [HST.out, hd]; rfl, by go_num, HB4.out⟩, by simp [intOf]; omega⟩
        · have q1 : decide (0 < i) = false := decide_eq_false hi0
          rw [q1, Bool.false_and] at hst
          have HST := Lib.hid hst
          clear hst hcv hc hb
          go_wp2_with fail
          go_quiet (fail)
          go_wp2_with fail
          go_region_held3 (fun w' => w'.cell? ⟨g, off + i, none⟩ = some (.int .i64 c) ∧ w'.cell? ⟨R, 0, none⟩ = some (.int .i64 need) ∧ w'.cell? ⟨R, 1, none⟩ = some (.int .i64 win)) (first | exact ⟨ci, r0, r1⟩ | exact ⟨kk0, kk1, kk2⟩) (((with_reducible refine (cycles43 (HRR.out.below (below_drewN (Below.refl _ wr) _)) a (c - win + 1) c).mono ?_); rintro e w4 ⟨A2, cap2, rfl, -, -, hb4⟩; have kk0 := (hb4.cell (p := ⟨g, off + i, none⟩) hgl).trans ci; have kk1 := (hb4.cell (p := ⟨R, 0, none⟩) hRl).trans r0; have kk2 := (hb4.cell (p := ⟨R, 1, none⟩) hRl).trans r1))
          have HB4 := Lib.hid (hbr.trans (((below_drewN (Below.refl _ wr) (nq + 1)).trans hb4).mono hsr))
          clear kk0 kk1 kk2 hb4
          obtain ⟨q, hq⟩ : ∃ q : Nat, q = (cycF a (c - win + 1) c P).length := ⟨_, rfl⟩
          rw [← hq] at HST ⊢
          clear hq
          cases hd : decide (need ≤ (q : Int)) with
          | true =>
            go_wp2_with fail
            exact ⟨⟨i + 1, by omega, by rw [HST.out, hd]; rfl, by go_num, HB4.out⟩, by simp [intOf]; omega⟩
          | false =>
            go_wp2_with fail
            exact ⟨⟨i + 1, by omega, by rw [HST.out, hd]; rfl, by go_num, HB4.out⟩, by simp [intOf]; omega⟩
    · obtain rfl : i = l.length := by omega
      clear hlt
      rw [List.take_length]
      cases hb : isW P a need win keep l.reverse with
      | false =>
        rw [hb, Bool.false_and] at HKF
        go_wp2_with fail
        go_quiet (fail)
        go_wp2_with fail
        go_ret
        exact ⟨by rw [HKF.out]; rfl, HB1.out.trans ((below_drewN hbr _).mono hs1)⟩
      | true =>
        rw [hb, Bool.true_and] at HKF
        have hnil : l ≠ [] := fun e => by rw [e] at hb; cases hb
        have hlp : 0 < l.length := List.length_pos_iff.2 hnil
        obtain ⟨g, off, rfl, hgl, hc⟩ := (HIS.out.below hbr) hlp
        have r2 := HRR.out.c2
        have r3 := HRR.out.c3
        have ci := hc (l.length - 1) (by omega)
        have hcl := HBD.out (nth l (l.length - 1)) (nth_mem (by omega))
        rw [nth_last hnil] at ci hcl
        have t5 : ((l.length : Int) - 1).toNat = l.length - 1 := by omega
        have t6 : (0 : Int) ≤ (l.length : Int) - 1 := by omega
        have t7 : (l.length : Int) - 1 < (l.length : Int) := by omega
        obtain ⟨la, hla⟩ : ∃ la, la = lastC l := ⟨_, rfl⟩
        rw [← hla] at ci hcl HKF
        obtain ⟨d0, d1⟩ := hcl
        clear hnil hc hb hla
        cases q1 : decide (now - la < keep) with
        | true =>
          go_wp2_with fail
          go_quiet (fail)
          go_wp2_with fail
          go_ret
          exact ⟨by rw [HKF.out, q1]; rfl, HB1.out.trans ((below_drewN hbr _).mono hs1)⟩
        | false =>
          go_wp2_with fail
          go_quiet (fail)
          go_wp2_with fail
          go_ret
          exact ⟨by rw [HKF.out, q1]; rfl, HB1.out.trans ((below_drewN hbr _).mono hs1)⟩
set_option maxHeartbeats 1000000 in
theorem pending30 {w : World} {R cap : Nat} {A : Option Addr} {need win keep now : Int} {P : List (Int × Int)} (hR : RefR w R need win keep now A cap P) (hB : RefB need win keep now P) (a : Int) : Calls Tryd.prog 30 #[.pointer (some ⟨R, 0, none⟩), .int .i64 a] w fun e w' => e = .returned (.bool (pendF P need win keep now a)) ∧ Below w.heap.size w w' := by
  have HR := Lib.hid hR
  have HB := Lib.hid hB
  have r1 := hR.c1
  have r3 := hR.c3
  have hRl := hR.lt
  obtain ⟨n0, n1, b0, b1, k0, k1, t0, t1, -⟩ := hB
  have hw1 : IntKind.i64.wrap (now - win) = now - win := IntWalk.i64_in _ (by omega)
  have hw2 : IntKind.i64.wrap (now - win + 1) = now - win + 1 := IntWalk.i64_in _ (by omega)
  have hp : pendF P need win keep now a = (!knownF P need win keep now a && heardF P a (now - win + 1) now) := rfl
  clear hR
  cases hk : knownF P need win keep now a with
  | true =>
    rw [hk] at hp
    have HP := Lib.hid hp
    clear hp
    go_enter Tryd.func30, Tryd.ntmps30
    go_wp2_with fail
    refine wp_region_held_drew (S := fun w' => w'.cell? ⟨R, 1, none⟩ = some (.int .i64 win) ∧ w'.cell? ⟨R, 3, none⟩ = some (.int .i64 now)) (by kernel_rfl) (⟨r1, r3⟩) (fun hS => ?_)
    refine wpAnyH_take (i := 0) (v := ?vDtrue1) rfl (by kernel_rfl) (by kernel_rfl) (by kernel_rfl) (fun _ _ _ h => h) (Or.inl ⟨by rfl, ?hDtrue1⟩) hS ?rDtrue1
    case hDtrue1 =>
      intro w1 hSw
      clear hSw
      go_simp
      try with_reducible rfl
    (try go_frame)
    refine wpAnyH_take (i := 1) (v := ?vDtrue2) rfl (by kernel_rfl) (by kernel_rfl) (by kernel_rfl) (fun _ _ _ h => h) (Or.inl ⟨by rfl, ?hDtrue2⟩) hS ?rDtrue2
    case hDtrue2 =>
      intro w1 hSw
      clear hSw
      go_simp
      try with_reducible rfl
    (try go_frame)
    refine wpAnyH_ready (rs := [2]) (by kernel_rfl) (by simp) (AllReadyH.cons rfl (fun K hK => ?_) AllReadyH.nil)
    go_simp
    refine (known29 (HR.out.below ((Below.refl _ w).drew)) HB.out a).mono ?_
    rintro e w4 ⟨rfl, hb4⟩
    rw [hk]
    have HR4 := Lib.hid ((HR.out.below ((Below.refl _ w).drew)).below hb4)
    refine hK.out _ _ (⟨HR4.out.c1, HR4.out.c3⟩) (fun hS => ?_)
    clear hK K
    (try go_frame)
    refine wpAnyH_take (i := 3) (v := ?vDtrue3) rfl (by kernel_rfl) (by kernel_rfl) (by kernel_rfl) (fun _ _ _ h => h) (Or.inl ⟨by kernel_rfl, ?hDtrue3⟩) hS ?rDtrue3
    case hDtrue3 =>
      intro w1 hSw
      clear hSw
      go_simp
      try with_reducible rfl
    (try go_frame)
    refine wpAnyH_take (i := 4) (v := ?vDtrue4) rfl (by kernel_rfl) (by kernel_rfl) (by kernel_rfl) (fun _ _ _ h => h) (Or.inl ⟨by kernel_rfl, ?hDtrue4⟩) hS ?rDtrue4
    case hDtrue4 =>
      intro w1 hSw
      clear hSw
      go_simp
      try with_reducible rfl
    (try go_frame)
    refine wpAnyH_take (i := 5) (v := undef) rfl (by kernel_rfl) (by kernel_rfl) (by kernel_rfl) (fun _ _ _ h => h) (Or.inr ⟨by kernel_rfl, rfl⟩) hS ?rDtrue5
    (try go_frame)
    refine wpAnyH_take (i := 6) (v := undef) rfl (by kernel_rfl) (by kernel_rfl) (by kernel_rfl) (fun _ _ _ h => h) (Or.inr ⟨by kernel_rfl, rfl⟩) hS ?rDtrue6
    (try go_frame)
    refine wpAnyH_take (i := 7) (v := undef) rfl (by kernel_rfl) (by kernel_rfl) (by kernel_rfl) (fun _ _ _ h => h) (Or.inr ⟨by kernel_rfl, rfl⟩) hS ?rDtrue7
    (try go_frame)
    refine wpAnyH_take (i := 8) (v := undef) rfl (by kernel_rfl) (by kernel_rfl) (by kernel_rfl) (fun _ _ _ h => h) (Or.inr ⟨by kernel_rfl, rfl⟩) hS ?rDtrue8
    (try go_frame)
    refine wpAnyH_take (i := 9) (v := undef) rfl (by kernel_rfl) (by kernel_rfl) (by kernel_rfl) (fun _ _ _ h => h) (Or.inr ⟨by kernel_rfl, rfl⟩) hS ?rDtrue9
    (try go_frame)
    refine wpAnyH_take (i := 10) (v := undef) rfl (by kernel_rfl) (by kernel_rfl) (by kernel_rfl) (fun _ _ _ h => h) (Or.inr ⟨by kernel_rfl, rfl⟩) hS ?rDtrue10
    (try go_frame)
    refine wpAnyH_take (i := 11) (v := undef) rfl (by kernel_rfl) (by kernel_rfl) (by kernel_rfl) (fun _ _ _ h => h) (Or.inr ⟨by kernel_rfl, rfl⟩) hS ?rDtrue11
    (try go_frame)
    refine wpAnyH_take (i := 12) (v := undef) rfl (by kernel_rfl) (by kernel_rfl) (by kernel_rfl) (fun _ _ _ h => h) (Or.inr ⟨by kernel_rfl, rfl⟩) hS ?rDtrue12
    (try go_frame)
    refine wpAnyH_take (i := 13) (v := undef) rfl (by kernel_rfl) (by kernel_rfl) (by kernel_rfl) (fun _ _ _ h => h) (Or.inr ⟨by kernel_rfl, rfl⟩) hS ?rDtrue13
    (try go_frame)
    refine wpAnyH_take (i := 14) (v := undef) rfl (by kernel_rfl) (by kernel_rfl) (by kernel_rfl) (fun _ _ _ h => h) (Or.inr ⟨by kernel_rfl, rfl⟩) hS ?rDtrue14
    (try go_frame)
    refine wpAnyH_take (i := 15) (v := undef) rfl (by kernel_rfl) (by kernel_rfl) (by kernel_rfl) (fun _ _ _ h => h) (Or.inr ⟨by kernel_rfl, rfl⟩) hS ?rDtrue15
    (try go_frame)
    refine wpAnyH_take (i := 16) (v := undef) rfl (by kernel_rfl) (by kernel_rfl) (by kernel_rfl) (fun _ _ _ h => h) (Or.inr ⟨by kernel_rfl, rfl⟩) hS ?rDtrue16
    (try go_frame)
    refine wpAnyH_take (i := 17) (v := undef) rfl (by kernel_rfl) (by kernel_rfl) (by kernel_rfl) (fun _ _ _ h => h) (Or.inr ⟨by kernel_rfl, rfl⟩) hS ?rDtrue17
    (try go_frame)
    refine wpAnyH_take (i := 18) (v := undef) rfl (by kernel_rfl) (by kernel_rfl) (by kernel_rfl) (fun _ _ _ h => h) (Or.inr ⟨by kernel_rfl, rfl⟩) hS ?rDtrue18
    (try go_frame)
    refine wpAnyH_take (i := 19) (v := undef) rfl (by kernel_rfl) (by kernel_rfl) (by kernel_rfl) (fun _ _ _ h => h) (Or.inr ⟨by kernel_rfl, rfl⟩) hS ?rDtrue19
    (try go_frame)
    refine wpAnyH_take (i := 20) (v := undef) rfl (by kernel_rfl) (by kernel_rfl) (by kernel_rfl) (fun _ _ _ h => h) (Or.inr ⟨by kernel_rfl, rfl⟩) hS ?rDtrue20
    (try go_frame)
    refine wpAnyH_take (i := 21) (v := undef) rfl (by kernel_rfl) (by kernel_rfl) (by kernel_rfl) (fun _ _ _ h => h) (Or.inr ⟨by kernel_rfl, rfl⟩) hS ?rDtrue21
    (try go_frame)
    refine wpAnyH_ready (rs := [22]) (by kernel_rfl) (by simp) (AllReadyH.cons rfl (fun K hK => ?_) AllReadyH.nil)
    go_simp
    refine hK.out _ _ (hS) (fun hS => ?_)
    clear hK K
    refine wpAnyH_ready (rs := [23]) (by kernel_rfl) (by simp) (AllReadyH.cons rfl (fun K hK => ?_) AllReadyH.nil)
    go_simp
    refine hK.out _ _ (hS) (fun hS => ?_)
    clear hK K
    refine wpAnyH_done (by kernel_rfl) ?_ _
    go_wp2_with fail
    go_ret
    exact ⟨by rw [HP.out]; rfl, ((Below.refl _ w).drew).trans hb4⟩
  | false =>
    rw [hk] at hp
    have HP := Lib.hid hp
    clear hp
    go_enter Tryd.func30, Tryd.ntmps30
    go_wp2_with fail
    refine wp_region_held_drew (S := fun w' => w'.cell? ⟨R, 1, none⟩ = some (.int .i64 win) ∧ w'.cell? ⟨R, 3, none⟩ = some (.int .i64 now)) (by kernel_rfl) (⟨r1, r3⟩) (fun hS => ?_)
    refine wpAnyH_take (i := 0) (v := ?vDfalse1) rfl (by kernel_rfl) (by kernel_rfl) (by kernel_rfl) (fun _ _ _ h => h) (Or.inl ⟨by rfl, ?hDfalse1⟩) hS ?rDfalse1
    case hDfalse1 =>
      intro w1 hSw
      clear hSw
      go_simp
      try with_reducible rfl
    (try go_frame)
    refine wpAnyH_take (i := 1) (v := ?vDfalse2) rfl (by kernel_rfl) (by kernel_rfl) (by kernel_rfl) (fun _ _ _ h => h) (Or.inl ⟨by rfl, ?hDfalse2⟩) hS ?rDfalse2
    case hDfalse2 =>
      intro w1 hSw
      clear hSw
      go_simp
      try with_reducible rfl
    (try go_frame)
    refine wpAnyH_ready (rs := [2]) (by kernel_rfl) (by simp) (AllReadyH.cons rfl (fun K hK => ?_) AllReadyH.nil)
    go_simp
    refine (known29 (HR.out.below ((Below.refl _ w).drew)) HB.out a).mono ?_
    rintro e w4 ⟨rfl, hb4⟩
    rw [hk]
    have HR4 := Lib.hid ((HR.out.below ((Below.refl _ w).drew)).below hb4)
    refine hK.out _ _ (⟨HR4.out.c1, HR4.out.c3⟩) (fun hS => ?_)
    clear hK K
    (try go_frame)
    refine wpAnyH_take (i := 3) (v := ?vDfalse3) rfl (by kernel_rfl) (by kernel_rfl) (by kernel_rfl) (fun _ _ _ h => h) (Or.inl ⟨by kernel_rfl, ?hDfalse3⟩) hS ?rDfalse3
    case hDfalse3 =>
      intro w1 hSw
      clear hSw
      go_simp
      try with_reducible rfl
    (try go_frame)
    refine wpAnyH_take (i := 4) (v := ?vDfalse4) rfl (by kernel_rfl) (by kernel_rfl) (by kernel_rfl) (fun _ _ _ h => h) (Or.inl ⟨by kernel_rfl, ?hDfalse4⟩) hS ?rDfalse4
    case hDfalse4 =>
      intro w1 hSw
      clear hSw
      go_simp
      try with_reducible rfl
    (try go_frame)
    refine wpAnyH_take (i := 5) (v := ?vDfalse5) rfl (by kernel_rfl) (by kernel_rfl) (by kernel_rfl) (fun _ _ _ h => h) (Or.inl ⟨by kernel_rfl, ?hDfalse5⟩) hS ?rDfalse5
    case hDfalse5 =>
      intro w1 hSw
      have z1 : w1.cell? ⟨R, 1, none⟩ = some (.int .i64 win) := hSw.1
      have z3 : w1.cell? ⟨R, 3, none⟩ = some (.int .i64 now) := hSw.2
      clear hSw
      go_simp
      try with_reducible rfl
    (try go_frame)
    refine wpAnyH_take (i := 6) (v := ?vDfalse6) rfl (by kernel_rfl) (by kernel_rfl) (by kernel_rfl) (fun _ _ _ h => h) (Or.inl ⟨by kernel_rfl, ?hDfalse6⟩) hS ?rDfalse6
    case hDfalse6 =>
      intro w1 hSw
      have z1 : w1.cell? ⟨R, 1, none⟩ = some (.int .i64 win) := hSw.1
      have z3 : w1.cell? ⟨R, 3, none⟩ = some (.int .i64 now) := hSw.2
      clear hSw
      go_simp
      try with_reducible rfl
    (try go_frame)
    refine wpAnyH_take (i := 7) (v := ?vDfalse7) rfl (by kernel_rfl) (by kernel_rfl) (by kernel_rfl) (fun _ _ _ h => h) (Or.inl ⟨by kernel_rfl, ?hDfalse7⟩) hS ?rDfalse7
    case hDfalse7 =>
      intro w1 hSw
      have z1 : w1.cell? ⟨R, 1, none⟩ = some (.int .i64 win) := hSw.1
      have z3 : w1.cell? ⟨R, 3, none⟩ = some (.int .i64 now) := hSw.2
      clear hSw
      go_simp
      try with_reducible rfl
    (try go_frame)
    refine wpAnyH_take (i := 8) (v := ?vDfalse8) rfl (by kernel_rfl) (by kernel_rfl) (by kernel_rfl) (fun _ _ _ h => h) (Or.inl ⟨by kernel_rfl, ?hDfalse8⟩) hS ?rDfalse8
    case hDfalse8 =>
      intro w1 hSw
      have z1 : w1.cell? ⟨R, 1, none⟩ = some (.int .i64 win) := hSw.1
      have z3 : w1.cell? ⟨R, 3, none⟩ = some (.int .i64 now) := hSw.2
      clear hSw
      go_simp
      try with_reducible rfl
    (try go_frame)
    refine wpAnyH_take (i := 9) (v := ?vDfalse9) rfl (by kernel_rfl) (by kernel_rfl) (by kernel_rfl) (fun _ _ _ h => h) (Or.inl ⟨by kernel_rfl, ?hDfalse9⟩) hS ?rDfalse9
    case hDfalse9 =>
      intro w1 hSw
      have z1 : w1.cell? ⟨R, 1, none⟩ = some (.int .i64 win) := hSw.1
      have z3 : w1.cell? ⟨R, 3, none⟩ = some (.int .i64 now) := hSw.2
      clear hSw
      go_simp
      try with_reducible rfl
    (try go_frame)
    refine wpAnyH_take (i := 10) (v := ?vDfalse10) rfl (by kernel_rfl) (by kernel_rfl) (by kernel_rfl) (fun _ _ _ h => h) (Or.inl ⟨by kernel_rfl, ?hDfalse10⟩) hS ?rDfalse10
    case hDfalse10 =>
      intro w1 hSw
      have z1 : w1.cell? ⟨R, 1, none⟩ = some (.int .i64 win) := hSw.1
      have z3 : w1.cell? ⟨R, 3, none⟩ = some (.int .i64 now) := hSw.2
      clear hSw
      go_simp
      try with_reducible rfl
    (try go_frame)
    refine wpAnyH_take (i := 11) (v := ?vDfalse11) rfl (by kernel_rfl) (by kernel_rfl) (by kernel_rfl) (fun _ _ _ h => h) (Or.inl ⟨by kernel_rfl, ?hDfalse11⟩) hS ?rDfalse11
    case hDfalse11 =>
      intro w1 hSw
      have z1 : w1.cell? ⟨R, 1, none⟩ = some (.int .i64 win) := hSw.1
      have z3 : w1.cell? ⟨R, 3, none⟩ = some (.int .i64 now) := hSw.2
      clear hSw
      go_simp
      try with_reducible rfl
    (try go_frame)
    refine wpAnyH_take (i := 12) (v := ?vDfalse12) rfl (by kernel_rfl) (by kernel_rfl) (by kernel_rfl) (fun _ _ _ h => h) (Or.inl ⟨by kernel_rfl, ?hDfalse12⟩) hS ?rDfalse12
    case hDfalse12 =>
      intro w1 hSw
      have z1 : w1.cell? ⟨R, 1, none⟩ = some (.int .i64 win) := hSw.1
      have z3 : w1.cell? ⟨R, 3, none⟩ = some (.int .i64 now) := hSw.2
      clear hSw
      go_simp
      try with_reducible rfl
    (try go_frame)
    refine wpAnyH_take (i := 13) (v := ?vDfalse13) rfl (by kernel_rfl) (by kernel_rfl) (by kernel_rfl) (fun _ _ _ h => h) (Or.inl ⟨by kernel_rfl, ?hDfalse13⟩) hS ?rDfalse13
    case hDfalse13 =>
      intro w1 hSw
      have z1 : w1.cell? ⟨R, 1, none⟩ = some (.int .i64 win) := hSw.1
      have z3 : w1.cell? ⟨R, 3, none⟩ = some (.int .i64 now) := hSw.2
      clear hSw
      go_simp
      try with_reducible rfl
    (try go_frame)
    refine wpAnyH_take (i := 14) (v := ?vDfalse14) rfl (by kernel_rfl) (by kernel_rfl) (by kernel_rfl) (fun _ _ _ h => h) (Or.inl ⟨by kernel_rfl, ?hDfalse14⟩) hS ?rDfalse14
    case hDfalse14 =>
      intro w1 hSw
      have z1 : w1.cell? ⟨R, 1, none⟩ = some (.int .i64 win) := hSw.1
      have z3 : w1.cell? ⟨R, 3, none⟩ = some (.int .i64 now) := hSw.2
      clear hSw
      go_simp
      try with_reducible rfl
    (try go_frame)
    refine wpAnyH_take (i := 15) (v := ?vDfalse15) rfl (by kernel_rfl) (by kernel_rfl) (by kernel_rfl) (fun _ _ _ h => h) (Or.inl ⟨by kernel_rfl, ?hDfalse15⟩) hS ?rDfalse15
    case hDfalse15 =>
      intro w1 hSw
      have z1 : w1.cell? ⟨R, 1, none⟩ = some (.int .i64 win) := hSw.1
      have z3 : w1.cell? ⟨R, 3, none⟩ = some (.int .i64 now) := hSw.2
      clear hSw
      go_simp
      try with_reducible rfl
    (try go_frame)
    refine wpAnyH_take (i := 16) (v := ?vDfalse16) rfl (by kernel_rfl) (by kernel_rfl) (by kernel_rfl) (fun _ _ _ h => h) (Or.inl ⟨by kernel_rfl, ?hDfalse16⟩) hS ?rDfalse16
    case hDfalse16 =>
      intro w1 hSw
      have z1 : w1.cell? ⟨R, 1, none⟩ = some (.int .i64 win) := hSw.1
      have z3 : w1.cell? ⟨R, 3, none⟩ = some (.int .i64 now) := hSw.2
      clear hSw
      go_simp
      try with_reducible rfl
    (try go_frame)
    refine wpAnyH_take (i := 17) (v := ?vDfalse17) rfl (by kernel_rfl) (by kernel_rfl) (by kernel_rfl) (fun _ _ _ h => h) (Or.inl ⟨by kernel_rfl, ?hDfalse17⟩) hS ?rDfalse17
    case hDfalse17 =>
      intro w1 hSw
      have z1 : w1.cell? ⟨R, 1, none⟩ = some (.int .i64 win) := hSw.1
      have z3 : w1.cell? ⟨R, 3, none⟩ = some (.int .i64 now) := hSw.2
      clear hSw
      go_simp
      try with_reducible rfl
    (try go_frame)
    refine wpAnyH_take (i := 18) (v := ?vDfalse18) rfl (by kernel_rfl) (by kernel_rfl) (by kernel_rfl) (fun _ _ _ h => h) (Or.inl ⟨by kernel_rfl, ?hDfalse18⟩) hS ?rDfalse18
    case hDfalse18 =>
      intro w1 hSw
      have z1 : w1.cell? ⟨R, 1, none⟩ = some (.int .i64 win) := hSw.1
      have z3 : w1.cell? ⟨R, 3, none⟩ = some (.int .i64 now) := hSw.2
      clear hSw
      go_simp
      try with_reducible rfl
    (try go_frame)
    refine wpAnyH_take (i := 19) (v := ?vDfalse19) rfl (by kernel_rfl) (by kernel_rfl) (by kernel_rfl) (fun _ _ _ h => h) (Or.inl ⟨by kernel_rfl, ?hDfalse19⟩) hS ?rDfalse19
    case hDfalse19 =>
      intro w1 hSw
      have z1 : w1.cell? ⟨R, 1, none⟩ = some (.int .i64 win) := hSw.1
      have z3 : w1.cell? ⟨R, 3, none⟩ = some (.int .i64 now) := hSw.2
      clear hSw
      go_simp
      try with_reducible rfl
    (try go_frame)
    refine wpAnyH_take (i := 20) (v := ?vDfalse20) rfl (by kernel_rfl) (by kernel_rfl) (by kernel_rfl) (fun _ _ _ h => h) (Or.inl ⟨by kernel_rfl, ?hDfalse20⟩) hS ?rDfalse20
    case hDfalse20 =>
      intro w1 hSw
      have z1 : w1.cell? ⟨R, 1, none⟩ = some (.int .i64 win) := hSw.1
      have z3 : w1.cell? ⟨R, 3, none⟩ = some (.int .i64 now) := hSw.2
      clear hSw
      go_simp
      try with_reducible rfl
    (try go_frame)
    refine wpAnyH_ready (rs := [21]) (by kernel_rfl) (by simp) (AllReadyH.cons rfl (fun K hK => ?_) AllReadyH.nil)
    go_simp
    refine (heard51 HR4.out a (now - win + 1) now).mono ?_
    rintro e w5 ⟨rfl, hw⟩
    rw [hw]
    clear hw w5
    refine hK.out _ _ (hS) (fun hS => ?_)
    clear hK K
    (try go_frame)
    refine wpAnyH_ready (rs := [22]) (by kernel_rfl) (by simp) (AllReadyH.cons rfl (fun K hK => ?_) AllReadyH.nil)
    go_simp
    refine hK.out _ _ (hS) (fun hS => ?_)
    clear hK K
    refine wpAnyH_ready (rs := [23]) (by kernel_rfl) (by simp) (AllReadyH.cons rfl (fun K hK => ?_) AllReadyH.nil)
    go_simp
    refine hK.out _ _ (hS) (fun hS => ?_)
    clear hK K
    refine wpAnyH_done (by kernel_rfl) ?_ _
    go_wp2_with fail
    go_ret
    exact ⟨by rw [HP.out]; rfl, ((Below.refl _ w).drew).trans hb4⟩
end Go.Proofs.YtkikokldijccnaaDoor
