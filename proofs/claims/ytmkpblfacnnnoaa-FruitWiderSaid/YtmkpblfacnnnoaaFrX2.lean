/- FruitWider returns true for every input. -/
import Derived.Test.YtmkpblfacnnnoaaRows
import Derived.WalkKit
import Derived.WalkLawsBesides
import Derived.WalkSpells
import Derived.ProofKit
import Derived.Below
import Derived.Outline
import Derived.Lib.Hide
import Derived.Deep.RegionWith
import Derived.Deep.RegionHeld3
import Derived.Deep.DrawnRows
import Derived.StillTailTactics
import Derived.BigQuiet
import Derived.Deep.QuietTactic
import Derived.Deep.LoopGhost
import Derived.IntWalk
import Derived.Test.YtmkpblfacnnnoaaFrN
import Derived.Test.YtmkpblfacnnnoaaKO
import Derived.WalkKit
import Derived.ProofKit
import Derived.OpenShut
import Derived.ShutString
import Derived.ChangeOld
import Derived.Below
import Derived.Lib.SmallJoins
namespace Go.Proofs.Ytmkpblfacnnnoaa
open Go.RowKit
attribute [local go_sem ↓] Go.wp_at_zero Go.wp_at_succ
attribute [local go_sem] wrap_lit

/-- Block g begins with the numbers l, and may be written. -/
def OutC (w : World) (g : Nat) (T : TypeId) (l : List Int) : Prop := ∃ cs, w.heap[g]? = some (.cells cs T (0, 0)) ∧ l.length ≤ cs.size ∧ ∀ j, j < l.length → cs[j]? = some (.int .i64 (nth l j))
theorem OutC.cell {w : World} {g : Nat} {T : TypeId} {l : List Int} (h : OutC w g T l) {j : Nat} (hj : j < l.length) : w.cell? ⟨g, j, none⟩ = some (.int .i64 (nth l j)) := by
  obtain ⟨cs, h1, h2, h3⟩ := h
  simp [World.cell?, h1, h3 j hj]
theorem OutC.frozen {w : World} {g : Nat} {T : TypeId} {l : List Int} (h : OutC w g T l) (j : Nat) : w.frozen? ⟨g, j, none⟩ = false := by
  obtain ⟨cs, h1, h2, h3⟩ := h
  simp [World.frozen?, h1]
theorem OutC.set {w : World} {g : Nat} {T : TypeId} {l : List Int} (h : OutC w g T l) (j : Nat) (v : Int) (hj : j < l.length) : OutC (w.setCell ⟨g, j, none⟩ (.int .i64 v)) g T (l.set j v) := by
  obtain ⟨cs, h1, h2, h3⟩ := h
  refine ⟨cs.setIfInBounds j (.int .i64 v), by simp [World.setCell, Array.getElem?_modify, h1], by simpa using h2, fun k hk => ?_⟩
  rw [List.length_set] at hk
  rw [nth_set l j k v hj, Array.getElem?_setIfInBounds]
  by_cases e : j = k
  · subst e; rw [if_pos rfl, if_pos (by omega), if_pos rfl]
  · rw [if_neg e, if_neg (fun g => e g.symm), h3 k hk]
theorem OutC.far {w : World} {g : Nat} {T : TypeId} {l : List Int} (h : OutC w g T l) {p : Addr} (hp : g ≠ p.block) (u : Value) : OutC (w.setCell p u) g T l := by
  obtain ⟨cs, h1, h2, h3⟩ := h
  exact ⟨cs, (Below.heap_setCell _ _ _ _ hp).trans h1, h2, h3⟩
theorem OutC.is {w : World} {g B : Nat} {T : TypeId} {l : List Int} (h : OutC w g T l) (hB : g < B) : Is .i64 w B (some ⟨g, 0, none⟩) l := fun _ =>
  ⟨g, 0, rfl, hB, fun j hj => by rw [Nat.zero_add]; exact h.cell hj⟩
theorem OutC.below {w w1 : World} {g : Nat} {T : TypeId} {l : List Int} (h : OutC w g T l) (hb : Below w.heap.size w w1) : OutC w1 g T l := by
  obtain ⟨cs, h1, h2, h3⟩ := h
  exact ⟨cs, (hb.block g (heap_lt h1)).trans h1, h2, h3⟩
theorem OutC.lt {w : World} {g : Nat} {T : TypeId} {l : List Int} (h : OutC w g T l) : g < w.heap.size := by obtain ⟨cs, h1, _⟩ := h; exact heap_lt h1
theorem OutC.of {w : World} {B : Nat} {A : Option Addr} {T : TypeId} {l : List Int} (h : Own .i64 w B A T l) (hn : 0 < l.length) : ∃ g, A = some ⟨g, 0, none⟩ ∧ B ≤ g ∧ OutC w g T l := by
  obtain ⟨g, cs, e, hB, hh, hc⟩ := h hn
  have := (Array.getElem?_eq_some_iff.1 (hc (l.length - 1) (by omega))).1
  exact ⟨g, e, hB, cs, hh, by omega, hc⟩
/-- The numbers of a, the first k of them moved by n. -/
def mvd (a : List Int) (n : Int) (k : Nat) : List Int := (a.take k).map (fun v => wrap64 (v + n)) ++ a.drop k
theorem mvd_len (a : List Int) (n : Int) (k : Nat) : (mvd a n k).length = a.length := by unfold mvd; simp; omega
theorem mvd_0 (a : List Int) (n : Int) : mvd a n 0 = a := by simp [mvd]
theorem mvd_all (a : List Int) (n : Int) : mvd a n a.length = a.map (fun v => wrap64 (v + n)) := by simp [mvd]
theorem mvd_nth (a : List Int) (n : Int) (k : Nat) (h : k < a.length) : nth (mvd a n k) k = nth a k := by
  unfold mvd nth
  rw [List.getD_eq_getElem?_getD, List.getElem?_append_right (by simp; omega), List.getD_eq_getElem?_getD]
  simp [Nat.min_eq_left (Nat.le_of_lt h)]
theorem mvd_set (a : List Int) (n : Int) (k : Nat) (h : k < a.length) : (mvd a n k).set k (wrap64 (nth a k + n)) = mvd a n (k + 1) := by
  unfold mvd
  rw [List.set_append_right _ _ (by simp; omega), take_nth a k h]
  simp [Nat.min_eq_left (Nat.le_of_lt h)]
  rw [List.drop_eq_getElem_cons h]; rfl
theorem mv_shift {a b : List Int} {u n : Int} (ha : okTo a a.length = true) (hb : okTo b b.length = true) (hn : 0 ≤ n ∧ n ≤ 65535) :
    gr u (a.map (fun v => wrap64 (v + n))) (b.map (fun v => wrap64 (v + n))) 0 0 = gr u a b 0 0 := by
  have e : ∀ l : List Int, okTo l l.length = true → l.map (fun v => wrap64 (v + n)) = l.map (· + n) := fun l hl => by
    apply List.map_congr_left
    intro v hv
    obtain ⟨k, hk, rfl⟩ := List.getElem_of_mem hv
    have h1 := okTo_pos hl hk
    have h2 := (okTo_at hl hk).2
    have e : nth l k = l[k] := by simp [nth, List.getD_eq_getElem?_getD, hk]
    rw [e] at h1 h2
    exact IntWalk.wrap64_in _ (by omega)
  rw [e a ha, e b hb]
  exact gr_shift u n a b _ 0 0 (Nat.le_refl _)
theorem Own.set {w : World} {B : Nat} {A : Option Addr} {T : TypeId} {l : List Int} (h : Own .i64 w B A T l) (k : Nat) (v : Int) (hk : k < l.length) :
    ∃ g, A = some ⟨g, 0, none⟩ ∧ B ≤ g ∧ g < w.heap.size ∧ w.cell? ⟨g, k, none⟩ = some (.int .i64 (nth l k)) ∧ w.frozen? ⟨g, k, none⟩ = false ∧ Own .i64 (w.setCell ⟨g, k, none⟩ (.int .i64 v)) B A T (l.set k v) := by
  obtain ⟨g, e, hB, hC⟩ := OutC.of h (by omega)
  refine ⟨g, e, hB, hC.lt, hC.cell hk, hC.frozen k, fun _ => ?_⟩
  obtain ⟨cs, c1, c2, c3⟩ := hC.set k v hk
  exact ⟨g, cs, e, hB, c1, c3⟩
set_option maxRecDepth 100000 in
set_option maxHeartbeats 8000000 in
theorem frWider (A A' : Option Addr) (cap cap' : Nat) (a b : List Int) (u m n : Int) (w : World) (hA : Is .i64 w w.heap.size A a) (hA' : Is .i64 w w.heap.size A' b) (hu : 0 ≤ u ∧ u ≤ 65535) (hm : 0 ≤ m ∧ m ≤ 65535) (hn : 0 ≤ n ∧ n ≤ 65535) :
    Calls Try.prog 8 #[.slice A a.length cap, .slice A' b.length cap', .int .u16 u, .int .u16 m, .int .u16 n] w fun e w' => e = .returned (.bool true) ∧ Below w.heap.size w w' := by
  have R0 := two_rows (cap := cap) (cap' := cap') (Nat.le_refl _) hA hA'
  have B0 : Below w.heap.size w (w.alloc (.cells #[.slice A a.length cap, .slice A' b.length cap'] 22)) := (Below.refl _ _).alloc (Nat.le_refl _) _
  obtain ⟨u0, u1⟩ := hu
  obtain ⟨m0, m1⟩ := hm
  by_cases hl : lngP [a, b]
  · have L := Lib.hid (long_t _ 2 [a, b] _ _ R0 (show (2 : Nat) ≤ maxLen by unfold maxLen; decide) hl)
    clear R0 hA hA' hl
    go_enter Try.func8, Try.ntmps8
    go_wp2_with fail
    refine L.out.mono ?_
    rintro e w' ⟨rfl, rfl⟩
    go_wp2_with fail
    refine (awake11 _).mono ?_
    rintro e w2 ⟨rfl, hb2⟩
    go_wp2_with fail
    go_ret
    exact ⟨rfl, B0.trans (hb2.mono (by simp))⟩
  · have L := Lib.hid (long_f _ 2 [a, b] _ _ R0 hl)
    have h70 : a.length ≤ 70 ∧ b.length ≤ 70 := by rw [lng_two] at hl; omega
    obtain ⟨ha70, hb70⟩ := h70
    have HA := Lib.hid hA
    have HA' := Lib.hid hA'
    have HN := Lib.hid hn
    have n0 := hn.1
    have n1 := hn.2
    clear R0 hA hA' hl hn
    go_enter Try.func8, Try.ntmps8
    go_wp2_with fail
    refine L.out.mono ?_
    rintro e w' ⟨rfl, rfl⟩
    go_wp2_with fail
    refine (awake11 _).mono ?_
    rintro e w1 ⟨rfl, hb1⟩
    have B1 : Below w.heap.size w w1 := B0.trans (hb1.mono (by simp))
    have s1 := B1.size
    clear hb1 B0 L
    go_wp2_with fail
    refine (match13 A A' cap cap' a b u w.heap.size w1 s1 (HA.out.below B1) (HA'.out.below B1) (by omega) (by omega)).mono ?_
    rintro e w2 ⟨v2, rfl, hv2, hb2⟩
    obtain ⟨A2, cap2, rfl, own2⟩ := hv2.own
    have s2 := hb2.size
    have B2 : Below w.heap.size w w2 := B1.trans (hb2.mono s1)
    have o2 := Lib.hid own2.is
    clear hv2 own2 hb2
    go_wp2_with fail
    refine (match13 A A' cap cap' a b (u + m) w.heap.size w2 (by omega) (HA.out.below B2) (HA'.out.below B2) (by omega) (by omega)).mono ?_
    rintro e w3 ⟨v3, rfl, hv3, hb3⟩
    obtain ⟨A3, cap3, rfl, -⟩ := hv3.own
    have s3 := hb3.size
    have B3 : Below w.heap.size w w3 := B2.trans (hb3.mono (by omega))
    have o3 := Lib.hid (o2.out.below hb3)
    have hL1 := mtL_64 a b u
    have hL2 := mtL_64 a b (u + m)
    have hW : mtE a b u = 0 → mtE a b (u + m) = 0 → (mtL a b u).length ≤ (mtL a b (u + m)).length := fun h1 h2 => by
      rw [mtL_ok h1, mtL_ok h2]
      have k := mtE_ok.1 h1
      exact gr_wide (by omega) (ckS_ok.1 k.1).2 (ckS_ok.1 k.2.1).2
    obtain ⟨E1, hE1⟩ : ∃ E, E = mtE a b u := ⟨_, rfl⟩
    obtain ⟨E2, hE2⟩ : ∃ E, E = mtE a b (u + m) := ⟨_, rfl⟩
    rw [← hE1, ← hE2] at hW
    rw [← hE1, ← hE2]
    have HE1 := Lib.hid hE1
    have HWW := Lib.hid hW
    clear hE1 hE2 hv3 hb3 hW
    rcases (by omega : ¬ E1 = 0 ∨ (E1 = 0 ∧ ¬ E2 = 0) ∨ (E1 = 0 ∧ E2 = 0)) with e1 | ⟨e1, e2⟩ | ⟨e1, e2⟩
    rotate_left 2
    · have hle := HWW.out e1 e2
      have hlN : decide ((mtL a b (u + m)).length < (mtL a b u).length) = false := by simp; omega
      have hlI : decide (((mtL a b (u + m)).length : Int) < ((mtL a b u).length : Int)) = false := by simp; omega
      subst e2
      have hE10 : (E1 == 0) = true := by simp [e1]
      have hE11 : (E1 != 0) = false := by simp [e1]
      have HEq := Lib.hid e1
      clear e1 hle
      go_wp2_with fail
      refine (copyInts A cap a w3 ((HA.out.below B3).mono B3.size) (by omega)).mono ?_
      rintro e w4 ⟨v4, rfl, hv4, hb4⟩
      obtain ⟨A4, cap4, rfl, own4⟩ := hv4.own
      have s4 := hb4.size
      have B4 : Below w.heap.size w w4 := B3.trans (hb4.mono B3.size)
      have o4 := Lib.hid (o3.out.below (hb4.mono (by omega) : Below w2.heap.size w3 w4))
      have q4 := Lib.hid own4
      clear hv4 own4 hb4 o3 o2
      go_wp2_with fail
      refine (copyInts A' cap' b w4 ((HA'.out.below B4).mono B4.size) (by omega)).mono ?_
      rintro e w5 ⟨v5, rfl, hv5, hb5⟩
      obtain ⟨A5, cap5, rfl, own5⟩ := hv5.own
      have s5 := hb5.size
      have B5 : Below w.heap.size w w5 := B4.trans (hb5.mono B4.size)
      have o5 := Lib.hid (o4.out.below (hb5.mono (by omega) : Below w2.heap.size w4 w5))
      have q5 := q4.out.below hb5
      have hg4 := Lib.hid (show ∀ g, A4 = some ⟨g, 0, none⟩ → 0 < a.length → g < w4.heap.size from fun g e h => by
        obtain ⟨g', e', -, h2, -⟩ := q4.out.c0 h
        rw [e] at e'
        cases e'
        exact h2)
      have r5 := own5
      rw [← mvd_0 a n] at q5
      clear hv5 own5 hb5 o4 q4
      obtain ⟨P4, hP4⟩ : ∃ P, P = w3.heap.size := ⟨_, rfl⟩
      obtain ⟨P5, hP5⟩ : ∃ P, P = w4.heap.size := ⟨_, rfl⟩
      obtain ⟨P2, hP2⟩ : ∃ P, P = w2.heap.size := ⟨_, rfl⟩
      have hPP : w.heap.size ≤ P2 ∧ P2 ≤ P4 ∧ P4 ≤ P5 := by omega
      obtain ⟨hP0, hP1, hP3⟩ := hPP
      rw [← hP4] at q5
      rw [← hP5] at r5 hg4
      rw [← hP2] at o5
      have B52 : P5 ≤ w5.heap.size := by omega
      clear hP4 hP5 hP2
      go_wp2_with fail
      go_loopw [17] (fun i wr => ∃ k : Nat, k ≤ a.length ∧ i = .int .i64 k ∧ Own .i64 wr P4 A4 3 (mvd a n k) ∧ Own .i64 wr P5 A5 3 b ∧ Below P4 w5 wr) (fun i _ => a.length - (intOf i).toNat)
      case atStart => exact ⟨0, Nat.zero_le _, rfl, q5, r5, Below.refl _ _⟩
      case round =>
        clear q5 r5
        obtain ⟨k, hk, rfl, q5, r5, hB⟩ := hrel
        by_cases hlt : k < a.length
        · obtain ⟨g, rfl, hgB, hgs, c1, c2, hset⟩ := q5.set k (wrap64 (nth a k + n)) (by rw [mvd_len]; exact hlt)
          rw [mvd_nth a n k hlt] at c1
          rw [mvd_set a n k hlt] at hset
          have hkI : (k : Int) < (a.length : Int) := by omega
          have hk0 : (0 : Int) ≤ (k : Int) := by omega
          have hg5 := hg4.out g rfl (by omega)
          have HS := Lib.hid hset
          have HR := Lib.hid r5
          have HB := Lib.hid hB
          clear q5 r5 hB hset
          go_wp2_with fail
          exact ⟨⟨k + 1, by omega, by go_num, HS.out, HR.out.far (p := ⟨g, k, none⟩) hg5 _, HB.out.setCell (p := ⟨g, k, none⟩) hgB _⟩, by simp [intOf]; omega⟩
        · obtain rfl : k = a.length := by omega
          rw [mvd_all] at q5
          have HQ := Lib.hid q5
          have HB := Lib.hid hB
          rw [← mvd_0 b n] at r5
          have B6 : P5 ≤ wr.heap.size := by have := hB.size; omega
          clear q5 hB hlt hk
          go_wp2_with fail
          obtain ⟨wo, rfl⟩ : ∃ wo : World, wo = wr := ⟨_, rfl⟩
          go_loopw [18] (fun i wr => ∃ k : Nat, k ≤ b.length ∧ i = .int .i64 k ∧ Own .i64 wr P5 A5 3 (mvd b n k) ∧ Below P5 wo wr) (fun i _ => b.length - (intOf i).toNat)
          case atStart => exact ⟨0, Nat.zero_le _, rfl, r5, Below.refl _ _⟩
          case round =>
            clear r5
            obtain ⟨k, hk, rfl, r5, hB⟩ := hrel
            by_cases hlt : k < b.length
            · obtain ⟨g, rfl, hgB, hgs, c1, c2, hset⟩ := r5.set k (wrap64 (nth b k + n)) (by rw [mvd_len]; exact hlt)
              rw [mvd_nth b n k hlt] at c1
              rw [mvd_set b n k hlt] at hset
              have hkI : (k : Int) < (b.length : Int) := by omega
              have hk0 : (0 : Int) ≤ (k : Int) := by omega
              have HS := Lib.hid hset
              have HB2 := Lib.hid hB
              clear r5 hB hset
              go_wp2_with fail
              exact ⟨⟨k + 1, by omega, by go_num, HS.out, HB2.out.setCell (p := ⟨g, k, none⟩) hgB _⟩, by simp [intOf]; omega⟩
            · obtain rfl : k = b.length := by omega
              rw [mvd_all] at r5
              have BB : Below w.heap.size w wr := B5.trans ((HB.out.mono (by omega)).trans (hB.mono (by omega)))
              have hxIs : Is .i64 wr wr.heap.size A4 (a.map (fun v => wrap64 (v + n))) := by
                have h1 : Is .i64 wo P5 A4 (a.map (fun v => wrap64 (v + n))) := fun h0 => by
                  obtain ⟨g, e, h1, h2, h3⟩ := HQ.out.c0 h0
                  exact ⟨g, 0, e, hg4.out g e (by simpa using h0), fun j hj => by rw [Nat.zero_add]; exact h3 j hj⟩
                exact (h1.below hB).mono (by have := hB.size; omega)
              have hyIs : Is .i64 wr wr.heap.size A5 (b.map (fun v => wrap64 (v + n))) := r5.is
              have M3 := match13 A4 A5 cap4 cap5 (a.map (fun v => wrap64 (v + n))) (b.map (fun v => wrap64 (v + n))) u wr.heap.size wr (Nat.le_refl _) hxIs hyIs (by rw [List.length_map]; omega) (by rw [List.length_map]; omega)
              rw [List.length_map, List.length_map] at M3
              have O6 := Lib.hid (o5.out.below ((HB.out.mono hP1).trans (hB.mono (by omega))))
              have HM3 := Lib.hid M3
              have hwr := hB.size
              have HBB := Lib.hid BB
              clear r5 hB hxIs hyIs M3 BB hlt hk
              go_wp2_with fail
              refine HM3.out.mono ?_
              rintro e w7 ⟨v7, rfl, hv7, hb7⟩
              obtain ⟨A7, cap7, rfl, own7⟩ := hv7.own
              have s7 := hb7.size
              have B7 := HBB.out.trans (hb7.mono HBB.out.size)
              have p7 := own7.is
              have hlk := mtL_64 (a.map (fun v => wrap64 (v + n))) (b.map (fun v => wrap64 (v + n))) u
              have hfin := fun h => show mtL (a.map (fun v => wrap64 (v + n))) (b.map (fun v => wrap64 (v + n))) u = mtL a b u by
                have h0 : mtE a b u = 0 := by rw [← HE1.out]; exact HEq.out
                rw [mtL_ok h, mtL_ok h0]
                have k := mtE_ok.1 h0
                exact mv_shift (ckS_ok.1 k.1).2 (ckS_ok.1 k.2.1).2 HN.out
              obtain ⟨E3, hE3⟩ : ∃ E, E = mtE (a.map (fun v => wrap64 (v + n))) (b.map (fun v => wrap64 (v + n))) u := ⟨_, rfl⟩
              rw [← hE3] at hfin ⊢
              have o7 : Is .i64 w7 w7.heap.size A2 (flat (mtL a b u)) := (O6.out.below (hb7.mono (by omega))).mono (by omega)
              have Hfin := Lib.hid hfin
              have O7 := Lib.hid o7
              have P7 := Lib.hid p7
              clear hE3 hfin o7 p7 hv7 own7 hb7
              by_cases e3 : E3 = 0
              · have hE30 : (E3 != 0) = false := by simp [e3]
                have hf := Hfin.out e3
                rw [hf]
                rw [hf] at P7
                have EQ := Lib.hid (equalPairs A7 A2 cap7 cap2 (mtL a b u) (mtL a b u) w7.heap.size w7 P7.out O7.out (by omega))
                clear e3 hf Hfin hlk
                go_wp2_with fail
                refine EQ.out.mono ?_
                rintro e w8 ⟨rfl, n8, rfl⟩
                go_wp2_with fail
                go_ret
                exact ⟨by simp, below_drewN B7 n8⟩
              · have hE30 : (E3 != 0) = true := by simp [e3]
                clear e3 Hfin hlk
                go_wp2_with fail
                go_ret
                exact ⟨rfl, B7⟩
    · have hE10 : (E1 == 0) = false := by simp [e1]
      have hE11 : (E1 != 0) = true := by simp [e1]
      have HEq := Lib.hid e1
      clear e1
      go_wp2_with fail
      refine (copyInts A cap a w3 ((HA.out.below B3).mono B3.size) (by omega)).mono ?_
      rintro e w4 ⟨v4, rfl, hv4, hb4⟩
      obtain ⟨A4, cap4, rfl, own4⟩ := hv4.own
      have s4 := hb4.size
      have B4 : Below w.heap.size w w4 := B3.trans (hb4.mono B3.size)
      have o4 := Lib.hid (o3.out.below (hb4.mono (by omega) : Below w2.heap.size w3 w4))
      have q4 := Lib.hid own4
      clear hv4 own4 hb4 o3 o2
      go_wp2_with fail
      refine (copyInts A' cap' b w4 ((HA'.out.below B4).mono B4.size) (by omega)).mono ?_
      rintro e w5 ⟨v5, rfl, hv5, hb5⟩
      obtain ⟨A5, cap5, rfl, own5⟩ := hv5.own
      have s5 := hb5.size
      have B5 : Below w.heap.size w w5 := B4.trans (hb5.mono B4.size)
      have o5 := Lib.hid (o4.out.below (hb5.mono (by omega) : Below w2.heap.size w4 w5))
      have q5 := q4.out.below hb5
      have hg4 := Lib.hid (show ∀ g, A4 = some ⟨g, 0, none⟩ → 0 < a.length → g < w4.heap.size from fun g e h => by
        obtain ⟨g', e', -, h2, -⟩ := q4.out.c0 h
        rw [e] at e'
        cases e'
        exact h2)
      have r5 := own5
      rw [← mvd_0 a n] at q5
      clear hv5 own5 hb5 o4 q4
      obtain ⟨P4, hP4⟩ : ∃ P, P = w3.heap.size := ⟨_, rfl⟩
      obtain ⟨P5, hP5⟩ : ∃ P, P = w4.heap.size := ⟨_, rfl⟩
      obtain ⟨P2, hP2⟩ : ∃ P, P = w2.heap.size := ⟨_, rfl⟩
      have hPP : w.heap.size ≤ P2 ∧ P2 ≤ P4 ∧ P4 ≤ P5 := by omega
      obtain ⟨hP0, hP1, hP3⟩ := hPP
      rw [← hP4] at q5
      rw [← hP5] at r5 hg4
      rw [← hP2] at o5
      have B52 : P5 ≤ w5.heap.size := by omega
      clear hP4 hP5 hP2
      go_wp2_with fail
      go_loopw [17] (fun i wr => ∃ k : Nat, k ≤ a.length ∧ i = .int .i64 k ∧ Own .i64 wr P4 A4 3 (mvd a n k) ∧ Own .i64 wr P5 A5 3 b ∧ Below P4 w5 wr) (fun i _ => a.length - (intOf i).toNat)
      case atStart => exact ⟨0, Nat.zero_le _, rfl, q5, r5, Below.refl _ _⟩
      case round =>
        clear q5 r5
        obtain ⟨k, hk, rfl, q5, r5, hB⟩ := hrel
        by_cases hlt : k < a.length
        · obtain ⟨g, rfl, hgB, hgs, c1, c2, hset⟩ := q5.set k (wrap64 (nth a k + n)) (by rw [mvd_len]; exact hlt)
          rw [mvd_nth a n k hlt] at c1
          rw [mvd_set a n k hlt] at hset
          have hkI : (k : Int) < (a.length : Int) := by omega
          have hk0 : (0 : Int) ≤ (k : Int) := by omega
          have hg5 := hg4.out g rfl (by omega)
          have HS := Lib.hid hset
          have HR := Lib.hid r5
          have HB := Lib.hid hB
          clear q5 r5 hB hset
          go_wp2_with fail
          exact ⟨⟨k + 1, by omega, by go_num, HS.out, HR.out.far (p := ⟨g, k, none⟩) hg5 _, HB.out.setCell (p := ⟨g, k, none⟩) hgB _⟩, by simp [intOf]; omega⟩
        · obtain rfl : k = a.length := by omega
          rw [mvd_all] at q5
          have HQ := Lib.hid q5
          have HB := Lib.hid hB
          rw [← mvd_0 b n] at r5
          have B6 : P5 ≤ wr.heap.size := by have := hB.size; omega
          clear q5 hB hlt hk
          go_wp2_with fail
          obtain ⟨wo, rfl⟩ : ∃ wo : World, wo = wr := ⟨_, rfl⟩
          go_loopw [18] (fun i wr => ∃ k : Nat, k ≤ b.length ∧ i = .int .i64 k ∧ Own .i64 wr P5 A5 3 (mvd b n k) ∧ Below P5 wo wr) (fun i _ => b.length - (intOf i).toNat)
          case atStart => exact ⟨0, Nat.zero_le _, rfl, r5, Below.refl _ _⟩
          case round =>
            clear r5
            obtain ⟨k, hk, rfl, r5, hB⟩ := hrel
            by_cases hlt : k < b.length
            · obtain ⟨g, rfl, hgB, hgs, c1, c2, hset⟩ := r5.set k (wrap64 (nth b k + n)) (by rw [mvd_len]; exact hlt)
              rw [mvd_nth b n k hlt] at c1
              rw [mvd_set b n k hlt] at hset
              have hkI : (k : Int) < (b.length : Int) := by omega
              have hk0 : (0 : Int) ≤ (k : Int) := by omega
              have HS := Lib.hid hset
              have HB2 := Lib.hid hB
              clear r5 hB hset
              go_wp2_with fail
              exact ⟨⟨k + 1, by omega, by go_num, HS.out, HB2.out.setCell (p := ⟨g, k, none⟩) hgB _⟩, by simp [intOf]; omega⟩
            · obtain rfl : k = b.length := by omega
              rw [mvd_all] at r5
              have BB : Below w.heap.size w wr := B5.trans ((HB.out.mono (by omega)).trans (hB.mono (by omega)))
              have hxIs : Is .i64 wr wr.heap.size A4 (a.map (fun v => wrap64 (v + n))) := by
                have h1 : Is .i64 wo P5 A4 (a.map (fun v => wrap64 (v + n))) := fun h0 => by
                  obtain ⟨g, e, h1, h2, h3⟩ := HQ.out.c0 h0
                  exact ⟨g, 0, e, hg4.out g e (by simpa using h0), fun j hj => by rw [Nat.zero_add]; exact h3 j hj⟩
                exact (h1.below hB).mono (by have := hB.size; omega)
              have hyIs : Is .i64 wr wr.heap.size A5 (b.map (fun v => wrap64 (v + n))) := r5.is
              have M3 := match13 A4 A5 cap4 cap5 (a.map (fun v => wrap64 (v + n))) (b.map (fun v => wrap64 (v + n))) u wr.heap.size wr (Nat.le_refl _) hxIs hyIs (by rw [List.length_map]; omega) (by rw [List.length_map]; omega)
              rw [List.length_map, List.length_map] at M3
              have O6 := Lib.hid (o5.out.below ((HB.out.mono hP1).trans (hB.mono (by omega))))
              have HM3 := Lib.hid M3
              have hwr := hB.size
              have HBB := Lib.hid BB
              clear r5 hB hxIs hyIs M3 BB hlt hk
              go_wp2_with fail
              refine HM3.out.mono ?_
              rintro e w7 ⟨v7, rfl, hv7, hb7⟩
              obtain ⟨A7, cap7, rfl, own7⟩ := hv7.own
              have s7 := hb7.size
              have B7 := HBB.out.trans (hb7.mono HBB.out.size)
              clear hv7 own7 hb7
              go_wp2_with fail
              go_ret
              exact ⟨rfl, B7⟩
    · have hE10 : (E1 == 0) = true := by simp [e1]
      have hE11 : (E1 != 0) = false := by simp [e1]
      have hE20 : (E2 == 0) = false := by simp [e2]
      have HEq := Lib.hid e1
      clear e1 e2
      go_wp2_with fail
      refine (copyInts A cap a w3 ((HA.out.below B3).mono B3.size) (by omega)).mono ?_
      rintro e w4 ⟨v4, rfl, hv4, hb4⟩
      obtain ⟨A4, cap4, rfl, own4⟩ := hv4.own
      have s4 := hb4.size
      have B4 : Below w.heap.size w w4 := B3.trans (hb4.mono B3.size)
      have o4 := Lib.hid (o3.out.below (hb4.mono (by omega) : Below w2.heap.size w3 w4))
      have q4 := Lib.hid own4
      clear hv4 own4 hb4 o3 o2
      go_wp2_with fail
      refine (copyInts A' cap' b w4 ((HA'.out.below B4).mono B4.size) (by omega)).mono ?_
      rintro e w5 ⟨v5, rfl, hv5, hb5⟩
      obtain ⟨A5, cap5, rfl, own5⟩ := hv5.own
      have s5 := hb5.size
      have B5 : Below w.heap.size w w5 := B4.trans (hb5.mono B4.size)
      have o5 := Lib.hid (o4.out.below (hb5.mono (by omega) : Below w2.heap.size w4 w5))
      have q5 := q4.out.below hb5
      have hg4 := Lib.hid (show ∀ g, A4 = some ⟨g, 0, none⟩ → 0 < a.length → g < w4.heap.size from fun g e h => by
        obtain ⟨g', e', -, h2, -⟩ := q4.out.c0 h
        rw [e] at e'
        cases e'
        exact h2)
      have r5 := own5
      rw [← mvd_0 a n] at q5
      clear hv5 own5 hb5 o4 q4
      obtain ⟨P4, hP4⟩ : ∃ P, P = w3.heap.size := ⟨_, rfl⟩
      obtain ⟨P5, hP5⟩ : ∃ P, P = w4.heap.size := ⟨_, rfl⟩
      obtain ⟨P2, hP2⟩ : ∃ P, P = w2.heap.size := ⟨_, rfl⟩
      have hPP : w.heap.size ≤ P2 ∧ P2 ≤ P4 ∧ P4 ≤ P5 := by omega
      obtain ⟨hP0, hP1, hP3⟩ := hPP
      rw [← hP4] at q5
      rw [← hP5] at r5 hg4
      rw [← hP2] at o5
      have B52 : P5 ≤ w5.heap.size := by omega
      clear hP4 hP5 hP2
      go_wp2_with fail
      go_loopw [17] (fun i wr => ∃ k : Nat, k ≤ a.length ∧ i = .int .i64 k ∧ Own .i64 wr P4 A4 3 (mvd a n k) ∧ Own .i64 wr P5 A5 3 b ∧ Below P4 w5 wr) (fun i _ => a.length - (intOf i).toNat)
      case atStart => exact ⟨0, Nat.zero_le _, rfl, q5, r5, Below.refl _ _⟩
      case round =>
        clear q5 r5
        obtain ⟨k, hk, rfl, q5, r5, hB⟩ := hrel
        by_cases hlt : k < a.length
        · obtain ⟨g, rfl, hgB, hgs, c1, c2, hset⟩ := q5.set k (wrap64 (nth a k + n)) (by rw [mvd_len]; exact hlt)
          rw [mvd_nth a n k hlt] at c1
          rw [mvd_set a n k hlt] at hset
          have hkI : (k : Int) < (a.length : Int) := by omega
          have hk0 : (0 : Int) ≤ (k : Int) := by omega
          have hg5 := hg4.out g rfl (by omega)
          have HS := Lib.hid hset
          have HR := Lib.hid r5
          have HB := Lib.hid hB
          clear q5 r5 hB hset
          go_wp2_with fail
          exact ⟨⟨k + 1, by omega, by go_num, HS.out, HR.out.far (p := ⟨g, k, none⟩) hg5 _, HB.out.setCell (p := ⟨g, k, none⟩) hgB _⟩, by simp [intOf]; omega⟩
        · obtain rfl : k = a.length := by omega
          rw [mvd_all] at q5
          have HQ := Lib.hid q5
          have HB := Lib.hid hB
          rw [← mvd_0 b n] at r5
          have B6 : P5 ≤ wr.heap.size := by have := hB.size; omega
          clear q5 hB hlt hk
          go_wp2_with fail
          obtain ⟨wo, rfl⟩ : ∃ wo : World, wo = wr := ⟨_, rfl⟩
          go_loopw [18] (fun i wr => ∃ k : Nat, k ≤ b.length ∧ i = .int .i64 k ∧ Own .i64 wr P5 A5 3 (mvd b n k) ∧ Below P5 wo wr) (fun i _ => b.length - (intOf i).toNat)
          case atStart => exact ⟨0, Nat.zero_le _, rfl, r5, Below.refl _ _⟩
          case round =>
            clear r5
            obtain ⟨k, hk, rfl, r5, hB⟩ := hrel
            by_cases hlt : k < b.length
            · obtain ⟨g, rfl, hgB, hgs, c1, c2, hset⟩ := r5.set k (wrap64 (nth b k + n)) (by rw [mvd_len]; exact hlt)
              rw [mvd_nth b n k hlt] at c1
              rw [mvd_set b n k hlt] at hset
              have hkI : (k : Int) < (b.length : Int) := by omega
              have hk0 : (0 : Int) ≤ (k : Int) := by omega
              have HS := Lib.hid hset
              have HB2 := Lib.hid hB
              clear r5 hB hset
              go_wp2_with fail
              exact ⟨⟨k + 1, by omega, by go_num, HS.out, HB2.out.setCell (p := ⟨g, k, none⟩) hgB _⟩, by simp [intOf]; omega⟩
            · obtain rfl : k = b.length := by omega
              rw [mvd_all] at r5
              have BB : Below w.heap.size w wr := B5.trans ((HB.out.mono (by omega)).trans (hB.mono (by omega)))
              have hxIs : Is .i64 wr wr.heap.size A4 (a.map (fun v => wrap64 (v + n))) := by
                have h1 : Is .i64 wo P5 A4 (a.map (fun v => wrap64 (v + n))) := fun h0 => by
                  obtain ⟨g, e, h1, h2, h3⟩ := HQ.out.c0 h0
                  exact ⟨g, 0, e, hg4.out g e (by simpa using h0), fun j hj => by rw [Nat.zero_add]; exact h3 j hj⟩
                exact (h1.below hB).mono (by have := hB.size; omega)
              have hyIs : Is .i64 wr wr.heap.size A5 (b.map (fun v => wrap64 (v + n))) := r5.is
              have M3 := match13 A4 A5 cap4 cap5 (a.map (fun v => wrap64 (v + n))) (b.map (fun v => wrap64 (v + n))) u wr.heap.size wr (Nat.le_refl _) hxIs hyIs (by rw [List.length_map]; omega) (by rw [List.length_map]; omega)
              rw [List.length_map, List.length_map] at M3
              have O6 := Lib.hid (o5.out.below ((HB.out.mono hP1).trans (hB.mono (by omega))))
              have HM3 := Lib.hid M3
              have hwr := hB.size
              have HBB := Lib.hid BB
              clear r5 hB hxIs hyIs M3 BB hlt hk
              go_wp2_with fail
              refine HM3.out.mono ?_
              rintro e w7 ⟨v7, rfl, hv7, hb7⟩
              obtain ⟨A7, cap7, rfl, own7⟩ := hv7.own
              have s7 := hb7.size
              have B7 := HBB.out.trans (hb7.mono HBB.out.size)
              have p7 := own7.is
              have hlk := mtL_64 (a.map (fun v => wrap64 (v + n))) (b.map (fun v => wrap64 (v + n))) u
              have hfin := fun h => show mtL (a.map (fun v => wrap64 (v + n))) (b.map (fun v => wrap64 (v + n))) u = mtL a b u by
                have h0 : mtE a b u = 0 := by rw [← HE1.out]; exact HEq.out
                rw [mtL_ok h, mtL_ok h0]
                have k := mtE_ok.1 h0
                exact mv_shift (ckS_ok.1 k.1).2 (ckS_ok.1 k.2.1).2 HN.out
              obtain ⟨E3, hE3⟩ : ∃ E, E = mtE (a.map (fun v => wrap64 (v + n))) (b.map (fun v => wrap64 (v + n))) u := ⟨_, rfl⟩
              rw [← hE3] at hfin ⊢
              have o7 : Is .i64 w7 w7.heap.size A2 (flat (mtL a b u)) := (O6.out.below (hb7.mono (by omega))).mono (by omega)
              have Hfin := Lib.hid hfin
              have O7 := Lib.hid o7
              have P7 := Lib.hid p7
              clear hE3 hfin o7 p7 hv7 own7 hb7
              by_cases e3 : E3 = 0
              · have hE30 : (E3 != 0) = false := by simp [e3]
                have hf := Hfin.out e3
                rw [hf]
                rw [hf] at P7
                have EQ := Lib.hid (equalPairs A7 A2 cap7 cap2 (mtL a b u) (mtL a b u) w7.heap.size w7 P7.out O7.out (by omega))
                clear e3 hf Hfin hlk
                go_wp2_with fail
                refine EQ.out.mono ?_
                rintro e w8 ⟨rfl, n8, rfl⟩
                go_wp2_with fail
                go_ret
                exact ⟨by simp, below_drewN B7 n8⟩
              · have hE30 : (E3 != 0) = true := by simp [e3]
                clear e3 Hfin hlk
                go_wp2_with fail
                go_ret
                exact ⟨rfl, B7⟩

theorem frWiderL (A0 : Option Addr) (len0 cap0 : Nat) (z0 : List Int) (A1 : Option Addr) (len1 cap1 : Nat) (z1 : List Int) (u m n : Int) (w : World) (h0 : IsRow .i64 w A0 len0 cap0 z0) (h1 : IsRow .i64 w A1 len1 cap1 z1) (wu : (Lit.int .u16 u).wf = true) (wm : (Lit.int .u16 m).wf = true) (wn : (Lit.int .u16 n).wf = true) :
    Calls Try.prog 8 #[.slice A0 len0 cap0, .slice A1 len1 cap1, .int .u16 u, .int .u16 m, .int .u16 n] w fun e w' => e = .returned (.bool true) ∧ Below w.heap.size w w' := by
  have hu : 0 ≤ u ∧ u ≤ 65535 := by simpa [Lit.wf, IntKind.min, IntKind.max, IntKind.signed, IntKind.bits] using wu
  have hm : 0 ≤ m ∧ m ≤ 65535 := by simpa [Lit.wf, IntKind.min, IntKind.max, IntKind.signed, IntKind.bits] using wm
  have hn : 0 ≤ n ∧ n ≤ 65535 := by simpa [Lit.wf, IntKind.min, IntKind.max, IntKind.signed, IntKind.bits] using wn
  obtain ⟨k1, k2, k3, -⟩ := Is.of_row h0
  obtain ⟨m1, m2, m3, -⟩ := Is.of_row h1
  have H := frWider A0 A1 cap0 cap1 (z0.take len0) (z1.take len1) u m n w k1 m1 hu hm hn
  rw [k2, m2] at H
  exact H

namespace fruitWiderRow
open Go.ChangeShapes Go.WideShapes Go.ChangeAt Go.RowKit
open Go.ChangeMaps (open_string shut_string)
set_option linter.unusedVariables false
theorem own : ownKnob Try.prog.godebug = none := by kernel_rfl
theorem laidOut : laidOutB Try.prog = true := by kernel_rfl
set_option maxRecDepth 100000 in
theorem lifted (os : Os) (started : os.Started) (H : Type) (enc : TypeId × Value → H) :
    ReturnsInHanded {} Try.checked os 8 .any (Rows.fruitWiderSpec.pre6 enc Try.prog Try.f8 Rows.fruitWiderRow.domain false) (Rows.fruitWiderSpec.post enc Try.prog Try.f8 false true false false) := by
  refine returnsInHanded_of_change (C := Try.checked) own started (by kernel_rfl) Try.func8
    (ChangeSpec.witness6 (enc := enc) (C := Try.checked) false ⟨#[], #[.slice none 0 0, .slice none 0 0, .int .u16 0, .int .u16 0, .int .u16 0], []⟩ 8 (by kernel_rfl) (by kernel_rfl) (by kernel_rfl) (by kernel_rfl)) ?_
  intro W base args ds gs before hval0 hW hcnd _hsz
  have hval : ∀ (j : Nat) t v, Try.f8.params[j]? = some t → args[j]? = some v → Value.okWide Try.prog W .any base t v := hval0
  have hW' := hW
  obtain ⟨p, q, hA0, hV, rfl, hfz, hnd⟩ := hW
  have hA : DataW.TrodAll enc Try.prog W 0 (fun _ => true) true Try.f8.params.toList args.toList ds p := hA0
  rw [Try.params8] at hA hval
  obtain ⟨v0, vs0, d0, ds0, p0, q0, hargs, rfl, rfl, h0, r0⟩ := trodAll_cons hA
  obtain ⟨v1, vs1, d1, ds1, p1, q1, rfl, rfl, rfl, h1, r1⟩ := trodAll_cons r0
  obtain ⟨v2, vs2, d2, ds2, p2, q2, rfl, rfl, rfl, h2, r2⟩ := trodAll_cons r1
  obtain ⟨v3, vs3, d3, ds3, p3, q3, rfl, rfl, rfl, h3, r3⟩ := trodAll_cons r2
  obtain ⟨v4, vs4, d4, ds4, p4, q4, rfl, rfl, rfl, h4, r4⟩ := trodAll_cons r3
  obtain ⟨rfl, rfl, rfl⟩ := trodAll_nil r4
  obtain rfl : args = #[v0, v1, v2, v3, v4] := by cases args; simp_all
  obtain ⟨rfl, rfl⟩ := trodVars_none hV
  have k0 := h0
  have lt0 : ∀ x ∈ p0, x.block < W.heap.size := by obtain ⟨m, hm⟩ := k0; exact DataW.trod_lt m _ _ _ hm
  have k1 := h1
  have lt1 : ∀ x ∈ p1, x.block < W.heap.size := by obtain ⟨m, hm⟩ := k1; exact DataW.trod_lt m _ _ _ hm
  have k2 := h2
  have lt2 : ∀ x ∈ p2, x.block < W.heap.size := by obtain ⟨m, hm⟩ := k2; exact DataW.trod_lt m _ _ _ hm
  have k3 := h3
  have lt3 : ∀ x ∈ p3, x.block < W.heap.size := by obtain ⟨m, hm⟩ := k3; exact DataW.trod_lt m _ _ _ hm
  have k4 := h4
  have lt4 : ∀ x ∈ p4, x.block < W.heap.size := by obtain ⟨m, hm⟩ := k4; exact DataW.trod_lt m _ _ _ hm
  obtain ⟨a0, len0, cap0, rfl⟩ := okWide_slice Try.underlying22 (hval 0 22 v0 rfl rfl)
  obtain ⟨z0, w0⟩ : ∃ zs, IsRow .i64 W a0 len0 cap0 zs := by
    obtain ⟨fuel, hf⟩ := h0
    rcases open_ints Try.underlying22 Try.underlying3 (by kernel_rfl) hf with ⟨hcs, _⟩ | ⟨x, l, c, zs, hcs, _, hl, hm, hz, _, hcell, hwz⟩
    · simp [Value.cells] at hcs
      obtain ⟨rfl, rfl, rfl⟩ := hcs
      exact ⟨[], .inl ⟨rfl, rfl, rfl, rfl⟩⟩
    · simp [Value.cells] at hcs
      obtain ⟨rfl, rfl, rfl⟩ := hcs
      exact ⟨zs, .inr ⟨_, rfl, hl, hm, by simpa using hz, hcell, hwz⟩⟩
  obtain ⟨a1, len1, cap1, rfl⟩ := okWide_slice Try.underlying22 (hval 1 22 v1 rfl rfl)
  obtain ⟨z1, w1⟩ : ∃ zs, IsRow .i64 W a1 len1 cap1 zs := by
    obtain ⟨fuel, hf⟩ := h1
    rcases open_ints Try.underlying22 Try.underlying3 (by kernel_rfl) hf with ⟨hcs, _⟩ | ⟨x, l, c, zs, hcs, _, hl, hm, hz, _, hcell, hwz⟩
    · simp [Value.cells] at hcs
      obtain ⟨rfl, rfl, rfl⟩ := hcs
      exact ⟨[], .inl ⟨rfl, rfl, rfl, rfl⟩⟩
    · simp [Value.cells] at hcs
      obtain ⟨rfl, rfl, rfl⟩ := hcs
      exact ⟨zs, .inr ⟨_, rfl, hl, hm, by simpa using hz, hcell, hwz⟩⟩
  obtain ⟨a2, rfl, -, -, w2⟩ := open_int Try.underlying51 (hval 2 51 v2 rfl rfl) h2
  obtain ⟨a3, rfl, -, -, w3⟩ := open_int Try.underlying51 (hval 3 51 v3 rfl rfl) h3
  obtain ⟨a4, rfl, -, -, w4⟩ := open_int Try.underlying51 (hval 4 51 v4 rfl rfl) h4
  clear hA0 hval0
  refine (frWiderL a0 len0 cap0 z0 a1 len1 cap1 z1 a2 a3 a4 W w0 w1 w2 w3 w4).mono fun e W' ⟨he, bel⟩ => ?_
  subst he
  exact ⟨_, rfl, _, _, _, [], _, [], hW', trodAll_mk1 (shut_bool Try.underlying4 _), (trodAll_cons_mk (Below.trod laidOut (by kernel_rfl) (of_decide_eq_true (by kernel_rfl)) k0 bel lt0) (trodAll_cons_mk (Below.trod laidOut (by kernel_rfl) (of_decide_eq_true (by kernel_rfl)) k1 bel lt1) (trodAll_cons_mk (Below.trod laidOut (by kernel_rfl) (of_decide_eq_true (by kernel_rfl)) k2 bel lt2) (trodAll_cons_mk (Below.trod laidOut (by kernel_rfl) (of_decide_eq_true (by kernel_rfl)) k3 bel lt3) (trodAll_cons_mk (Below.trod laidOut (by kernel_rfl) (of_decide_eq_true (by kernel_rfl)) k4 bel lt4) trodAll_mk0))))), rfl, bel.frame _, fun h => by cases h⟩

theorem over : Rows.fruitWiderRow.holds Try.pinned (OpenSpec.ofChange Rows.fruitWiderSpec) :=
  OpenClaim.holds_of_wide 8 Try.f8 rfl rfl rfl rfl rfl rfl rfl ⟨rfl, rfl, rfl, rfl, rfl⟩ rfl rfl rfl rfl rfl (by kernel_rfl) Try.func8 (by kernel_rfl)
    (of_decide_eq_true (by kernel_rfl)) (by unfold Func.isWrapper; first | (rw [if_pos (by decide +kernel)]; kernel_rfl) | (rw [if_neg (by decide +kernel)]; exact ⟨rfl, rfl⟩))
    (fun os started H enc _ => lifted os started H enc)
theorem proved : Rows.FruitWiderSaid := over
end fruitWiderRow
end Go.Proofs.Ytmkpblfacnnnoaa
