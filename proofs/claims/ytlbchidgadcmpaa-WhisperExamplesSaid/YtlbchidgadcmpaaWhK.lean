/- The kit: CopyInts, CopySteps, EqualSteps, EqualRows, OverInts, OverRows. -/
import Derived.Test.YtlbchidgadcmpaaRows
import Derived.WalkKit
import Derived.WalkLawsBesides
import Derived.WalkSpells
import Derived.ProofKit
import Derived.Below
import Derived.Outline
import Derived.Lib.Hide
import Derived.Deep.RegionWith
import Derived.Deep.RegionHeld3
import Derived.Deep.DrawnRows
import Derived.StillTailTactics
import Derived.BigQuiet
import Derived.Deep.QuietTactic
import Derived.Deep.LoopGhost
import Derived.IntWalk
import Derived.Test.YtlbchidgadcmpaaWhF
import Derived.Test.YtlbchidgadcmpaaKE
namespace Go.Proofs.Ytlbchidgadcmpaa
open Go.RowKit
attribute [local go_sem ↓] Go.wp_at_zero Go.wp_at_succ
attribute [local go_sem] wrap_lit
set_option maxHeartbeats 1000000 in
theorem copyInts (A : Option Addr) (cap : Nat) (xs : List Int) (w : World) (hA : Is .i64 w w.heap.size A xs) (hl : xs.length ≤ 1000000) :
    Calls Try.prog 12 #[.slice A xs.length cap] w fun e w' => ∃ v, e = .returned v ∧ Acc .i64 w' w.heap.size 3 1 v xs.length xs ∧ Below w.heap.size w w' := by
  obtain ⟨i0, hi0, hz0, hz1, hz2⟩ := info_parts int_info
  go_enter Try.func12, Try.ntmps12
  go_wp2_with fail
  go_loopw [3, 4] (fun v i wr => ∃ k : Nat, k ≤ xs.length ∧ i = .int .i64 k ∧ Acc .i64 wr w.heap.size 3 1 v k (xs.take k) ∧ Below w.heap.size w wr) (fun _ i _ => xs.length - (intOf i).toNat)
  case atStart => exact ⟨0, Nat.zero_le _, rfl, Acc.nil _ _ _ _ _, Below.refl _ _⟩
  case round =>
    obtain ⟨k, hk, rfl, hown, hb⟩ := hrel
    by_cases hlt : k < xs.length
    · obtain ⟨b, off, rfl, hbb, hc⟩ := hA (by omega)
      have hcell : wr.cell? ⟨b, off + k, none⟩ = some (.int .i64 (nth xs k)) := (hb.cell (p := ⟨b, off + k, none⟩) hbb).trans (hc k hlt)
      clear hc
      have hlI : (k : Int) < (xs.length : Int) := by omega
      go_wp2_with (at_builtin; refine wpList_app rfl _ _ 23 rfl .i64 w.heap.size 3 i0 _ 1 8 Try.underlying23 hi0 hz0 hz1 hz2 rfl (by decide) _ _ _ [nth xs k] rfl hown _ rfl rfl rfl (by omega) (by decide) hb.size ?_; intro v' w1 hown1 hb1)
      exact ⟨⟨k + 1, by omega, by go_num, by rw [take_nth _ _ hlt]; exact hown1, hb.trans hb1⟩, by simp [intOf]; omega⟩
    · obtain rfl : k = xs.length := by omega
      rw [List.take_length] at hown
      go_wp2_with fail
      go_ret
      exact ⟨_, rfl, hown, hb⟩

theorem flatS_nth2 (l : List (Int × Int)) (k : Nat) (h : k < l.length) : nth (flatS l) (k * 2) = (l.getD k (0, 0)).1 ∧ nth (flatS l) (k * 2 + 1) = (l.getD k (0, 0)).2 := flatS_nth l k h
set_option maxHeartbeats 1000000 in
theorem copySteps (A : Option Addr) (cap : Nat) (l : List (Int × Int)) (w : World) (hA : Is .i64 w w.heap.size A (flatS l)) (hnil : A = none → cap = 0) (hl : l.length ≤ 1000000) :
    Calls Try.prog 11 #[.slice A l.length cap] w fun e w' => ∃ v, e = .returned v ∧ Acc .i64 w' w.heap.size 44 2 v l.length (flatS l) ∧ Below w.heap.size w w' := by
  obtain ⟨i0, hi0, hz0, hz1, hz2⟩ := info_parts Step_info
  have fl := flatS_len l
  rcases A with _ | a
  · obtain rfl := hnil rfl
    have h0 : l.length = 0 := by
      rcases Nat.eq_zero_or_pos l.length with h | h
      · exact h
      · obtain ⟨b, off, e, -⟩ := hA (by omega)
        cases e
    obtain rfl : l = [] := List.eq_nil_of_length_eq_zero h0
    clear fl hA
    go_enter Try.func11, Try.ntmps11
    go_wp2_with (at_builtin; refine wpList_append_own_none rfl _ _ 22 rfl w.heap.size 44 i0 2 Try.underlying22 hi0 _ 0 [] rfl (World.ownsRow_nil _ _ _ _) rfl ?_)
    go_ret
    exact ⟨_, rfl, Acc.nil _ _ _ _ _, Below.refl _ _⟩
  · have Hc := Lib.hid (show ∀ j, j < (flatS l).length → w.cell? (a.add j) = some (.int .i64 (nth (flatS l) j)) from fun j hj => by
      obtain ⟨b, off, e, hb, hc⟩ := hA (by omega)
      obtain rfl : a = ⟨b, off, none⟩ := by simpa using e
      rw [addr_add]; exact hc j hj)
    clear hA hnil
    go_enter Try.func11, Try.ntmps11
    go_wp2_with (at_builtin; refine wpList_append_own _ rfl _ _ 22 rfl w.heap.size 44 i0 _ 2 16 Try.underlying22 hi0 hz0 hz1 hz2 rfl (by decide) _ 0 [] rfl (World.ownsRow_nil _ _ _ _) a l.length cap ((flatS l).map (Value.int .i64)) rfl (by simp [fl]) (fun j v hv => ?_) (fun v hv => ?_) (by unfold maxLen; omega) (by omega) (Nat.le_refl _) ?_)
    · rw [List.getElem?_map] at hv
      rcases hj : (flatS l)[j]? with _ | x
      · rw [hj] at hv; simp at hv
      · obtain ⟨hjl, rfl⟩ := List.getElem?_eq_some_iff.1 hj
        rw [hj] at hv
        rw [Hc.out j hjl]
        simpa [nth, List.getD_eq_getElem?_getD, hjl] using hv
    · obtain ⟨q, _, rfl⟩ := List.mem_map.1 hv; rfl
    · intro v' w1 hown hg _
      have hb1 : Below w.heap.size w w1 := (Below.refl _ w).grown hg (Nat.le_refl _) (fun k hk => by simp [Value.ownBlock] at hk)
      go_wp2_with fail
      go_ret
      exact ⟨_, rfl, hown, hb1⟩
theorem steps_ne {l l' : List (Int × Int)} {k : Nat} (h : l.getD k (0, 0) ≠ l'.getD k (0, 0)) : l ≠ l' := fun e => h (by rw [e])
theorem steps_ext {l l' : List (Int × Int)} (hl : l.length = l'.length) (h : ∀ k, k < l.length → l.getD k (0, 0) = l'.getD k (0, 0)) : l = l' := by
  apply List.ext_getElem hl
  intro i h1 h2
  have := h i h1
  simpa [List.getD_eq_getElem?_getD, h1, h2] using this
set_option maxHeartbeats 2000000 in
theorem equalSteps (A A' : Option Addr) (cap cap' : Nat) (l l' : List (Int × Int)) (B : Nat) (w : World) (hA : Is .i64 w B A (flatS l)) (hA' : Is .i64 w B A' (flatS l')) (hl : l.length ≤ 1000000) :
    Calls Try.prog 23 #[.slice A l.length cap, .slice A' l'.length cap'] w fun e w' => e = .returned (.bool (decide (l = l'))) ∧ DrN w w' := by
  by_cases hlen : l.length = l'.length
  · have hlb : ((l.length : Int) != (l'.length : Int)) = false := by simp [hlen]
    go_enter Try.func23, Try.ntmps23
    go_wp2_with fail
    go_loopw [5] (fun i wr => ∃ k : Nat, k ≤ l.length ∧ i = .int .i64 k ∧ (∀ j, j < k → l.getD j (0, 0) = l'.getD j (0, 0)) ∧ DrN w wr) (fun i _ => l.length - (intOf i).toNat)
    case atStart => exact ⟨0, Nat.zero_le _, rfl, fun j h => absurd h (by omega), DrN.refl w⟩
    case round =>
      obtain ⟨k, hk, rfl, hall, hDr⟩ := hrel
      have Hall := Lib.hid hall; clear hall
      have HDr := Lib.hid hDr
      by_cases hlt : k < l.length
      · have hlt' : k < l'.length := by omega
        have f0 := flatS_len l
        have f0' := flatS_len l'
        obtain ⟨b, off, rfl, hbb, hc⟩ := (hDr.is hA) (by omega)
        obtain ⟨b', off', rfl, hbb', hc'⟩ := (hDr.is hA') (by omega)
        obtain ⟨f1, f2⟩ := flatS_nth2 l k hlt
        obtain ⟨f1', f2'⟩ := flatS_nth2 l' k hlt'
        have c1 := hc (k * 2) (by omega)
        have c2 := hc (k * 2 + 1) (by omega)
        have c1' := hc' (k * 2) (by omega)
        have c2' := hc' (k * 2 + 1) (by omega)
        rw [f1] at c1
        rw [f2] at c2
        rw [f1'] at c1'
        rw [f2'] at c2'
        obtain ⟨p, hp⟩ : ∃ p, p = l.getD k (0, 0) := ⟨_, rfl⟩
        obtain ⟨p', hp'⟩ : ∃ p, p = l'.getD k (0, 0) := ⟨_, rfl⟩
        rw [← hp] at c1 c2
        rw [← hp'] at c1' c2'
        rw [← Nat.add_assoc] at c2 c2'
        have Hlen := Lib.hid hlen
        have HP := Lib.hid (And.intro hp hp')
        clear hc hc' hA hA' f1 f2 f1' f2' f0 f0' hlen hp hp' hDr
        have h1 : (0 : Int) ≤ (k : Int) := by omega
        have h2 : (k : Int) < (l.length : Int) := by omega
        have h3 : (k : Int) < (l'.length : Int) := by have := Hlen.out; omega
        by_cases he : p = p'
        · subst he
          go_wp2_with fail
          go_quiet (fail)
          go_wp2_with fail
          refine ⟨⟨k + 1, by omega, by go_num, fun j hj => ?_, HDr.out.on nq⟩, by simp [intOf]; omega⟩
          by_cases hjk : j = k
          · rw [hjk, ← HP.out.1, HP.out.2]
          · exact Hall.out j (by omega)
        · have hne : l ≠ l' := steps_ne (k := k) (by rw [← HP.out.1, ← HP.out.2]; exact he)
          have hcase : p.1 ≠ p'.1 ∨ (p.1 = p'.1 ∧ p.2 ≠ p'.2) := by
            by_cases g : p.1 = p'.1
            · exact .inr ⟨g, fun g2 => he (Prod.ext g g2)⟩
            · exact .inl g
          have Hne := Lib.hid hne
          obtain ⟨a1, a2⟩ := p
          obtain ⟨b1, b2⟩ := p'
          simp only at c1 c2 c1' c2' hcase
          clear he hne
          rcases hcase with g | ⟨rfl, g⟩
          · have e1 : ((a1 : Int) == (b1 : Int)) = false := by rw [beq_eq_false_iff_ne]; omega
            have e2 : ¬ (a1 : Int) = (b1 : Int) := by omega
            go_wp2_with fail
            go_quiet (fail)
            go_wp2_with fail
            go_ret
            exact ⟨ret_bool (by simp [Hne.out]), HDr.out.on nq⟩
          · have e1 : ((a2 : Int) == (b2 : Int)) = false := by rw [beq_eq_false_iff_ne]; omega
            have e2 : ¬ (a2 : Int) = (b2 : Int) := by omega
            go_wp2_with fail
            go_quiet (fail)
            go_wp2_with fail
            go_ret
            exact ⟨ret_bool (by simp [Hne.out]), HDr.out.on nq⟩
      · have he : l = l' := steps_ext hlen fun j hj => Hall.out j (by omega)
        have He := Lib.hid he
        have hkI : (l.length : Int) ≤ (k : Int) := by omega
        clear he hDr
        go_wp2_with fail
        go_ret
        exact ⟨ret_bool (by simp [He.out]), HDr.out⟩
  · have hlb : ((l.length : Int) != (l'.length : Int)) = true := by simp; omega
    have hne : l ≠ l' := fun e => hlen (by rw [e])
    have Hne := Lib.hid hne
    clear hne
    go_enter Try.func23, Try.ntmps23
    go_wp2_with fail
    go_ret
    exact ⟨ret_bool (by simp [Hne.out]), DrN.refl w⟩
set_option maxHeartbeats 2000000 in
theorem equalRows (A A' : Option Addr) (cap cap' : Nat) (xss : List (List Int)) (B : Nat) (w : World) (hR : RIs .i64 w B A xss) (hR' : RIs .i64 w B A' xss) (hl : xss.length ≤ 1000) (hrow : ∀ r, r < xss.length → (row xss r).length ≤ 1000000) :
    Calls Try.prog 21 #[.slice A xss.length cap, .slice A' xss.length cap'] w fun e w' => e = .returned (.bool true) ∧ DrN w w' := by
  have hlb : ((xss.length : Int) != (xss.length : Int)) = false := by simp
  have HR := Lib.hid hR
  have HR' := Lib.hid hR'
  have Hrow := Lib.hid hrow
  clear hR hR' hrow
  go_enter Try.func21, Try.ntmps21
  go_wp2_with fail
  go_loopw [5] (fun i wr => ∃ k : Nat, k ≤ xss.length ∧ i = .int .i64 k ∧ DrN w wr) (fun i _ => xss.length - (intOf i).toNat)
  case atStart => exact ⟨0, Nat.zero_le _, rfl, DrN.refl w⟩
  case round =>
    obtain ⟨k, hk, rfl, hDr⟩ := hrel
    by_cases hlt : k < xss.length
    · obtain ⟨b, off, Ar, Cr, rfl, hb, hcell, hIs⟩ := HR.out.at_ hlt
      obtain ⟨b', off', Ar', Cr', rfl, hb', hcell', hIs'⟩ := HR'.out.at_ hlt
      have x1 := hDr.cell hcell
      have x2 := hDr.cell hcell'
      have hkI : (k : Int) < (xss.length : Int) := by omega
      have hk0 : (0 : Int) ≤ (k : Int) := by omega
      have C := fun W => fun (h : DrN w W) => equalInts Ar Ar' Cr Cr' (row xss k) (row xss k) B W (h.is hIs) (h.is hIs') (Hrow.out k hlt)
      have C2 := Lib.hid (show ∀ n, Calls Try.prog 24 #[.slice Ar (row xss k).length Cr, .slice Ar' (row xss k).length Cr'] (wr.drewN n) fun e w' => e = .returned (.bool true) ∧ ∃ m, w' = (wr.drewN n).drewN m from fun n => (C _ (hDr.on n)).mono fun e w' h => ⟨by rw [h.1]; simp, by obtain ⟨m, hm⟩ := h.2; exact ⟨m, hm.symm⟩⟩)
      have HDr := Lib.hid hDr
      clear C hIs hIs' hcell hcell' hDr
      go_wp2_with fail
      go_quiet ((go_at_call 24; exact Calls.quiet_of (C2.out _)))
      go_wp2_with fail
      exact ⟨⟨k + 1, by omega, by go_num, HDr.out.on nq⟩, by simp [intOf]; omega⟩
    · have hkI : (xss.length : Int) ≤ (k : Int) := by omega
      have HDr := Lib.hid hDr
      clear hDr
      go_wp2_with fail
      go_ret
      exact ⟨rfl, HDr.out⟩

/-- A block from B on that the slice at A lies whole in, of at least n cells. -/
def OwnZ (w : World) (B : Nat) (A : Option Addr) (n : Nat) : Prop := 0 < n → ∃ g cs, A = some ⟨g, 0, none⟩ ∧ B ≤ g ∧ w.heap[g]? = some (.cells cs 3 (0, 0)) ∧ n ≤ cs.size
/-- All blocks of numbers are of the size they were; those that are not A's are as they were. -/
def SameZ (w w' : World) (A : Option Addr) (n : Nat) : Prop := ∀ g' cs T, w.heap[g']? = some (.cells cs T (0, 0)) → ∃ cs', w'.heap[g']? = some (.cells cs' T (0, 0)) ∧ cs'.size = cs.size ∧ ((0 < n → A ≠ some ⟨g', 0, none⟩) → cs' = cs)
theorem overZ (A : Option Addr) (cap n B : Nat) (w : World) (hA : OwnZ w B A n) (hl : n ≤ 1000000) :
    Calls Try.prog 32 #[.slice A n cap] w fun e w' => e = .returned (.tuple #[]) ∧ Below B w w' ∧ SameZ w w' A n := by
  go_enter Try.func32, Try.ntmps32
  go_wp2_with fail
  go_loopw [2] (fun i wr => ∃ k : Nat, k ≤ n ∧ i = .int .i64 k ∧ Below B w wr ∧ OwnZ wr B A n ∧ SameZ w wr A n) (fun i _ => n - (intOf i).toNat)
  case atStart => exact ⟨0, Nat.zero_le _, rfl, Below.refl _ _, hA, fun g' cs T h => ⟨cs, h, rfl, fun _ => rfl⟩⟩
  case round =>
    obtain ⟨k, hk, rfl, hb, hg, hf⟩ := hrel
    have Hf := Lib.hid hf
    have Hg := Lib.hid hg
    clear hf hg hA
    by_cases hlt : k < n
    · obtain ⟨g, cs, rfl, h1, h2, h3⟩ := Hg.out (by omega)
      obtain ⟨⟨u, c0⟩, p0⟩ := cell_in h2 (i := k) (by omega)
      have hlI : (k : Int) < (n : Int) := by omega
      go_wp2_with fail
      refine ⟨⟨k + 1, by omega, by go_num, hb.setCell h1 _, fun _ => ⟨g, _, rfl, h1, setH h2, by simpa using h3⟩, fun g' cs0 T h0 => ?_⟩, by simp [intOf]; omega⟩
      obtain ⟨cs1, e1, e2, e3⟩ := Hf.out g' cs0 T h0
      by_cases e : g' = g
      · subst e
        exact ⟨_, setH e1, by simpa using e2, fun hn => absurd rfl (hn (by omega))⟩
      · exact ⟨cs1, (Below.heap_setCell _ _ _ _ e).trans e1, e2, e3⟩
    · obtain rfl : k = n := by omega
      go_wp2_with fail
      go_end0
      exact ⟨rfl, hb, Hf.out⟩
theorem overRows (A : Option Addr) (cap : Nat) (rows : List (List Int)) (B : Nat) (w : World) (hA : ROw w B A rows) (hl : rows.length ≤ 1000) (hrow : ∀ r, (row rows r).length ≤ 1000000) :
    Calls Try.prog 22 #[.slice A rows.length cap] w fun e w' => e = .returned (.tuple #[]) ∧ Below B w w' := by
  by_cases h0 : rows.length = 0
  · have hz : ((rows.length : Int)) = 0 := by omega
    go_enter Try.func22, Try.ntmps22
    go_wp2_with fail
    go_loop [2] (fun i => i = .int .i64 0) (fun _ => 0)
    case atStart => rfl
    case round =>
      obtain rfl := hrel
      go_wp2_with fail
      go_end0
      exact ⟨rfl, Below.refl _ _⟩
  · obtain ⟨g, cs, rfl, hsz, hB, hh, hr⟩ := hA (by omega)
    have Hr0 := Lib.hid (show ∀ r, r < rows.length → ∃ Ar Cr, cs[r]? = some (.slice Ar (row rows r).length Cr) ∧ OwnZ w B Ar (row rows r).length ∧ (0 < (row rows r).length → Ar ≠ some ⟨g, 0, none⟩) from fun r hlt => by
      obtain ⟨v, e1, Ar, Cr, rfl, e2⟩ := hr r hlt
      by_cases hn : 0 < (row rows r).length
      · obtain ⟨gr, cr, e3, e4, e5, e6, e7⟩ := e2 hn
        refine ⟨Ar, Cr, e1, fun _ => ⟨gr, cr, e3, e4, e6, ?_⟩, fun _ => by rw [e3]; intro h; injection h with h; injection h with h; exact e5 h⟩
        have := (Array.getElem?_eq_some_iff.1 (e7 ((row rows r).length - 1) (by omega))).1
        omega
      · exact ⟨Ar, Cr, e1, fun h => absurd h hn, fun h => absurd h hn⟩)
    have Hrow := Lib.hid hrow
    have HH := Lib.hid hh
    have hlen : 0 < rows.length := by omega
    clear hr hA hrow h0 hh
    go_enter Try.func22, Try.ntmps22
    go_wp2_with fail
    go_loopw [2] (fun i wr => ∃ k : Nat, k ≤ rows.length ∧ i = .int .i64 k ∧ Below B w wr ∧ wr.heap[g]? = some (.cells cs 23 (0, 0)) ∧ ∀ r, r < rows.length → ∃ Ar Cr, cs[r]? = some (.slice Ar (row rows r).length Cr) ∧ OwnZ wr B Ar (row rows r).length ∧ (0 < (row rows r).length → Ar ≠ some ⟨g, 0, none⟩)) (fun i _ => rows.length - (intOf i).toNat)
    case atStart => exact ⟨0, Nat.zero_le _, rfl, Below.refl _ _, HH.out, Hr0.out⟩
    case round =>
      clear Hr0 HH
      obtain ⟨k, hk, rfl, hb, hh, hr⟩ := hrel
      have HB := Lib.hid hb
      have HH := Lib.hid hh
      have HR := Lib.hid hr
      clear hb hr
      by_cases hlt : k < rows.length
      · obtain ⟨Ar, Cr, e1, e2, e3⟩ := HR.out k hlt
        have c1 : wr.cell? ⟨g, k, none⟩ = some (.slice Ar (row rows k).length Cr) := by simp [World.cell?, hh, e1]
        have C := Lib.hid (overZ Ar Cr (row rows k).length B wr e2 (Hrow.out k))
        have E3 := Lib.hid e3
        have hkI : (k : Int) < (rows.length : Int) := by omega
        have hk0 : (0 : Int) ≤ (k : Int) := by omega
        clear e1 e2 e3 hh
        go_wp2_with fail
        refine C.out.mono ?_
        rintro e w1 ⟨rfl, hb1, hs1⟩
        have HB1 := Lib.hid hb1
        have HS1 := Lib.hid hs1
        clear hb1 hs1 c1
        go_wp2_with fail
        obtain ⟨cs', f1, -, f3⟩ := HS1.out g cs _ HH.out
        obtain rfl := f3 E3.out
        refine ⟨⟨k + 1, by omega, by go_num, HB.out.trans HB1.out, f1, fun r hr => ?_⟩, by simp [intOf]; omega⟩
        obtain ⟨Aq, Cq, q1, q2, q3⟩ := HR.out r hr
        refine ⟨Aq, Cq, q1, fun hn => ?_, q3⟩
        obtain ⟨gq, cq, p1, p2, p3, p4⟩ := q2 hn
        obtain ⟨cq', t1, t2, -⟩ := HS1.out gq cq _ p3
        exact ⟨gq, cq', p1, p2, t1, by omega⟩
      · obtain rfl : k = rows.length := by omega
        clear hh
        go_wp2_with fail
        go_end0
        exact ⟨rfl, HB.out⟩
end Go.Proofs.Ytlbchidgadcmpaa
