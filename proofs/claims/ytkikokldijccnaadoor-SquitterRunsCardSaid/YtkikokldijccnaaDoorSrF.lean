/- squitter's reference: Save. -/
import Derived.Test.YtkikokldijccnaaDoorRows
import Derived.WalkKit
import Derived.WalkLawsBesides
import Derived.WalkSpells
import Derived.ProofKit
import Derived.Below
import Derived.Outline
import Derived.Lib.Hide
import Derived.Deep.RegionWith
import Derived.Deep.RegionHeld3
import Derived.Deep.DrawnRows
import Derived.StillTailTactics
import Derived.BigQuiet
import Derived.Deep.QuietTactic
import Derived.Deep.LoopGhost
import Derived.IntWalk
import Derived.BigQuiet
import Derived.Deep.CutRange
import Derived.Deep.DeepCutAuto
import Derived.Test.YtkikokldijccnaaDoorSrE
import Derived.Test.YtkikokldijccnaaDoorRC
namespace Go.Proofs.YtkikokldijccnaaDoor
open Go.RowKit Go.Maps
attribute [local go_sem ↓] Go.wp_at_zero Go.wp_at_succ
attribute [local go_sem] wrap_lit
attribute [local go_sem] S_app S_size
/-- the addresses of the rows of one kind -/
def kf (b : Bool) (l : List (Int × Tk)) : List Int := (l.filter fun p => p.2.kn == b).map Prod.fst
theorem kf_all (t : Ts) (b : Bool) : addrsT t b = kf b t.es := rfl
theorem kf_same {p : Int × Tk} {b : Bool} (h : p.2.kn = b) (l : List (Int × Tk)) : kf b (p :: l) = p.1 :: kf b l := by unfold kf; rw [List.filter_cons, if_pos (by rw [h]; simp), List.map_cons]
theorem kf_other {p : Int × Tk} {b : Bool} (h : p.2.kn ≠ b) (l : List (Int × Tk)) : kf b (p :: l) = kf b l := by unfold kf; rw [List.filter_cons, if_neg (by simpa using h)]
theorem kf_count : ∀ l : List (Int × Tk), (kf true l).length + (kf false l).length = l.length
  | [] => rfl
  | p :: l => by
    have ih := kf_count l
    cases h : p.2.kn with
    | true => rw [kf_same h, kf_other (by rw [h]; decide), List.length_cons, List.length_cons]; omega
    | false => rw [kf_other (by rw [h]; decide), kf_same h, List.length_cons, List.length_cons]; omega
theorem kf_gt {p : Int × Tk} {l : List (Int × Tk)} (h : Asc (p :: l)) (b : Bool) : ∀ x ∈ kf b l, p.1 < x := by
  intro x hx
  obtain ⟨q, hq, rfl⟩ := List.mem_map.1 hx
  exact h.1 q (List.mem_filter.1 hq).1
theorem nth_zero_cons (a : Int) (l : List Int) : nth (a :: l) 0 = a := rfl
theorem line_app (ns : List Int) (c : Int) (h : ns ≠ []) : lineJ (ns ++ [c]) = lineJ ns ++ ([32] ++ Lib.itoa c) := by
  unfold lineJ
  rw [List.map_append, List.map_singleton]
  induction ns with
  | nil => exact absurd rfl h
  | cons n ns ih =>
    cases ns with
    | nil => simp [Lib.join]
    | cons m ns =>
      have := ih (by simp)
      simp only [List.map_cons, List.cons_append] at this ⊢
      rw [join_two, this, join_two]
      simp
/-- a slice that the reference reads: the numbers l -/
def RdS (w : World) (A : Option Addr) (l : List Int) : Prop := Is .i64 w w.heap.size A l
theorem Is.tl {w : World} {B b off : Nat} {x : Int} {l : List Int} (h : Is .i64 w B (some ⟨b, off, none⟩) (x :: l)) : Is .i64 w B (some ⟨b, off + 1, none⟩) l := fun hn => by
  obtain ⟨b', off', e, hb, hc⟩ := h (by simp)
  injection e with e
  injection e with e1 e2 _
  subst e1 e2
  refine ⟨b, off + 1, rfl, hb, fun j hj => ?_⟩
  have := hc (j + 1) (by simpa using hj)
  rw [show off + 1 + j = off + (j + 1) by omega, this]
  rfl
def slen : Value → Nat
  | .slice _ n _ => n
  | _ => 0
theorem Asc.drop {l : List (Int × Tk)} : ∀ (k : Nat), Asc l → Asc (l.drop k) := by
  intro k
  induction k generalizing l with
  | zero => exact fun h => h
  | succ k ih =>
    intro h
    cases l with
    | nil => exact h
    | cons p l => exact ih h.2
theorem itoa_le {n : Int} (h0 : 0 ≤ n) (h1 : n < 1000000000000) : (Lib.itoa n).length ≤ 13 := by
  obtain ⟨k, rfl⟩ : ∃ k : Nat, n = k := ⟨n.toNat, by omega⟩
  rw [Lib.itoa_nonneg]
  exact dd_len 12 k (by omega)
theorem lineJ_le14 : ∀ {ns : List Int}, (∀ n ∈ ns, 0 ≤ n ∧ n < 1000000000000) → (lineJ ns).length ≤ 14 * ns.length
  | [], _ => Nat.le_refl _
  | [n], h => by
    have h1 := h n (by simp)
    have := itoa_le h1.1 h1.2
    have e : lineJ [n] = Lib.itoa n := by unfold lineJ; simp [Lib.join]
    rw [e, List.length_singleton]
    omega
  | n :: m :: l, h => by
    have ih := lineJ_le14 (ns := m :: l) (fun x hx => h x (List.mem_cons_of_mem _ hx))
    have h1 := h n (by simp)
    have := itoa_le h1.1 h1.2
    unfold lineJ at ih ⊢
    rw [List.map_cons, List.map_cons, join_two]
    rw [List.map_cons] at ih
    simp only [List.length_append, List.length_cons, List.length_nil] at ih ⊢
    omega
theorem kf_len (b : Bool) (l : List (Int × Tk)) : (kf b l).length ≤ l.length := by unfold kf; rw [List.length_map]; exact List.length_filter_le _ _
set_option maxRecDepth 100000 in
set_option maxHeartbeats 4000000 in
theorem refSave21 {w : World} {B R cap : Nat} {A : Option Addr} {t : Ts} {P : List (Int × Int)} (h : RfO w B R t P A cap) : Calls Tryd.prog 21 #[.pointer (some ⟨R, 0, none⟩)] w fun e w' => e = .returned (.string (S (saveT t))) ∧ Below w.heap.size w w' := by
  have HO := Lib.hid h
  obtain ⟨r0, r1, r2, r3⟩ := And.intro h.ref.c0 (And.intro h.ref.c1 (And.intro h.ref.c2 h.ref.c3))
  have hB := h.refB
  obtain ⟨n0, n1, b0, b1, k0, k1, t0, t1, -⟩ := hB
  have hRl := h.ref.lt
  have hes := h.ok.len
  have D0 : Hid (∀ n, Calls Tryd.prog 42 #[.int .i64 t.need] (w.drewN n) fun e w' => e = .returned (.string (S (Lib.itoa t.need))) ∧ w' = w.drewN n) := Lib.hid (fun n => digits42 t.need _ (by omega) (by omega))
  have D1 : Hid (∀ n, Calls Tryd.prog 42 #[.int .i64 t.win] (w.drewN n) fun e w' => e = .returned (.string (S (Lib.itoa t.win))) ∧ w' = w.drewN n) := Lib.hid (fun n => digits42 t.win _ (by omega) (by omega))
  have D2 : Hid (∀ n, Calls Tryd.prog 42 #[.int .i64 t.keep] (w.drewN n) fun e w' => e = .returned (.string (S (Lib.itoa t.keep))) ∧ w' = w.drewN n) := Lib.hid (fun n => digits42 t.keep _ (by omega) (by omega))
  have D3 : Hid (∀ n, Calls Tryd.prog 42 #[.int .i64 t.now] (w.drewN n) fun e w' => e = .returned (.string (S (Lib.itoa t.now))) ∧ w' = w.drewN n) := Lib.hid (fun n => digits42 t.now _ (by omega) (by omega))
  have l0 := itoa_le (n := t.need) (by omega) (by omega)
  have l1 := itoa_le (n := t.win) (by omega) (by omega)
  have l2 := itoa_le (n := t.keep) (by omega) (by omega)
  have l3 := itoa_le (n := t.now) (by omega) (by omega)
  have h0 := textU_zero t
  have hl0 := textU_le h.ok 0
  have HT0 : Hid (Lib.itoa t.need ++ 32 :: (Lib.itoa t.win ++ 32 :: (Lib.itoa t.keep ++ 32 :: (Lib.itoa t.now ++ [10]))) = textU t 0) := Lib.hid (by rw [h0]; unfold lineX lineJ; simp [Lib.join])
  clear h h0 hl0
  go_enter Tryd.func21, Tryd.ntmps21
  go_wp2_with fail
  go_quiet ((first | (go_at_call 42; with_reducible exact Calls.quiet_of_same (D0.out _)) | (go_at_call 42; with_reducible exact Calls.quiet_of_same (D1.out _)) | (go_at_call 42; with_reducible exact Calls.quiet_of_same (D2.out _)) | (go_at_call 42; with_reducible exact Calls.quiet_of_same (D3.out _))))
  go_wp2_with fail
  refine (refKnown18 (HO.out.below (below_drewN (Below.refl _ w) nq)).ref HO.out.refB).mono ?_
  rintro e w1 ⟨A1, c1, rfl, hk, hk2, hb1⟩
  have HW0 := Lib.hid (below_drewN (Below.refl w.heap.size w) nq)
  have hl1 : addrsF (fitF P t.need t.win t.keep t.now true) P (P.length + 1) (-1) = kf true (t.es.drop 0) := addrs_eq HO.out.inv HO.out.ok true (Nat.lt_succ_self _)
  have hl2 : addrsF (fitF P t.need t.win t.keep t.now false) P (P.length + 1) (-1) = kf false (t.es.drop 0) := addrs_eq HO.out.inv HO.out.ok false (Nat.lt_succ_self _)
  rw [hl1] at hk hk2 ⊢
  have HO1 := Lib.hid ((HO.out.below (below_drewN (Below.refl _ w) nq)).below hb1)
  have HB1 := Lib.hid (HW0.out.trans hb1)
  have HK := Lib.hid hk.is
  clear hb1 hl1 hk HW0 D0 D1 D2 D3
  rw [HT0.out]
  clear HT0 l0 l1 l2 l3
  go_wp2_with fail
  refine (refPend19 HO1.out.ref HO1.out.refB).mono ?_
  rintro e w2 ⟨A2, c2, rfl, hp, hp2, hb2⟩
  rw [hl2] at hp hp2 ⊢
  have HO2 := Lib.hid (HO1.out.below hb2)
  have hs1 : w.heap.size ≤ w1.heap.size := HB1.out.size
  have HB2 := Lib.hid (HB1.out.trans (hb2.mono hs1))
  have HK2 := Lib.hid ((HK.out.below hb2).mono hb2.size)
  have HP2 := Lib.hid hp.is
  have hs2 : w.heap.size ≤ w2.heap.size := HB2.out.size
  clear hb2 hl2 hp HK HO1 HB1 hs1 r0 r1 r2 r3 HO
  go_wp2_with fail
  go_loopw [3, 4, 5, 6, 7, 8, 9, 10] (fun s ks ps _ _ _ _ _ wr => ∃ (k : Nat) (A1 A2 : Option Addr) (c1 c2 : Nat), k ≤ t.es.length ∧ s = .string (S (textU t k)) ∧ ks = .slice A1 (kf true (t.es.drop k)).length c1 ∧ ps = .slice A2 (kf false (t.es.drop k)).length c2 ∧ (kf true (t.es.drop k)).length ≤ c1 ∧ (kf false (t.es.drop k)).length ≤ c2 ∧ Is .i64 w2 w2.heap.size A1 (kf true (t.es.drop k)) ∧ Is .i64 w2 w2.heap.size A2 (kf false (t.es.drop k)) ∧ Below w2.heap.size w2 wr) (fun _ ks ps _ _ _ _ _ _ => slen ks + slen ps)
  case atStart => exact ⟨0, A1, A2, c1, c2, Nat.zero_le _, rfl, rfl, rfl, hk2, hp2, HK2.out, HP2.out, Below.refl _ _⟩
  case round =>
    clear HK2 HP2 hk2 hp2
    obtain ⟨k, A1, A2, c1, c2, hk, rfl, rfl, rfl, hc1, hc2, hI1, hI2, hbr⟩ := hrel
    have HRR := Lib.hid (HO2.out.below hbr)
    have hcnt := kf_count (t.es.drop k)
    rw [List.length_drop] at hcnt
    have hsr := hbr.size
    have hRl2 := HRR.out.ref.lt
    by_cases hlt : k < t.es.length
    · obtain ⟨p, hp⟩ : ∃ p, t.es[k]? = some p := ⟨_, List.getElem?_eq_getElem hlt⟩
      have hdr : t.es.drop k = p :: t.es.drop (k + 1) := by
        obtain ⟨h1, h2⟩ := List.getElem?_eq_some_iff.1 hp
        rw [← h2]; exact List.drop_eq_getElem_cons h1
      have hasc : Asc (p :: t.es.drop (k + 1)) := by
        rw [← hdr]
        exact Asc.drop k HRR.out.ok.asc
      have hgt := kf_gt hasc
      obtain ⟨rest, hrest⟩ : ∃ rest, rest = t.es.drop (k + 1) := ⟨_, rfl⟩
      rw [← hrest] at hdr hgt
      rw [hdr] at hI1 hI2 hc1 hc2 hcnt ⊢
      have hbd := HRR.out.ok.ent p (List.mem_of_getElem? hp)
      have ha0 := hbd.a0
      have ha1 := hbd.a1
      clear hasc hdr
      obtain ⟨n1, hn1⟩ : ∃ n, n = (kf true (p :: rest)).length := ⟨_, rfl⟩
      obtain ⟨n2, hn2⟩ : ∃ n, n = (kf false (p :: rest)).length := ⟨_, rfl⟩
      rw [← hn1, ← hn2] at hcnt ⊢
      rw [← hn1] at hc1
      rw [← hn2] at hc2
      have HN := Lib.hid (And.intro hn1 hn2)
      have HRS := Lib.hid hrest
      have HPP := Lib.hid hp
      have HI1 := Lib.hid hI1
      have HI2 := Lib.hid hI2
      have HGT := Lib.hid hgt
      have HBR := Lib.hid hbr
      have hnn : decide (0 < (n1 : Int) + (n2 : Int)) = true := decide_eq_true (by omega)
      have b1' : n1 ≤ 64 := by omega
      have b2' : n2 ≤ 64 := by omega
      clear hn1 hn2 hrest hp hI1 hI2 hgt hbd hbr
      go_upto_region 6 with fail
      go_cut [64] from 48 to 63 (fun v wx => v = .bool p.2.kn ∧ ∃ n, wx = wr.drewN n)
      case first =>
        cases hkn : p.2.kn with
        | true =>
          have e1 := kf_same hkn rest
          have e2 : kf false (p :: rest) = kf false rest := kf_other (by rw [hkn]; decide) rest
          have HE := Lib.hid (And.intro e1 e2)
          obtain ⟨g, off, rfl, hgl, hcc⟩ := (HI1.out.below HBR.out) (by rw [e1]; simp)
          have ck := hcc 0 (by rw [e1]; simp)
          rw [e1, nth_zero_cons, Nat.add_zero] at ck
          have p1 : 0 < n1 := by rw [HN.out.1, e1]; simp
          have q2 : decide (0 < n1) = true := decide_eq_true p1
          clear e1 e2 hcc
          by_cases hz : n2 = 0
          · have q1 : ((n2 : Int) == 0) = true := by simp [hz]
            clear hz
            go_wp2_with fail
            go_quiet (fail)
            go_wp2_with fail
            go_meet
            case rel => exact ⟨by rw [hkn], _, rfl⟩
          · have q1 : ((n2 : Int) == 0) = false := by simp [hz]
            have hp2 : 0 < (kf false rest).length := by have := HN.out.2; rw [HE.out.2] at this; omega
            obtain ⟨g2, off2, rfl, hgl2, hcc⟩ := (HI2.out.below HBR.out) (by rw [HE.out.2]; exact hp2)
            have cp := hcc 0 (by rw [HE.out.2]; exact hp2)
            rw [HE.out.2, Nat.add_zero] at cp
            have hg0 := HGT.out false _ (nth_mem (l := kf false rest) hp2)
            obtain ⟨y, hy⟩ : ∃ y, y = nth (kf false rest) 0 := ⟨_, rfl⟩
            rw [← hy] at cp hg0
            have q3 : decide (p.1 < y) = true := decide_eq_true hg0
            have p2 : 0 < n2 := by omega
            clear hz hp2 hcc hy hg0
            go_wp2_with fail
            go_quiet (fail)
            go_wp2_with fail
            go_meet
            case rel => exact ⟨by rw [hkn], _, rfl⟩
        | false =>
          have e1 := kf_same hkn rest
          have e2 : kf true (p :: rest) = kf true rest := kf_other (by rw [hkn]; decide) rest
          have HE := Lib.hid (And.intro e1 e2)
          obtain ⟨g2, off2, rfl, hgl2, hcc⟩ := (HI2.out.below HBR.out) (by rw [e1]; simp)
          have cp := hcc 0 (by rw [e1]; simp)
          rw [e1, nth_zero_cons, Nat.add_zero] at cp
          have p2 : 0 < n2 := by rw [HN.out.2, e1]; simp
          have q1 : ((n2 : Int) == 0) = false := by rw [beq_eq_false_iff_ne]; omega
          clear e1 e2 hcc
          by_cases hz : n1 = 0
          · have q2 : decide (0 < n1) = false := by simp [hz]
            clear hz
            go_wp2_with fail
            go_quiet (fail)
            go_wp2_with fail
            go_meet
            case rel => exact ⟨by rw [hkn], _, rfl⟩
          · have p1 : 0 < n1 := by omega
            have q2 : decide (0 < n1) = true := decide_eq_true p1
            have hp2 : 0 < (kf true rest).length := by have := HN.out.1; rw [HE.out.2] at this; omega
            obtain ⟨g, off, rfl, hgl, hcc⟩ := (HI1.out.below HBR.out) (by rw [HE.out.2]; exact hp2)
            have ck := hcc 0 (by rw [HE.out.2]; exact hp2)
            rw [HE.out.2, Nat.add_zero] at ck
            have hg0 := HGT.out true _ (nth_mem (l := kf true rest) hp2)
            obtain ⟨y, hy⟩ : ∃ y, y = nth (kf true rest) 0 := ⟨_, rfl⟩
            rw [← hy] at ck hg0
            have q3 : decide (y < p.1) = false := decide_eq_false (by omega)
            clear hz hp2 hcc hy hg0
            go_wp2_with fail
            go_quiet (fail)
            go_wp2_with fail
            go_meet
            case rel => exact ⟨by rw [hkn], _, rfl⟩
      case rest =>
        obtain ⟨rfl, nn, hw⟩ := hcut
        rw [hw]
        have hbw : Below w2.heap.size w2 (wr.drewN nn) := below_drewN HBR.out nn
        obtain ⟨wx, hwx⟩ : ∃ wx, wx = wr.drewN nn := ⟨_, rfl⟩
        rw [← hwx] at hbw ⊢
        have HBX := Lib.hid hbw
        clear hw wc hwx hbw
        obtain ⟨kb, hkb⟩ : ∃ kb, p.2.kn = kb := ⟨_, rfl⟩
        rw [hkb]
        go_upto_if 64 with fail
        go_cut [4, 5, 6, 7] from 65 to 74 (fun ks ps aa fl wy => ∃ (A1 A2 : Option Addr) (c1 c2 : Nat), aa = .int .i64 p.1 ∧ fl = .string (S (if kb then [32, 49] else [32, 48])) ∧ ks = .slice A1 (kf true rest).length c1 ∧ ps = .slice A2 (kf false rest).length c2 ∧ (kf true rest).length ≤ c1 ∧ (kf false rest).length ≤ c2 ∧ Is .i64 w2 w2.heap.size A1 (kf true rest) ∧ Is .i64 w2 w2.heap.size A2 (kf false rest) ∧ Below w2.heap.size w2 wy)
        case first =>
          cases kb with
          | true =>
            have e1 := kf_same hkb rest
            have e2 : kf false (p :: rest) = kf false rest := kf_other (by rw [hkb]; decide) rest
            obtain ⟨g, off, rfl, hgl, hcc⟩ := (HI1.out.below HBX.out) (by rw [e1]; simp)
            have ck := hcc 0 (by rw [e1]; simp)
            rw [e1, nth_zero_cons, Nat.add_zero] at ck
            have p1 : 0 < n1 := by rw [HN.out.1, e1]; simp
            have p1I : (0 : Int) < (n1 : Int) := by omega
            have f1 : n1 - 1 = (kf true rest).length := by rw [HN.out.1, e1]; simp
            have f2 : n2 = (kf false rest).length := by rw [HN.out.2, e2]
            have HF := Lib.hid (And.intro f1 f2)
            have HI1' := HI1.out
            rw [e1] at HI1'
            have HT := Lib.hid HI1'.tl
            have HI2' := HI2.out
            rw [e2] at HI2'
            have HX2 := Lib.hid HI2'
            have s1 : (1 : Int) ≤ (n1 : Int) := by omega
            have s2 : (n1 : Int) ≤ (c1 : Int) := by omega
            clear e1 e2 hcc f1 f2 HI1' HI2'
            by_cases hcap : c1 = 1
            · subst hcap
              have hn1 : n1 = 1 := by omega
              subst hn1
              have hnil : kf true rest = [] := List.length_eq_zero_iff.1 (by have := HF.out.1; omega)
              have HNIL := Lib.hid hnil
              clear hnil s1 s2 p1I
              go_wp2_with fail
              go_meet
              case rel => exact ⟨_, A2, 0, c2, rfl, rfl, by rw [← HF.out.1], by rw [← HF.out.2], by have := HF.out.1; omega, by have := HF.out.2; omega, (by rw [HNIL.out]; exact fun h => absurd h (by simp)), HX2.out, HBX.out⟩
            · have q5 : (1 : Int) < (c1 : Int) := by omega
              go_wp2_with fail
              go_meet
              case rel => exact ⟨_, A2, (c1 - 1), c2, rfl, rfl, by rw [← HF.out.1], by rw [← HF.out.2], by have := HF.out.1; omega, by have := HF.out.2; omega, HT.out, HX2.out, HBX.out⟩
          | false =>
            have e1 := kf_same hkb rest
            have e2 : kf true (p :: rest) = kf true rest := kf_other (by rw [hkb]; decide) rest
            obtain ⟨g, off, rfl, hgl, hcc⟩ := (HI2.out.below HBX.out) (by rw [e1]; simp)
            have ck := hcc 0 (by rw [e1]; simp)
            rw [e1, nth_zero_cons, Nat.add_zero] at ck
            have p1 : 0 < n2 := by rw [HN.out.2, e1]; simp
            have p1I : (0 : Int) < (n2 : Int) := by omega
            have f1 : n2 - 1 = (kf false rest).length := by rw [HN.out.2, e1]; simp
            have f2 : n1 = (kf true rest).length := by rw [HN.out.1, e2]
            have HF := Lib.hid (And.intro f1 f2)
            have HI1' := HI2.out
            rw [e1] at HI1'
            have HT := Lib.hid HI1'.tl
            have HI2' := HI1.out
            rw [e2] at HI2'
            have HX2 := Lib.hid HI2'
            have s1 : (1 : Int) ≤ (n2 : Int) := by omega
            have s2 : (n2 : Int) ≤ (c2 : Int) := by omega
            clear e1 e2 hcc f1 f2 HI1' HI2'
            by_cases hcap : c2 = 1
            · subst hcap
              have hn1 : n2 = 1 := by omega
              subst hn1
              have hnil : kf false rest = [] := List.length_eq_zero_iff.1 (by have := HF.out.1; omega)
              have HNIL := Lib.hid hnil
              clear hnil s1 s2 p1I
              go_wp2_with fail
              go_meet
              case rel => exact ⟨A1, _, c1, 0, rfl, rfl, by rw [← HF.out.2], by rw [← HF.out.1], by have := HF.out.2; omega, by have := HF.out.1; omega, HX2.out, (by rw [HNIL.out]; exact fun h => absurd h (by simp)), HBX.out⟩
            · have q5 : (1 : Int) < (c2 : Int) := by omega
              go_wp2_with fail
              go_meet
              case rel => exact ⟨A1, _, c1, (c2 - 1), rfl, rfl, by rw [← HF.out.2], by rw [← HF.out.1], by have := HF.out.2; omega, by have := HF.out.1; omega, HX2.out, HT.out, HBX.out⟩
        case rest =>
          clear HI1 HI2 hc1 hc2
          obtain ⟨A1, A2, c1, c2, rfl, rfl, rfl, rfl, hc1, hc2, hI1, hI2, hbc⟩ := hcut
          obtain ⟨fl, hfl⟩ : ∃ fl : Tx, fl = if kb then [32, 49] else [32, 48] := ⟨_, rfl⟩
          rw [← hfl]
          have hfl2 : fl.length = 2 := by rw [hfl]; cases kb <;> rfl
          have HC := Lib.hid (And.intro (And.intro hc1 hc2) (And.intro hI1 hI2))
          have HRC := Lib.hid ((HO2.out.below hbc).ref)
          have HRO := Lib.hid (HO2.out.below hbc)
          have HBC := Lib.hid hbc
          have r1 := HRC.out.c1
          have r3 := HRC.out.c3
          have hRc := HRC.out.lt
          have hsc := hbc.size
          have hmem : p ∈ t.es := List.mem_of_getElem? HPP.out
          have hek := HRO.out.ok.ent p hmem
          have hlk : lookT p.1 t.es = some p.2 := look_of_mem HRO.out.ok.asc hmem
          have hcy := cy_eq HRO.out.inv HRO.out.ok hlk
          have hall := HRO.out.inv.all p.1
          have hne : cycF p.1 0 t.now P ≠ [] := by
            rw [hall]
            intro e
            have e2 : rcyc p.1 P = [] := by simpa using e
            have := HRO.out.inv.view p.1
            rw [e2, hlk] at this
            cases this
          have hcl : p.2.cy.length ≤ 64 := by
            have h1 := hek.len (by omega)
            have h2 : ((p.2.cy.length : Nat) : Int) ≤ t.win := h1
            omega
          have hcb := hek.c0
          have hT1 := textU_succ HPP.out
          have hTl := textU_le HRO.out.ok k
          have hw1 : IntKind.i64.wrap (t.now - t.win) = t.now - t.win := IntWalk.i64_in _ (by omega)
          have hw2 : IntKind.i64.wrap (t.now - t.win + 1) = t.now - t.win + 1 := IntWalk.i64_in _ (by omega)
          obtain ⟨cy, hcye⟩ : ∃ cy, cy = p.2.cy := ⟨_, rfl⟩
          rw [← hcye] at hcy hcl hcb
          have hrow : rowX p = p.1 :: bitI kb :: cy := by unfold rowX; rw [hkb, hcye]
          rw [hrow] at hT1
          have HCY := Lib.hid hcy
          have HNE := Lib.hid hne
          have HCB := Lib.hid hcb
          have HT1 := Lib.hid hT1
          have HFL := Lib.hid hfl
          obtain ⟨a, hae⟩ : ∃ a, a = p.1 := ⟨_, rfl⟩
          rw [← hae] at HCY HNE HT1 ha0 ha1 ⊢
          obtain ⟨z, hz⟩ : ∃ z, z = wc := ⟨_, rfl⟩
          rw [← hz] at HRC HRO HBC hRc hsc r1 r3 ⊢
          have HHK := Lib.hid (And.intro hkb (And.intro hcye hae))
          clear hc1 hc2 hI1 hI2 hbc hmem hek hlk hcy hall hne hcb hT1 hrow hfl hz hkb hcye hae
          go_wp2_with fail
          go_region_held3 (fun w' => w'.cell? ⟨R, 1, none⟩ = some (.int .i64 t.win) ∧ w'.cell? ⟨R, 3, none⟩ = some (.int .i64 t.now)) (first | exact ⟨r1, r3⟩ | exact ⟨kk1, kk3⟩) (((with_reducible refine (cycles43 (HRC.out.below ((Below.refl _ z).drew)) a (t.now - t.win + 1) t.now).mono ?_); rintro e w4 ⟨A8, c8, rfl, hown8, hcap8, hb4⟩; have kk1 := (hb4.cell (p := ⟨R, 1, none⟩) hRc).trans r1; have kk3 := (hb4.cell (p := ⟨R, 3, none⟩) hRc).trans r3))
          have HB4 := Lib.hid (((Below.refl z.heap.size z).drew).trans hb4)
          have HRR4 := Lib.hid (HRC.out.below HB4.out)
          have HIS8 := Lib.hid hown8.is
          have hs4 : z.heap.size ≤ w4.heap.size := HB4.out.size
          have hl8 := cycF_len a (t.now - t.win + 1) t.now P
          obtain ⟨l8, hl8e⟩ : ∃ l8, l8 = cycF a (t.now - t.win + 1) t.now P := ⟨_, rfl⟩
          rw [← hl8e] at HCY HIS8 hcap8 hl8 ⊢
          have hPl := HRC.out.len
          clear hown8 hb4 kk1 kk3 r1 r3 hl8e
          obtain ⟨kz, hkz⟩ : ∃ kz, ((l8.length : Int) == 0) = kz := ⟨_, rfl⟩
          go_upto_if 94 with fail
          go_cut [8, 9] from 95 to 106 (fun lv _ wy => ∃ (A9 : Option Addr) (c9 : Nat), lv = .slice A9 cy.length c9 ∧ Is .i64 wy wy.heap.size A9 cy ∧ Below w4.heap.size w4 wy)
          case first =>
            cases kz with
            | true =>
              have h8 : l8 = [] := List.length_eq_zero_iff.1 (by simpa using hkz)
              have hcy1 := HCY.out
              rw [if_pos h8] at hcy1
              have HCY1 := Lib.hid hcy1
              clear hcy1 h8
              go_wp2_with fail
              refine (cycles43 HRR4.out a 0 t.now).mono ?_
              rintro e w5 ⟨A5, c5, rfl, hown5, hcap5, hb5⟩
              have HB5 := Lib.hid hb5
              have hl5 := cycF_len a 0 t.now P
              obtain ⟨l5, hl5e⟩ : ∃ l5, l5 = cycF a 0 t.now P := ⟨_, rfl⟩
              rw [← hl5e] at hown5 hcap5 hl5 HCY1 HNE ⊢
              have hp5 : 0 < l5.length := List.length_pos_iff.2 HNE.out
              obtain ⟨g5, off5, rfl, hg5, hc5⟩ := hown5.is hp5
              have hlast := nth_last HNE.out
              have h5c := hc5 (l5.length - 1) (by omega)
              rw [hlast] at h5c
              have HIS5 : Hid (Is .i64 w5 w5.heap.size (some ⟨g5, off5 + (l5.length - 1), none⟩) cy) := Lib.hid (by
                rw [HCY1.out]
                exact fun _ => ⟨g5, _, rfl, hg5, fun j hj => by
                  have : j = 0 := by simpa using hj
                  subst this
                  exact h5c⟩)
              have t5 : ((l5.length : Int) - 1).toNat = l5.length - 1 := by omega
              have t6 : (0 : Int) ≤ (l5.length : Int) - 1 := by omega
              have t7 : (l5.length : Int) - 1 ≤ (l5.length : Int) := by omega
              have t8 : (l5.length : Int) - 1 < (c5 : Int) := by omega
              have t9 : l5.length - (l5.length - 1) = 1 := by omega
              have hcy1l : cy.length = 1 := by rw [HCY1.out]; rfl
              have HCL := Lib.hid hcy1l
              clear hown5 hb5 hlast h5c hc5 hl5e hcy1l
              go_wp2_with fail
              go_meet
              case rel => exact ⟨_, _, by rw [HCL.out], HIS5.out, HB5.out⟩
            | false =>
              have h8 : l8 ≠ [] := fun e => by rw [e] at hkz; cases hkz
              have hcy1 := HCY.out
              rw [if_neg h8] at hcy1
              have HIS9 := HIS8.out
              rw [← hcy1] at HIS9
              have HI9 := Lib.hid HIS9
              have HCL := Lib.hid hcy1
              clear hcy1 h8 HIS9
              go_wp2_with fail
              go_meet
              case rel => exact ⟨_, _, by rw [HCL.out], HI9.out, Below.refl _ _⟩
          case rest =>
            obtain ⟨A9, c9, rfl, hI9, hb9⟩ := hcut
            have HI9 := Lib.hid hI9
            have HB9 := Lib.hid ((HBC.out.trans ((HB4.out.trans (hb9.mono hs4)).mono hsc)))
            have la := itoa_le (n := a) ha0 (by omega)
            have hbit : Lib.itoa a ++ fl = lineJ (a :: bitI kb :: cy.take 0) := by
              have i0 : Lib.itoa 0 = [48] := by decide +kernel
              have i1 : Lib.itoa 1 = [49] := by decide +kernel
              rw [HFL.out]
              unfold lineJ bitI
              cases kb <;> simp [Lib.join, i0, i1]
            have hbd : ∀ j, j ≤ cy.length → (lineJ (a :: bitI kb :: cy.take j)).length ≤ 1000 := fun j hj => by
              have h1 := lineJ_le14 (ns := a :: bitI kb :: cy.take j) (fun n hn => by
                rcases List.mem_cons.1 hn with rfl | hn
                · exact ⟨ha0, by omega⟩
                rcases List.mem_cons.1 hn with rfl | hn
                · cases kb <;> decide
                · have := HCB.out n (List.mem_of_mem_take hn); omega)
              have h2 : (a :: bitI kb :: cy.take j).length ≤ 66 := by
                have := List.length_take_le j cy
                simp only [List.length_cons]; omega
              have h3 := Nat.mul_le_mul_left 14 h2
              omega
            obtain ⟨T, hT⟩ : ∃ T : Nat → Tx, ∀ j, T j = textU t k ++ lineJ (a :: bitI kb :: cy.take j) := ⟨_, fun _ => rfl⟩
            have hTb : ∀ j, j ≤ cy.length → (T j).length ≤ 70000 := fun j hj => by
              rw [hT, List.length_append]
              have := hbd j hj
              omega
            have hT0 : textU t k ++ (Lib.itoa a ++ fl) = T 0 := by rw [hT, hbit]
            have hTs : ∀ j, j < cy.length → T j ++ 32 :: Lib.itoa (nth cy j) = T (j + 1) := fun j hj => by
              rw [hT, hT, take_nth cy j hj]
              have := line_app (a :: bitI kb :: cy.take j) (nth cy j) (by simp)
              rw [List.cons_append, List.cons_append] at this
              rw [this]
              simp
            have hTe : T cy.length ++ [10] = textU t (k + 1) := by
              rw [hT, HT1.out, List.take_length]
              unfold lineX
              simp
            have HTB := Lib.hid hTb
            have HTS := Lib.hid hTs
            have HTE := Lib.hid hTe
            have hT00 := hTb 0 (Nat.zero_le _)
            clear hI9 hb9 hbd hT hTb hTs hTe hbit
            go_wp2_with fail
            refine (digits42 a _ ha0 (by omega)).mono ?_
            rintro e w5 ⟨rfl, hw⟩
            rw [hw]
            clear hw w5
            go_wp2_with fail
            clear hT0 la
            go_loop [3, 10] (fun s i => ∃ j : Nat, j ≤ cy.length ∧ s = .string (S (T j)) ∧ i = .int .i64 j) (fun _ i => cy.length - (intOf i).toNat)
            case atStart => exact ⟨0, Nat.zero_le _, rfl, rfl⟩
            case round =>
              obtain ⟨j, hj, rfl, rfl⟩ := hrel
              have hTj := HTB.out j hj
              by_cases hjl : j < cy.length
              · obtain ⟨g, off, rfl, hg9, hc9⟩ := HI9.out (by omega)
                have cj := hc9 j hjl
                have hcj := HCB.out (nth cy j) (nth_mem hjl)
                have hst := HTS.out j hjl
                have hTj1 := HTB.out (j + 1) (by omega)
                obtain ⟨c, hcv⟩ : ∃ c, c = nth cy j := ⟨_, rfl⟩
                rw [← hcv] at cj hcj hst
                obtain ⟨d0, d1⟩ := hcj
                have lc := itoa_le (n := c) d0 (by omega)
                have hjI : (j : Int) < (cy.length : Int) := by omega
                clear hc9 hcv
                go_wp2_with fail
                refine (digits42 c _ d0 (by omega)).mono ?_
                rintro e w5 ⟨rfl, hw⟩
                rw [hw]
                clear hw w5
                go_wp2_with fail
                exact ⟨⟨j + 1, by omega, rfl, by go_num⟩, by simp [intOf]; omega⟩
              · obtain rfl : j = cy.length := by omega
                clear hjl
                go_wp2_with fail
                rw [HTE.out]
                refine ⟨⟨k + 1, A1, A2, c1, c2, by omega, rfl, by rw [HRS.out], by rw [HRS.out], by rw [← HRS.out]; exact HC.out.1.1, by rw [← HRS.out]; exact HC.out.1.2, by rw [← HRS.out]; exact HC.out.2.1, by rw [← HRS.out]; exact HC.out.2.2, HB9.out⟩, ?_⟩
                have hk1 := kf_count rest
                have hk2 : rest.length = t.es.length - (k + 1) := by rw [HRS.out, List.length_drop]
                show (kf true rest).length + (kf false rest).length < n1 + n2
                omega
    · obtain rfl : k = t.es.length := by omega
      have hz1 : kf true (t.es.drop t.es.length) = [] := by rw [List.drop_length]; rfl
      have hz2 : kf false (t.es.drop t.es.length) = [] := by rw [List.drop_length]; rfl
      have HBR := Lib.hid (HB2.out.trans (hbr.mono hs2))
      rw [hz1, hz2, textU_all]
      clear hlt hz1 hz2 hI1 hI2 hbr hcnt hc1 hc2
      go_wp2_with fail
      go_ret
      exact ⟨rfl, HBR.out⟩
end Go.Proofs.YtkikokldijccnaaDoor
