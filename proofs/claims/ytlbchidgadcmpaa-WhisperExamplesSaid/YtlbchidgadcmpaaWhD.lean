/- Tiles of package whisper and of its reference. -/
import Derived.Test.YtlbchidgadcmpaaRows
import Derived.WalkKit
import Derived.WalkLawsBesides
import Derived.WalkSpells
import Derived.ProofKit
import Derived.Below
import Derived.Outline
import Derived.Lib.Hide
import Derived.Deep.RegionWith
import Derived.Deep.RegionHeld3
import Derived.Deep.DrawnRows
import Derived.StillTailTactics
import Derived.BigQuiet
import Derived.Deep.QuietTactic
import Derived.Deep.LoopGhost
import Derived.IntWalk
import Derived.Test.YtlbchidgadcmpaaWhC
namespace Go.Proofs.Ytlbchidgadcmpaa
open Go.RowKit
attribute [local go_sem ↓] Go.wp_at_zero Go.wp_at_succ
attribute [local go_sem] wrap_lit

theorem tiles18a (A : Option Addr) (cap : Nat) (st : List (Int × Int)) (B : Nat) (w : World) (hB : B ≤ w.heap.size) (hA : Is .i64 w B A (flatS st)) (hl : st.length ≤ 1000000) (h0 : ¬ ckT st = 0) :
    Calls Try.prog 18 #[.slice A st.length cap] w fun e w' => e = .returned (.tuple #[.bool (tlB st), .int .i64 (ckT st)]) ∧ Below w.heap.size w w' := by
  have C1 := Lib.hid (check20 A cap st B w hB hA hl)
  have hT : tlB st = false := by unfold tlB; rw [decide_eq_false h0]; rfl
  rw [hT]
  have b1 : (ckT st != 0) = true := by simp [h0]
  clear hA h0 hT
  go_enter Try.func18, Try.ntmps18
  go_wp2_with fail
  refine C1.out.mono ?_
  rintro e w1 ⟨rfl, hb1⟩
  have HB := Lib.hid hb1
  clear hb1
  go_wp2_with fail
  go_ret2
  exact ⟨rfl, HB.out⟩

theorem ret_bi {a b : Bool} {m n : Int} (h : a = b) (h' : m = n) : Ending.returned (.tuple #[.bool a, .int .i64 m]) = .returned (.tuple #[.bool b, .int .i64 n]) := by rw [h, h']
set_option maxHeartbeats 2000000 in
theorem tiles18b (A : Option Addr) (cap : Nat) (st : List (Int × Int)) (B : Nat) (w : World) (hB : B ≤ w.heap.size) (hA : Is .i64 w B A (flatS st)) (hl : st.length ≤ 1000000) (h0 : ckT st = 0) :
    Calls Try.prog 18 #[.slice A st.length cap] w fun e w' => e = .returned (.tuple #[.bool (tlB st), .int .i64 (ckT st)]) ∧ Below w.heap.size w w' := by
  have C1 := check20 A cap st B w hB hA hl
  rw [h0] at C1 ⊢
  have hl32 := (ckT_ok.1 h0).1.2
  have C1 := Lib.hid C1
  have HT := Lib.hid (show ∀ b, tlK st 255 = b → tlB st = b from fun b h => by unfold tlB; rw [decide_eq_true h0, h]; rfl)
  have HA := Lib.hid hA
  clear hA h0
  go_enter Try.func18, Try.ntmps18
  go_wp2_with fail
  refine C1.out.mono ?_
  rintro e w1 ⟨rfl, hb1⟩
  have HB := Lib.hid hb1
  have HA1 := Lib.hid (HA.out.below (hb1.mono hB))
  clear hb1 C1
  go_wp2_with fail
  go_loop [5] (fun i => ∃ s : Nat, s ≤ 255 ∧ i = .int .i64 ((s + 1 : Nat) : Int) ∧ tlK st s = true) (fun i => 256 - (intOf i).toNat)
  case atStart => exact ⟨0, by omega, rfl, rfl⟩
  case round =>
    obtain ⟨s, hs, rfl, hK⟩ := hrel
    have HK := Lib.hid hK
    clear hK
    by_cases hlt : s < 255
    · have hsI : (s : Int) + 1 ≤ 255 := by omega
      have hs0 : (0 : Int) ≤ (s : Int) := by omega
      go_wp2_with fail
      go_loop [6, 7] (fun n i => ∃ k : Nat, k ≤ st.length ∧ i = .int .i64 k ∧ n = .int .i64 (tlN st ((s : Int) + 1) k)) (fun _ i => st.length - (intOf i).toNat)
      case atStart => exact ⟨0, Nat.zero_le _, rfl, rfl⟩
      case round =>
        obtain ⟨k, hk, rfl, rfl⟩ := hrel
        have nb := tlN_bd st ((s : Int) + 1) k
        by_cases hkt : k < st.length
        · obtain ⟨b, off, rfl, hbb, c1, c2⟩ := step_at HA1.out hkt
          have hkI : (k : Int) < (st.length : Int) := by omega
          have hk0 : (0 : Int) ≤ (k : Int) := by omega
          obtain ⟨l, hll⟩ : ∃ l, l = stl st k := ⟨_, rfl⟩
          obtain ⟨h, hhh⟩ : ∃ h, h = sth st k := ⟨_, rfl⟩
          rw [← hll] at c1
          rw [← hhh] at c2
          have HL := Lib.hid (And.intro hll hhh)
          clear hll hhh
          have HN := Lib.hid (show tlN st ((s : Int) + 1) (k + 1) = if l < (s : Int) + 1 ∧ (s : Int) + 1 ≤ h then tlN st ((s : Int) + 1) k + 1 else tlN st ((s : Int) + 1) k by rw [HL.out.1, HL.out.2]; rfl)
          obtain ⟨n, hn⟩ : ∃ n, n = tlN st ((s : Int) + 1) k := ⟨_, rfl⟩
          rw [← hn] at nb HN ⊢
          clear hn
          by_cases g1 : l < (s : Int) + 1
          · by_cases g2 : (s : Int) + 1 ≤ h
            · have hst := Lib.hid (show tlN st ((s : Int) + 1) (k + 1) = n + 1 by rw [HN.out, if_pos ⟨g1, g2⟩])
              go_wp2_with fail
              exact ⟨⟨k + 1, by omega, by go_num, by rw [hst.out]⟩, by simp [intOf]; omega⟩
            · have hst := Lib.hid (show tlN st ((s : Int) + 1) (k + 1) = n by rw [HN.out, if_neg (fun e => g2 e.2)])
              go_wp2_with fail
              exact ⟨⟨k + 1, by omega, by go_num, by rw [hst.out]⟩, by simp [intOf]; omega⟩
          · have hst := Lib.hid (show tlN st ((s : Int) + 1) (k + 1) = n by rw [HN.out, if_neg (fun e => g1 e.1)])
            go_wp2_with fail
            exact ⟨⟨k + 1, by omega, by go_num, by rw [hst.out]⟩, by simp [intOf]; omega⟩
        · obtain rfl : k = st.length := by omega
          have HE := Lib.hid (show tlN st ((s : Int) + 1) st.length = tlN st ((s + 1 : Nat) : Int) st.length by push_cast; rfl)
          obtain ⟨n, hn⟩ : ∃ n, n = tlN st ((s : Int) + 1) st.length := ⟨_, rfl⟩
          rw [← hn] at nb HE ⊢
          by_cases g : n = 1
          · have hst := Lib.hid (tlK_step HK.out (by rw [← HE.out]; exact g))
            have hnb : (n != 1) = false := by simp [g]
            clear hn g
            go_wp2_with fail
            exact ⟨⟨s + 1, by omega, by go_num, hst.out⟩, by simp [intOf]; omega⟩
          · have hst := Lib.hid (HT.out _ (tlK_bad hlt (by rw [← HE.out]; exact g)))
            have hnb : (n != 1) = true := by simp [g]
            clear hn g
            go_wp2_with fail
            go_ret2
            exact ⟨ret_bi hst.out.symm rfl, HB.out⟩
    · obtain rfl : s = 255 := by omega
      have hst := Lib.hid (HT.out _ HK.out)
      go_wp2_with fail
      go_ret2
      exact ⟨ret_bi hst.out.symm rfl, HB.out⟩
theorem tiles18 (A : Option Addr) (cap : Nat) (st : List (Int × Int)) (B : Nat) (w : World) (hB : B ≤ w.heap.size) (hA : Is .i64 w B A (flatS st)) (hl : st.length ≤ 1000000) :
    Calls Try.prog 18 #[.slice A st.length cap] w fun e w' => e = .returned (.tuple #[.bool (tlB st), .int .i64 (ckT st)]) ∧ Below w.heap.size w w' := by
  by_cases h0 : ckT st = 0
  · exact tiles18b A cap st B w hB hA hl h0
  · exact tiles18a A cap st B w hB hA hl h0

/-- The differences behind k steps, at the places 0 to 256. -/
def chL (st : List (Int × Int)) (k : Nat) : List Int := (List.range 257).map fun s => chg st ((s : Nat) : Int) k
theorem chL_len (st : List (Int × Int)) (k : Nat) : (chL st k).length = 257 := by simp [chL]
theorem chL_nth (st : List (Int × Int)) (k s : Nat) (h : s < 257) : nth (chL st k) s = chg st (s : Int) k := by
  unfold nth chL; rw [List.getD_eq_getElem?_getD]; simp [h]
theorem chL_zero (st : List (Int × Int)) : chL st 0 = List.replicate 257 0 := by
  apply nth_ext (by rw [chL_len, List.length_replicate])
  intro j hj
  rw [chL_len] at hj
  rw [chL_nth _ _ _ hj, nth_zero]; rfl
theorem chL_step (st : List (Int × Int)) (k l h : Nat) (hl : stl st k = (l : Int)) (hh : sth st k = (h : Int)) (hlt : l < h) (h255 : h ≤ 255) :
    chL st (k + 1) = ((chL st k).set (l + 1) (chg st ((l + 1 : Nat) : Int) k + 1)).set (h + 1) (chg st ((h + 1 : Nat) : Int) k - 1) := by
  apply nth_ext (by rw [chL_len, List.length_set, List.length_set, chL_len])
  intro j hj
  rw [chL_len] at hj
  rw [chL_nth _ _ _ hj, nth_set _ _ _ _ (by rw [List.length_set, chL_len]; omega), nth_set _ _ _ _ (by rw [chL_len]; omega), chL_nth _ _ _ hj]
  show chg st j k + (if stl st k + 1 = j then 1 else 0) - (if sth st k + 1 = j then 1 else 0) = _
  rw [hl, hh]
  by_cases e1 : j = h + 1
  · rw [if_pos e1, if_neg (by omega), if_pos (by omega), e1]; omega
  · rw [if_neg e1]
    by_cases e2 : j = l + 1
    · rw [if_pos e2, if_pos (by omega), if_neg (by omega), e2]; omega
    · rw [if_neg e2, if_neg (by omega), if_neg (by omega)]; omega
theorem OutB.madeA (w : World) (n : Nat) (T : TypeId) : OutB (w.alloc (.cells (Array.replicate n (.int .i64 0)) T)) w.heap.size T (List.replicate n 0) :=
  ⟨_, heap_alloc_new w _, by simp, fun j hj => by
    have hj' : j < n := by simpa using hj
    rw [nth_zero]; simp [hj']⟩
theorem info257 : (Try.prog.info? 51).map (fun i => i.zero) = some (some (.agg (Array.replicate 257 (.int .i64 0)))) := by kernel_rfl
theorem zero257 (W : World) : Sem.run Try.prog (zeroValue 51) W = .ok (.agg (Array.replicate 257 (.int .i64 0))) W := by
  have h := info257
  rcases hi : Try.prog.info? 51 with _ | i
  · rw [hi] at h; cases h
  · rw [hi] at h
    simp only [Option.map_some, Option.some.injEq] at h
    simp [zeroValue, typeInfo, hi, h]

theorem tiles17a (A : Option Addr) (cap : Nat) (st : List (Int × Int)) (B : Nat) (w : World) (hB : B ≤ w.heap.size) (hA : Is .i64 w B A (flatS st)) (hl : st.length ≤ 1000000) (h0 : ¬ ckT st = 0) :
    Calls Try.prog 17 #[.slice A st.length cap] w fun e w' => e = .returned (.tuple #[.bool (tlB st), .int .i64 (ckT st)]) ∧ Below w.heap.size w w' := by
  have C1 := Lib.hid (check19 A cap st B w hB hA hl)
  have hT : tlB st = false := by unfold tlB; rw [decide_eq_false h0]; rfl
  rw [hT]
  have b1 : (ckT st != 0) = true := by simp [h0]
  clear hA h0 hT
  go_enter Try.func17, Try.ntmps17
  go_wp2_with fail
  refine C1.out.mono ?_
  rintro e w1 ⟨rfl, hb1⟩
  have HB := Lib.hid hb1
  clear hb1
  go_wp2_with fail
  go_ret2
  exact ⟨rfl, HB.out⟩

set_option maxHeartbeats 2000000 in
theorem tiles17b (A : Option Addr) (cap : Nat) (st : List (Int × Int)) (B : Nat) (w : World) (hB : B ≤ w.heap.size) (hA : Is .i64 w B A (flatS st)) (hl : st.length ≤ 1000000) (h0 : ckT st = 0) :
    Calls Try.prog 17 #[.slice A st.length cap] w fun e w' => e = .returned (.tuple #[.bool (tlB st), .int .i64 (ckT st)]) ∧ Below w.heap.size w w' := by
  have C1 := check19 A cap st B w hB hA hl
  rw [h0] at C1 ⊢
  obtain ⟨⟨-, hl32⟩, hok⟩ := ckT_ok.1 h0
  have C1 := Lib.hid C1
  have HT := Lib.hid (show ∀ b, tlK st 255 = b → tlB st = b from fun b h => by unfold tlB; rw [decide_eq_true h0, h]; rfl)
  have HA := Lib.hid hA
  have HOK := Lib.hid hok
  clear hA h0 hok
  go_enter Try.func17, Try.ntmps17
  go_wp2_with fail
  refine C1.out.mono ?_
  rintro e w1 ⟨rfl, hb1⟩
  have HB := Lib.hid hb1
  have s1 := hb1.size
  clear hb1 C1
  obtain ⟨Z, hZ⟩ : ∃ Z, Z = Array.replicate 257 (Value.int .i64 0) := ⟨_, rfl⟩
  have z0 : ∀ W : World, Sem.run Try.prog (zeroValue 51) W = .ok (.agg Z) W := by rw [hZ]; exact zero257
  have z1 : ¬ Z = #[] := by rw [hZ]; exact fun e => by have := congrArg Array.size e; simp at this
  have HZ := Lib.hid hZ
  clear hZ
  go_wp2_with fail
  clear z0 z1
  obtain ⟨g, hg⟩ : ∃ g, g = w1.heap.size := ⟨_, rfl⟩
  have hB0 : w.heap.size ≤ g := by omega
  have HI := Lib.hid (show OutB (w1.alloc (.cells Z 51)) g 51 (chL st 0) ∧ Below w.heap.size w (w1.alloc (.cells Z 51)) by
    rw [chL_zero, HZ.out, hg]; exact ⟨OutB.madeA w1 257 _, HB.out.alloc s1 _⟩)
  rw [← hg]
  clear hg HB
  go_loopw [17] (fun i wr => ∃ k : Nat, k ≤ st.length ∧ i = .int .i64 k ∧ OutB wr g 51 (chL st k) ∧ Below w.heap.size w wr) (fun i _ => st.length - (intOf i).toNat)
  case atStart => exact ⟨0, Nat.zero_le _, rfl, HI.out⟩
  case round =>
    clear HI
    obtain ⟨k, hk, rfl, hO, hb⟩ := hrel
    have HO := Lib.hid hO
    have HB := Lib.hid hb
    have sB := hb.size
    have hgs := hO.lt
    clear hO hb
    by_cases hlt : k < st.length
    · obtain ⟨b, off, rfl, hbb, c1, c2⟩ := step_at (HA.out.below (HB.out.mono hB)) hlt
      have hkI : (k : Int) < (st.length : Int) := by omega
      have hk0 : (0 : Int) ≤ (k : Int) := by omega
      obtain ⟨t1, t2, t3⟩ := stOk_at HOK.out hlt
      obtain ⟨l, hll⟩ : ∃ l : Nat, stl st k = (l : Int) := ⟨(stl st k).toNat, by omega⟩
      obtain ⟨h, hhh⟩ : ∃ h : Nat, sth st k = (h : Int) := ⟨(sth st k).toNat, by omega⟩
      rw [hll] at c1 t1 t2
      rw [hhh] at c2 t2 t3
      have HS := Lib.hid (chL_step st k l h hll hhh (by omega) (by omega))
      have HL := Lib.hid (And.intro hll hhh)
      have b1 := chg_bd st ((l + 1 : Nat) : Int) k
      have b2 := chg_bd st ((h + 1 : Nat) : Int) k
      obtain ⟨v1, hv1⟩ : ∃ v, v = chg st ((l + 1 : Nat) : Int) k := ⟨_, rfl⟩
      obtain ⟨v2, hv2⟩ : ∃ v, v = chg st ((h + 1 : Nat) : Int) k := ⟨_, rfl⟩
      have o1 := HO.out.cell (j := l + 1) (by rw [chL_len]; omega)
      have o2 := HO.out.cell (j := h + 1) (by rw [chL_len]; omega)
      have o3 := HO.out.frozen (l + 1)
      have o4 := HO.out.frozen (h + 1)
      rw [chL_nth _ _ _ (by omega), ← hv1] at o1
      rw [chL_nth _ _ _ (by omega), ← hv2] at o2
      rw [← hv1] at b1 HS
      rw [← hv2] at b2 HS
      have ne1 : ¬ h + 1 = l + 1 := by omega
      have ne2 : ¬ h = l := by omega
      have ne3 : ¬ l = h := by omega
      have e1 : (l : Int) + 1 < 257 := by omega
      have e2 : (h : Int) + 1 < 257 := by omega
      have e3 : (0 : Int) ≤ (l : Int) + 1 := by omega
      have e4 : (0 : Int) ≤ (h : Int) + 1 := by omega
      have ng1 : ¬ g = wr.heap.size := by omega
      have ng2 : ¬ wr.heap.size = g := by omega
      clear hll hhh hv1 hv2
      go_wp2_with fail
      have O1 := ((HO.out.set (l + 1) (v1 + 1) (by rw [chL_len]; omega)).set (h + 1) (v2 - 1) (by rw [List.length_set, chL_len]; omega)).below ((Below.refl _ _).alloc (Nat.le_refl _) (.cells #[.int .i64 (l : Int), .int .i64 (h : Int)] 44))
      exact ⟨⟨k + 1, by omega, by go_num, by rw [HS.out]; exact O1, ((HB.out.setCell (p := ⟨g, l + 1, none⟩) hB0 _).setCell (p := ⟨g, h + 1, none⟩) hB0 _).alloc (by simp [World.setCell]; omega) _⟩, by simp [intOf]; omega⟩
    · obtain rfl : k = st.length := by omega
      obtain ⟨V, hV⟩ : ∃ V : World, V = wr := ⟨_, rfl⟩
      subst hV
      go_wp2_with fail
      go_loop [8, 9] (fun n i => ∃ s : Nat, s ≤ 255 ∧ i = .int .i64 ((s + 1 : Nat) : Int) ∧ n = .int .i64 (tlN st (s : Int) st.length) ∧ tlK st s = true) (fun _ i => 256 - (intOf i).toNat)
      case atStart => exact ⟨0, by omega, rfl, by rw [show ((0 : Nat) : Int) = 0 from rfl, tlN_zero fun j hj => (stOk_at HOK.out hj).1], rfl⟩
      case round =>
        obtain ⟨s, hs, rfl, rfl, hK⟩ := hrel
        have HK := Lib.hid hK
        clear hK
        by_cases hs2 : s < 255
        · have o1 := HO.out.cell (j := s + 1) (by rw [chL_len]; omega)
          rw [chL_nth _ _ _ (by omega)] at o1
          have b1 := chg_bd st ((s + 1 : Nat) : Int) st.length
          have b2 := tlN_bd st (s : Int) st.length
          have hst := tlN_step (st := st) (s : Int) (k := st.length) (fun j hj => (stOk_at HOK.out hj).2.1)
          have hc : ((s + 1 : Nat) : Int) = (s : Int) + 1 := by omega
          rw [← hc] at hst
          have HE := Lib.hid hst
          obtain ⟨v1, hv1⟩ : ∃ v, v = chg st ((s + 1 : Nat) : Int) st.length := ⟨_, rfl⟩
          obtain ⟨v2, hv2⟩ : ∃ v, v = tlN st (s : Int) st.length := ⟨_, rfl⟩
          rw [← hv1] at o1 b1 HE
          rw [← hv2] at b2 HE ⊢
          have e1 : (s : Int) + 1 < 257 := by omega
          have e2 : (s : Int) + 1 ≤ 255 := by omega
          have e3 : (0 : Int) ≤ (s : Int) + 1 := by omega
          clear hv1 hv2 hst hc
          by_cases g1 : v2 + v1 = 1
          · have hK2 := Lib.hid (tlK_step HK.out (by rw [HE.out]; exact g1))
            have hnb : (v2 + v1 != 1) = false := by simp [g1]
            have HG := Lib.hid g1
            clear g1
            go_wp2_with fail
            exact ⟨⟨s + 1, by omega, by go_num, by rw [HE.out], hK2.out⟩, by simp [intOf]; omega⟩
          · have hst := Lib.hid (HT.out _ (tlK_bad hs2 (by rw [HE.out]; exact g1)))
            have hnb : (v2 + v1 != 1) = true := by simp [g1]
            clear g1
            go_wp2_with fail
            go_ret2
            exact ⟨ret_bi hst.out.symm rfl, HB.out⟩
        · obtain rfl : s = 255 := by omega
          have hst := Lib.hid (HT.out _ HK.out)
          go_wp2_with fail
          go_ret2
          exact ⟨ret_bi hst.out.symm rfl, HB.out⟩
theorem tiles17 (A : Option Addr) (cap : Nat) (st : List (Int × Int)) (B : Nat) (w : World) (hB : B ≤ w.heap.size) (hA : Is .i64 w B A (flatS st)) (hl : st.length ≤ 1000000) :
    Calls Try.prog 17 #[.slice A st.length cap] w fun e w' => e = .returned (.tuple #[.bool (tlB st), .int .i64 (ckT st)]) ∧ Below w.heap.size w w' := by
  by_cases h0 : ckT st = 0
  · exact tiles17b A cap st B w hB hA hl h0
  · exact tiles17a A cap st B w hB hA hl h0
end Go.Proofs.Ytlbchidgadcmpaa
