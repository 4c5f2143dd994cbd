/- FruitAlone returns true for every input. -/
import Derived.Test.YtmkpblfacnnnoaaRows
import Derived.WalkKit
import Derived.WalkLawsBesides
import Derived.WalkSpells
import Derived.ProofKit
import Derived.Below
import Derived.Outline
import Derived.Lib.Hide
import Derived.Deep.RegionWith
import Derived.Deep.RegionHeld3
import Derived.Deep.DrawnRows
import Derived.StillTailTactics
import Derived.BigQuiet
import Derived.Deep.QuietTactic
import Derived.Deep.LoopGhost
import Derived.IntWalk
import Derived.Test.YtmkpblfacnnnoaaFrU
import Derived.Test.YtmkpblfacnnnoaaFrX3
import Derived.Test.YtmkpblfacnnnoaaKO
import Derived.WalkKit
import Derived.ProofKit
import Derived.OpenShut
import Derived.ShutString
import Derived.ChangeOld
import Derived.Below
import Derived.Lib.SmallJoins
namespace Go.Proofs.Ytmkpblfacnnnoaa
open Go.RowKit
attribute [local go_sem ↓] Go.wp_at_zero Go.wp_at_succ
attribute [local go_sem] wrap_lit

theorem u8_at {ys : List Int} (hwf : ∀ n ∈ ys, (Lit.int .u8 n).wf = true) {k : Nat} (hk : k < ys.length) : 0 ≤ nth ys k ∧ nth ys k ≤ 255 := by
  have hm : nth ys k ∈ ys := by unfold nth; rw [List.getD_eq_getElem?_getD, List.getElem?_eq_getElem hk]; exact List.getElem_mem hk
  have := hwf _ hm
  simpa [Lit.wf, IntKind.min, IntKind.max, IntKind.signed, IntKind.bits] using this
set_option maxRecDepth 100000 in
set_option maxHeartbeats 4000000 in
theorem frAlone0 (A A2 : Option Addr) (cap cap2 : Nat) (xss : List (List Int)) (ys : List Int) (u : Int) (w : World) (hR : RIs .i64 w w.heap.size A xss) (hlm : xss.length ≤ maxLen)  (hq : lngP xss ∨ (¬ lngP xss ∧ (ys.length < xss.length ∨ xss.length = 0))) : Calls Try.prog 7 #[.slice A xss.length cap, .slice A2 ys.length cap2, .int .i64 u] w fun e w' => e = .returned (.bool true) ∧ Below w.heap.size w w' := by
  unfold maxLen at hlm
  rcases hq with hl | ⟨hl, hq⟩
  · have L := Lib.hid (long_t A cap xss _ _ hR (by unfold maxLen; omega) hl)
    clear hR
    go_enter Try.func7, Try.ntmps7
    go_wp2_with fail
    refine L.out.mono ?_
    rintro e w' ⟨rfl, rfl⟩
    go_wp2_with fail
    refine (awake11 _).mono ?_
    rintro e w2 ⟨rfl, hb2⟩
    go_wp2_with fail
    go_ret
    exact ⟨rfl, hb2⟩
  · have L := Lib.hid (long_f A cap xss _ _ hR hl)
    clear hR hl
    by_cases hlt : ys.length < xss.length
    · have hI : (ys.length : Int) < (xss.length : Int) := by omega
      clear hq
      go_enter Try.func7, Try.ntmps7
      go_wp2_with fail
      refine L.out.mono ?_
      rintro e w' ⟨rfl, rfl⟩
      go_wp2_with fail
      refine (awake11 _).mono ?_
      rintro e w2 ⟨rfl, hb2⟩
      go_wp2_with fail
      go_ret
      exact ⟨rfl, hb2⟩
    · have hI : decide (ys.length < xss.length) = false := decide_eq_false hlt
      have hI2 : (xss.length : Int) ≤ (ys.length : Int) := by omega
      have h0 : ((xss.length : Int) == 0) = true := by rw [beq_iff_eq]; omega
      clear hq
      go_enter Try.func7, Try.ntmps7
      go_wp2_with fail
      refine L.out.mono ?_
      rintro e w' ⟨rfl, rfl⟩
      go_wp2_with fail
      refine (awake11 _).mono ?_
      rintro e w2 ⟨rfl, hb2⟩
      go_wp2_with fail
      go_ret
      exact ⟨rfl, hb2⟩
/-- What the loops keep: the places in a block of the call's own. -/
def AlP (w : World) (A3 : Option Addr) (xss : List (List Int)) (F : List Int) (g : Nat) (W : World) (pl : List Int) : Prop :=
  pl.length = xss.length ∧ OutB W g 3 pl ∧ Is .i64 W g A3 F ∧ w.heap.size ≤ g ∧ Below w.heap.size w W
theorem Is.far9 {w : World} {g k : Nat} {A : Option Addr} {xs : List Int} (h : Is .i64 w g A xs) (v : Value) : Is .i64 (w.setCell ⟨g, k, none⟩ v) g A xs := fun hn => by
  obtain ⟨b, off, e, hb, hc⟩ := h hn
  exact ⟨b, off, e, hb, fun j hj => (World.cell?_of_block (w := w) (Below.heap_setCell _ _ _ _ (Nat.ne_of_lt hb))).trans (hc j hj)⟩
theorem AlP.on {w W W1 : World} {A3 : Option Addr} {xss : List (List Int)} {F pl : List Int} {g : Nat} (h : AlP w A3 xss F g W pl) (hb : Below W.heap.size W W1) : AlP w A3 xss F g W1 pl := by
  obtain ⟨h1, h2, h3, h4, h5⟩ := h
  exact ⟨h1, h2.below hb, h3.below (hb.mono (Nat.le_of_lt h2.lt)), h4, h5.trans (hb.mono h5.size)⟩
set_option maxRecDepth 100000 in
set_option maxHeartbeats 8000000 in
theorem frAlone1 (A A2 : Option Addr) (cap cap2 : Nat) (xss : List (List Int)) (ys : List Int) (u : Int) (w : World) (hR : RIs .i64 w w.heap.size A xss) (hlm : xss.length ≤ maxLen) (hA2 : Is .u8 w w.heap.size A2 ys) (hl2 : ys.length ≤ maxLen) (hwf : ∀ n ∈ ys, (Lit.int .u8 n).wf = true) (hl : ¬ lngP xss) (hle : xss.length ≤ ys.length) (h0 : 0 < xss.length) : Calls Try.prog 7 #[.slice A xss.length cap, .slice A2 ys.length cap2, .int .i64 u] w fun e w' => e = .returned (.bool true) ∧ Below w.heap.size w w' := by
  have L := Lib.hid (long_f A cap xss _ _ hR hl)
  obtain ⟨h20, h70⟩ := lng_not hl
  have H70 := Lib.hid h70
  have HR := Lib.hid hR
  have HA2 := Lib.hid hA2
  have Hwf := Lib.hid hwf
  have hI : decide (ys.length < xss.length) = false := decide_eq_false (by omega)
  have hI2 : (xss.length : Int) ≤ (ys.length : Int) := by omega
  have hz : ((xss.length : Int) == 0) = false := by rw [beq_eq_false_iff_ne]; omega
  unfold maxLen at hlm hl2
  obtain ⟨i0, hi0, hz0, hz1, hz2⟩ := info_parts int_info
  have hmk : ∀ (n : Nat), n ≤ 1000 → ∀ W : World, (Instr.makeSlice 22 (.int .i64 (n : Int)) (.int .i64 (n : Int))).run Try.prog W = .ok (.slice (some ⟨W.heap.size, 0, none⟩) n n) (W.alloc (.cells (madeCells #[.int .i64 0] n) 3)) := fun n hn W => by
    have h := run_makeN (P := Try.prog) 22 3 i0 _ Try.underlying22 hi0 hz0 n (by omega) (by omega) W
    rw [hz1, Nat.mul_one] at h
    simpa [Value.cells] using h
  have hmk1 := hmk xss.length (by omega)
  have Hmk := Lib.hid hmk1
  clear hR hA2 hwf hl h70 hmk hmk1 hi0 hz0 hz1 hz2
  go_enter Try.func7, Try.ntmps7
  go_wp2_with fail
  refine L.out.mono ?_
  rintro e w' ⟨rfl, rfl⟩
  clear L
  go_wp2_with fail
  refine (awake11 _).mono ?_
  rintro e w1 ⟨rfl, hb1⟩
  have s1 := hb1.size
  have HB1 := Lib.hid hb1
  clear hb1
  go_wp2_with fail
  refine (life21 A cap xss u w.heap.size w1 (by omega) (HR.out.below HB1.out) (by omega) (fun r hr => Nat.le_trans (H70.out r hr) (by decide))).mono ?_
  rintro e w2 ⟨A3, cap3, rfl, own2, hb2⟩
  have s2 := hb2.size
  have HB2 := Lib.hid (HB1.out.trans (hb2.mono (by omega)))
  have O2 := Lib.hid own2
  have hl64 := lfL_len xss u
  clear own2 hb2 HB1
  by_cases hE : lfE xss u = 0
  · rw [lfL_ok hE] at O2 hl64 ⊢
    have hlen : (lfA u xss xss.length).length = (row xss (xss.length - 1)).length := by
      rw [lfA_len]
      obtain ⟨m, hm⟩ : ∃ m, xss.length = m + 1 := ⟨xss.length - 1, by omega⟩
      rw [hm]; rfl
    obtain ⟨F, hF⟩ : ∃ F, F = lfA u xss xss.length := ⟨_, rfl⟩
    have HEF := Lib.hid (And.intro hE (And.intro hF hlen))
    have hee : (lfE xss u != 0) = false := by simp [hE]
    have hk2 := Hmk.out
    rw [← hF] at O2 hl64 ⊢
    clear hE hlen hF
    go_wp2_with fail
    obtain ⟨g, hg⟩ : ∃ g, g = w2.heap.size := ⟨_, rfl⟩
    have O0 := OutB.made w2 xss.length
    have B0 : Below w2.heap.size w2 (w2.alloc (.cells (madeCells #[.int .i64 0] xss.length) 3)) := (Below.refl _ _).alloc (Nat.le_refl _) _
    have HP := Lib.hid (show AlP w A3 xss F g (w2.alloc (.cells (madeCells #[.int .i64 0] xss.length) 3)) (List.replicate xss.length 0) from
      ⟨by simp, by rw [hg]; exact O0, by rw [hg]; exact (O2.out.is).below B0, by omega, HB2.out.trans (B0.mono (by omega))⟩)
    rw [← hg]
    obtain ⟨X, hX⟩ : ∃ X, X = w2.alloc (.cells (madeCells #[.int .i64 0] xss.length) 3) := ⟨_, rfl⟩
    rw [← hX] at HP ⊢
    clear hX hg O0 B0 O2 HB2 hk2 Hmk
    go_loopw [6, 10] (fun r i wr => ∃ (k : Nat) (pl : List Int), k ≤ xss.length ∧ i = .int .i64 k ∧ r = .bool false ∧ (∀ j, j < k → 0 ≤ nth pl j ∧ nth pl j < (row xss j).length) ∧ AlP w A3 xss F g wr pl) (fun _ i _ => xss.length - (intOf i).toNat)
    case atStart => exact ⟨0, _, Nat.zero_le _, rfl, rfl, fun j h => absurd h (by omega), HP.out⟩
    case round =>
      clear HP
      obtain ⟨k, pl, hk, rfl, rfl, hall, hP⟩ := hrel
      have HP := Lib.hid hP
      have Hall := Lib.hid hall
      obtain ⟨hpl, hO, -, hwg, hB⟩ := hP
      clear hall
      by_cases hlt : k < xss.length
      · have hkI : (k : Int) < (xss.length : Int) := by omega
        have hk0 : (0 : Int) ≤ (k : Int) := by omega
        obtain ⟨b, off, rfl, hbl, hc⟩ := (HR.out.below hB) h0
        obtain ⟨Ar, Cr, c1, -⟩ := hc k hlt
        clear hc
        by_cases hz1 : (row xss k).length = 0
        · have hzz : (((row xss k).length : Int) == 0) = true := by rw [beq_iff_eq]; omega
          have HB := Lib.hid hB
          clear hz1 hO hpl hB
          go_wp2_with fail
          go_ret
          exact ⟨rfl, HB.out⟩
        · have hzz : (((row xss k).length : Int) == 0) = false := by rw [beq_eq_false_iff_ne]; omega
          obtain ⟨b2, off2, rfl, hbl2, hc2⟩ := (HA2.out.below hB) (by omega)
          have c2 := hc2 k (by omega)
          have hv8 := u8_at Hwf.out (k := k) (by omega)
          obtain ⟨z, hz9⟩ : ∃ z, z = nth ys k := ⟨_, rfl⟩
          rw [← hz9] at c2 hv8
          obtain ⟨z0, z1⟩ := hv8
          have c3 := hO.cell (j := k) (by omega)
          have c4 := hO.frozen k
          obtain ⟨L, hL⟩ : ∃ L : Nat, L = (row xss k).length := ⟨_, rfl⟩
          rw [← hL] at hzz
          have hLp : (0 : Int) < (L : Int) := by omega
          have hL7 : (L : Int) ≤ 70 := by have := H70.out k hlt; omega
          have hnz : (L : Int) ≠ 0 := by omega
          have hnN : L ≠ 0 := by omega
          have hv0 : 0 ≤ z.tmod (L : Int) := Int.tmod_nonneg _ z0
          have hv1 : z.tmod (L : Int) < L := Int.tmod_lt_of_pos _ hLp
          have e1 : z % (L : Int) = z.tmod (L : Int) := (Int.tmod_eq_emod_of_nonneg z0).symm
          obtain ⟨v, hv⟩ : ∃ v, z.tmod (L : Int) = v := ⟨_, rfl⟩
          rw [hv] at hv0 hv1 e1
          have hki : (k : Int) < (ys.length : Int) := by omega
          have ws : IntKind.i64.wrap v = v := IntWalk.i64_in _ (by omega)
          have wz : IntKind.i64.wrap z = z := IntWalk.i64_in _ (by omega)
          have HO := Lib.hid hO
          have HB := Lib.hid hB
          have Hwg := Lib.hid hwg
          have Hpl := Lib.hid hpl
          have HL := Lib.hid hL
          rw [← hL] at c1
          clear hO hB hpl hz1 hz9 hc2 hL
          go_wp2_with fail
          refine still_drew 13 (by kernel_rfl) (by kernel_rfl) ?_
          simp only [List.take_succ_cons, List.take_zero, List.drop_succ_cons, List.drop_zero]
          repeat still_step
          refine wpStill_nil ?_
          go_wp2_with fail
          exact ⟨⟨k + 1, pl.set k v, by omega, by go_num, rfl, fun j hj => by
            rw [nth_set _ _ _ _ (by rw [Hpl.out]; exact hlt)]
            by_cases e : j = k
            · subst e; rw [if_pos rfl, ← HL.out]; exact ⟨hv0, hv1⟩
            · rw [if_neg e]; exact Hall.out j (by omega), by
            obtain ⟨p1, p2, p3, p4, p5⟩ := HP.out
            exact ⟨by simp [p1], (p2.set k v (by omega)).drew, p3.far9 _, p4, (p5.setCell (p := ⟨g, k, none⟩) p4 _).drew⟩⟩, by simp [intOf]; omega⟩
      · obtain rfl : k = xss.length := by omega
        obtain ⟨V, hV⟩ : ∃ V, V = wr := ⟨_, rfl⟩
        rw [← hV] at HP ⊢
        clear hV hpl hO hwg hB
        go_wp2_with fail
        go_loopw [6, 11] (fun r i wx => ∃ q : Nat, q + 1 ≤ xss.length ∧ i = .int .i64 ((q + 1 : Nat) : Int) ∧ r = .bool false ∧ (∀ j, j < q → AlB xss pl u j) ∧ DrN V wx) (fun _ i _ => xss.length - (intOf i).toNat)
        case atStart => exact ⟨0, by omega, rfl, rfl, fun j h => absurd h (by omega), DrN.refl _⟩
        case round =>
          obtain ⟨q, hq, rfl, rfl, hal, hD⟩ := hrel
          have Hal := Lib.hid hal
          clear hal
          obtain ⟨hpl, hO, hF, hwg, hB⟩ := HP.out.on hD.below
          obtain ⟨b, off, rfl, hbl, hc⟩ := (HR.out.below hB) h0
          obtain ⟨A1, C1, c1, i1⟩ := hc q (by omega)
          have q1 := Hall.out q (by omega)
          have o1 := (ckS_ok.1 (ckR_all (lfE_ok.1 HEF.out.1).2.1 q (by omega))).2
          obtain ⟨x, hx⟩ : ∃ x, x = (nth pl q).toNat := ⟨_, rfl⟩
          have hxv : nth pl q = (x : Int) := by omega
          have c3 := hO.cell (j := q) (by omega)
          rw [hxv] at c3 q1
          by_cases hlt2 : q + 1 < xss.length
          · obtain ⟨A4, C4, c2, i2⟩ := hc (q + 1) (by omega)
            have q2 := Hall.out (q + 1) (by omega)
            have o2 := (ckS_ok.1 (ckR_all (lfE_ok.1 HEF.out.1).2.1 (q + 1) (by omega))).2
            obtain ⟨y, hy⟩ : ∃ y, y = (nth pl (q + 1)).toNat := ⟨_, rfl⟩
            have hyv : nth pl (q + 1) = (y : Int) := by omega
            have c4 := hO.cell (j := q + 1) (by omega)
            rw [hyv] at c4 q2
            obtain ⟨b1, f1, rfl, hb1, hc1⟩ := i1 (by omega)
            obtain ⟨b4, f4, rfl, hb4, hc4⟩ := i2 (by omega)
            have c5 := hc1 x (by omega)
            have c6 := hc4 y (by omega)
            obtain ⟨vx, hvx⟩ : ∃ v, v = nth (row xss q) x := ⟨_, rfl⟩
            obtain ⟨vy, hvy⟩ : ∃ v, v = nth (row xss (q + 1)) y := ⟨_, rfl⟩
            have bx : 0 ≤ vx ∧ vx ≤ 1023 := by rw [hvx]; exact ⟨okTo_pos o1 (by omega), (okTo_at o1 (by omega)).2⟩
            have bY : 0 ≤ vy ∧ vy ≤ 1023 := by rw [hvy]; exact ⟨okTo_pos o2 (by omega), (okTo_at o2 (by omega)).2⟩
            rw [← hvx] at c5
            rw [← hvy] at c6
            have HO1 := Lib.hid (show ∀ j, j < (row xss q).length → 0 ≤ nth (row xss q) j ∧ nth (row xss q) j ≤ 1023 from fun j hj => ⟨okTo_pos o1 hj, (okTo_at o1 hj).2⟩)
            have HO2 := Lib.hid (show ∀ j, j < (row xss (q + 1)).length → 0 ≤ nth (row xss (q + 1)) j ∧ nth (row xss (q + 1)) j ≤ 1023 from fun j hj => ⟨okTo_pos o2 hj, (okTo_at o2 hj).2⟩)
            have h71 := H70.out q (by omega)
            have h72 := H70.out (q + 1) hlt2
            have NR := Lib.hid (fun W => near28 vx vy u W bx bY)
            have P1 := Lib.hid (fun n => apart29 (some ⟨b1, f1, none⟩) C1 (row xss q) x vx vy u w.heap.size (wr.drewN n) ((fun _ => ⟨b1, f1, rfl, hb1, fun j hj => hc1 j hj⟩)) (by omega) HO1.out bx bY)
            have P2 := Lib.hid (fun n => apart29 (some ⟨b4, f4, none⟩) C4 (row xss (q + 1)) y vx vy u w.heap.size (wr.drewN n) ((fun _ => ⟨b4, f4, rfl, hb4, fun j hj => hc4 j hj⟩)) (by omega) HO2.out bx bY)
            have hxI : (x : Int) < ((row xss q).length : Int) := q1.2
            have hyI : (y : Int) < ((row xss (q + 1)).length : Int) := q2.2
            have hx0 : (0 : Int) ≤ (x : Int) := by omega
            have hy0 : (0 : Int) ≤ (y : Int) := by omega
            have e8 : ((q : Int) + 1) - 1 = (q : Int) := by omega
            have k5 : (0 : Int) ≤ (q : Int) := by omega
            have k6 : (q : Int) < (xss.length : Int) := by omega
            have k7 : (q : Int) + 1 < (xss.length : Int) := by omega
            have k8 : (0 : Int) ≤ (q : Int) + 1 := by omega
            have HS := Lib.hid (show AlB xss pl u q ↔ nrB vx vy u = true ∧ apB (row xss q) x vx vy u = true ∧ apB (row xss (q + 1)) y vx vy u = true by unfold AlB; rw [← hx, ← hy, ← hvx, ← hvy])
            have HD := Lib.hid hD
            have HB := Lib.hid hB
            have HPL := Lib.hid hpl
            clear hc1 hc4 i1 i2 o1 o2 hvx hvy hx hy hxv hyv q1 q2 hc hD hB hO hF hpl bx bY
            go_wp2_with fail
            go_quiet (fail)
            go_wp2_with fail
            obtain ⟨Y, hY⟩ : ∃ Y, Y = wr.drewN nq := ⟨_, rfl⟩
            have d1 : Y.cell? ⟨b, off + q, none⟩ = some (.slice (some ⟨b1, f1, none⟩) (row xss q).length C1) := by rw [hY]; exact c1
            have d2 : Y.cell? ⟨b, off + (q + 1), none⟩ = some (.slice (some ⟨b4, f4, none⟩) (row xss (q + 1)).length C4) := by rw [hY]; exact c2
            have d3 : Y.cell? ⟨g, q, none⟩ = some (.int .i64 (x : Int)) := by rw [hY]; exact c3
            have d4 : Y.cell? ⟨g, q + 1, none⟩ = some (.int .i64 (y : Int)) := by rw [hY]; exact c4
            have HD := Lib.hid (show DrN V Y by rw [hY]; exact HD.out.on nq)
            have HB := Lib.hid (show Below w.heap.size w Y by rw [hY]; exact below_drewN HB.out nq)
            have P1 := Lib.hid (show ∀ n, Calls Try.prog 29 _ (Y.drewN n) fun e w' => e = .returned (.bool (apB (row xss q) x vx vy u)) ∧ Y.drewN n = w' by rw [hY]; intro n; rw [World.drewN_drewN]; exact P1.out _)
            have P2 := Lib.hid (show ∀ n, Calls Try.prog 29 _ (Y.drewN n) fun e w' => e = .returned (.bool (apB (row xss (q + 1)) y vx vy u)) ∧ Y.drewN n = w' by rw [hY]; intro n; rw [World.drewN_drewN]; exact P2.out _)
            rw [← hY]
            clear hY c1 c2 c3 c4 c5 c6
            by_cases r1 : nrB vx vy u = true
            · by_cases r2 : apB (row xss q) x vx vy u = true
              · by_cases r3 : apB (row xss (q + 1)) y vx vy u = true
                · have HS' := Lib.hid (HS.out.2 ⟨r1, r2, r3⟩)
                  clear HS
                  go_quiet ((first | (go_at_call 28; with_reducible exact Calls.quiet_of_same (flipc (NR.out _))) | (go_at_call 29; with_reducible exact Calls.quiet_of_same (flipc (P1.out _))) | (go_at_call 29; with_reducible exact Calls.quiet_of_same (flipc (P2.out _)))))
                  go_wp2_with fail
                  exact ⟨⟨q + 1, by omega, by go_num, rfl, fun j hj => by
                    rcases Nat.lt_or_ge j q with g | g
                    · exact Hal.out j g
                    · obtain rfl : j = q := by omega
                      exact HS'.out, HD.out.on _⟩, by simp [intOf]; omega⟩
                · have r3 : apB (row xss (q + 1)) y vx vy u = false := by simpa using r3
                  clear HS
                  go_quiet ((first | (go_at_call 28; with_reducible exact Calls.quiet_of_same (flipc (NR.out _))) | (go_at_call 29; with_reducible exact Calls.quiet_of_same (flipc (P1.out _))) | (go_at_call 29; with_reducible exact Calls.quiet_of_same (flipc (P2.out _)))))
                  go_wp2_with fail
                  go_ret
                  exact ⟨rfl, below_drewN HB.out _⟩
              · have r2 : apB (row xss q) x vx vy u = false := by simpa using r2
                clear HS
                go_quiet ((first | (go_at_call 28; with_reducible exact Calls.quiet_of_same (flipc (NR.out _))) | (go_at_call 29; with_reducible exact Calls.quiet_of_same (flipc (P1.out _))) | (go_at_call 29; with_reducible exact Calls.quiet_of_same (flipc (P2.out _)))))
                go_wp2_with fail
                go_ret
                exact ⟨rfl, below_drewN HB.out _⟩
            · have r1 : nrB vx vy u = false := by simpa using r1
              clear HS
              go_quiet ((first | (go_at_call 28; with_reducible exact Calls.quiet_of_same (flipc (NR.out _))) | (go_at_call 29; with_reducible exact Calls.quiet_of_same (flipc (P1.out _))) | (go_at_call 29; with_reducible exact Calls.quiet_of_same (flipc (P2.out _)))))
              go_wp2_with fail
              go_ret
              exact ⟨rfl, below_drewN HB.out _⟩
          · obtain ⟨hE, hF2, hlen⟩ := HEF.out
            have hLq : xss.length = q + 1 := by omega
            have hlife := alone_life hE Hall.out (fun j hj => Hal.out j (by omega)) q (by omega)
            rw [← hx, ← hLq, ← hF2] at hlife
            have hlen' : F.length = (row xss q).length := by rw [hF2, hlen, show xss.length - 1 = q by omega]
            obtain ⟨b3, f3, rfl, hb3, hc3⟩ := hF (by omega)
            have c7 := hc3 x (by omega)
            rw [hlife] at c7
            have hxI : (x : Int) < ((row xss q).length : Int) := q1.2
            have hxF : (x : Int) < (F.length : Int) := by omega
            have hx0 : (0 : Int) ≤ (x : Int) := by omega
            have e8 : (xss.length : Int) - 1 = (q : Int) := by omega
            have e9 : ((F.length : Int) == ((row xss q).length : Int)) = true := by rw [beq_iff_eq]; omega
            have k5 : (0 : Int) ≤ (q : Int) := by omega
            have k6 : (q : Int) < (xss.length : Int) := by omega
            have k7 : (xss.length : Int) ≤ (q : Int) + 1 := by omega
            have HB := Lib.hid hB
            clear hc3 hlife hlen' hLq hlen hF2 hE hx hxv q1 hc hB hO hpl o1 i1 hD
            go_wp2_with fail
            go_ret
            exact ⟨rfl, HB.out⟩
  · have hE' := lfL_bad hE
    rw [hE'] at *
    have hee : (lfE xss u != 0) = true := by simpa using hE
    have hE2 := Lib.hid hE
    clear hE hE' O2
    go_wp2_with fail
    go_ret
    exact ⟨rfl, HB2.out⟩
theorem frFruitAloneL (A : Option Addr) (len cap : Nat) (xss : List (List Int)) (A2 : Option Addr) (len2 cap2 : Nat) (zs : List Int) (u : Int) (w : World) (hR : RIs .i64 w w.heap.size A xss) (hl : xss.length = len) (hm : xss.length ≤ maxLen) (h2 : IsRow .u8 w A2 len2 cap2 zs) :
    Calls Try.prog 7 #[.slice A len cap, .slice A2 len2 cap2, .int .i64 u] w fun e w' => e = .returned (.bool true) ∧ Below w.heap.size w w' := by
  subst hl
  obtain ⟨k1, k2, k3, k4⟩ := Is.of_row h2
  generalize zs.take len2 = ys at k1 k2 k4
  subst k2
  by_cases g1 : lngP xss
  · exact frAlone0 A A2 cap cap2 xss ys u w hR hm (.inl g1)
  · by_cases g2 : ys.length < xss.length ∨ xss.length = 0
    · exact frAlone0 A A2 cap cap2 xss ys u w hR hm (.inr ⟨g1, g2⟩)
    · exact frAlone1 A A2 cap cap2 xss ys u w hR hm k1 k3 k4 g1 (by omega) (by omega)

namespace fruitAloneRow
open Go.ChangeShapes Go.WideShapes Go.ChangeAt Go.RowKit
open Go.ChangeMaps (open_string shut_string)
set_option linter.unusedVariables false
theorem own : ownKnob Try.prog.godebug = none := by kernel_rfl
theorem laidOut : laidOutB Try.prog = true := by kernel_rfl
set_option maxRecDepth 100000 in
theorem lifted (os : Os) (started : os.Started) (H : Type) (enc : TypeId × Value → H) :
    ReturnsInHanded {} Try.checked os 7 .any (Rows.fruitAloneSpec.pre6 enc Try.prog Try.f7 Rows.fruitAloneRow.domain false) (Rows.fruitAloneSpec.post enc Try.prog Try.f7 false true false false) := by
  refine returnsInHanded_of_change (C := Try.checked) own started (by kernel_rfl) Try.func7
    (ChangeSpec.witness6 (enc := enc) (C := Try.checked) false ⟨#[], #[.slice none 0 0, .slice none 0 0, .int .i64 0], []⟩ 8 (by kernel_rfl) (by kernel_rfl) (by kernel_rfl) (by kernel_rfl)) ?_
  intro W base args ds gs before hval0 hW hcnd _hsz
  have hval : ∀ (j : Nat) t v, Try.f7.params[j]? = some t → args[j]? = some v → Value.okWide Try.prog W .any base t v := hval0
  have hW' := hW
  obtain ⟨p, q, hA0, hV, rfl, hfz, hnd⟩ := hW
  have hA : DataW.TrodAll enc Try.prog W 0 (fun _ => true) true Try.f7.params.toList args.toList ds p := hA0
  rw [Try.params7] at hA hval
  obtain ⟨v0, vs0, d0, ds0, p0, q0, hargs, rfl, rfl, h0, r0⟩ := trodAll_cons hA
  obtain ⟨v1, vs1, d1, ds1, p1, q1, rfl, rfl, rfl, h1, r1⟩ := trodAll_cons r0
  obtain ⟨v2, vs2, d2, ds2, p2, q2, rfl, rfl, rfl, h2, r2⟩ := trodAll_cons r1
  obtain ⟨rfl, rfl, rfl⟩ := trodAll_nil r2
  obtain rfl : args = #[v0, v1, v2] := by cases args; simp_all
  obtain ⟨rfl, rfl⟩ := trodVars_none hV
  have k0 := h0
  have lt0 : ∀ x ∈ p0, x.block < W.heap.size := by obtain ⟨m, hm⟩ := k0; exact DataW.trod_lt m _ _ _ hm
  have k1 := h1
  have lt1 : ∀ x ∈ p1, x.block < W.heap.size := by obtain ⟨m, hm⟩ := k1; exact DataW.trod_lt m _ _ _ hm
  have k2 := h2
  have lt2 : ∀ x ∈ p2, x.block < W.heap.size := by obtain ⟨m, hm⟩ := k2; exact DataW.trod_lt m _ _ _ hm
  obtain ⟨a0, len0, cap0, rfl⟩ := okWide_slice Try.underlying35 (hval 0 35 v0 rfl rfl)
  obtain ⟨m0, w0, l0, x0⟩ : ∃ xss : List (List Int), RIs .i64 W W.heap.size a0 xss ∧ xss.length = len0 ∧ xss.length ≤ maxLen := by
    obtain ⟨fuel, hf⟩ := h0
    rcases Go.Deep.open_int_rows Try.underlying35 Try.underlying22 Try.underlying3 (by kernel_rfl) (by kernel_rfl) hf with ⟨hcs, _⟩ | ⟨x, l, c, A, L, C, Z, hcs, _, hl, hm, _, hcell⟩
    · simp [Value.cells] at hcs
      obtain ⟨rfl, rfl, rfl⟩ := hcs
      exact ⟨[], fun h => by simp at h, rfl, Nat.zero_le _⟩
    · simp [Value.cells] at hcs
      obtain ⟨rfl, rfl, rfl⟩ := hcs
      obtain ⟨xss, h1, h2, -⟩ := RIs.of hl hcell
      exact ⟨xss, h1, h2, by omega⟩
  obtain ⟨a1, len1, cap1, rfl⟩ := okWide_slice Try.underlying47 (hval 1 47 v1 rfl rfl)
  obtain ⟨z1, w1⟩ : ∃ zs, IsRow .u8 W a1 len1 cap1 zs := by
    obtain ⟨fuel, hf⟩ := h1
    rcases open_ints Try.underlying47 Try.underlying5 (by kernel_rfl) hf with ⟨hcs, _⟩ | ⟨x, l, c, zs, hcs, _, hl, hm, hz, _, hcell, hwz⟩
    · simp [Value.cells] at hcs
      obtain ⟨rfl, rfl, rfl⟩ := hcs
      exact ⟨[], .inl ⟨rfl, rfl, rfl, rfl⟩⟩
    · simp [Value.cells] at hcs
      obtain ⟨rfl, rfl, rfl⟩ := hcs
      exact ⟨zs, .inr ⟨_, rfl, hl, hm, by simpa using hz, hcell, hwz⟩⟩
  obtain ⟨a2, rfl, -, -, w2⟩ := open_int Try.underlying3 (hval 2 3 v2 rfl rfl) h2
  clear hA0 hval0
  refine (frFruitAloneL a0 len0 cap0 m0 a1 len1 cap1 z1 a2 W w0 l0 x0 w1).mono fun e W' ⟨he, bel⟩ => ?_
  subst he
  exact ⟨_, rfl, _, _, _, [], _, [], hW', trodAll_mk1 (shut_bool Try.underlying4 _), (trodAll_cons_mk (Below.trod laidOut (by kernel_rfl) (of_decide_eq_true (by kernel_rfl)) k0 bel lt0) (trodAll_cons_mk (Below.trod laidOut (by kernel_rfl) (of_decide_eq_true (by kernel_rfl)) k1 bel lt1) (trodAll_cons_mk (Below.trod laidOut (by kernel_rfl) (of_decide_eq_true (by kernel_rfl)) k2 bel lt2) trodAll_mk0))), rfl, bel.frame _, fun h => by cases h⟩

theorem over : Rows.fruitAloneRow.holds Try.pinned (OpenSpec.ofChange Rows.fruitAloneSpec) :=
  OpenClaim.holds_of_wide 7 Try.f7 rfl rfl rfl rfl rfl rfl rfl ⟨rfl, rfl, rfl, rfl, rfl⟩ rfl rfl rfl rfl rfl (by kernel_rfl) Try.func7 (by kernel_rfl)
    (of_decide_eq_true (by kernel_rfl)) (by unfold Func.isWrapper; first | (rw [if_pos (by decide +kernel)]; kernel_rfl) | (rw [if_neg (by decide +kernel)]; exact ⟨rfl, rfl⟩))
    (fun os started H enc _ => lifted os started H enc)
theorem proved : Rows.FruitAloneSaid := over
end fruitAloneRow
end Go.Proofs.Ytmkpblfacnnnoaa
