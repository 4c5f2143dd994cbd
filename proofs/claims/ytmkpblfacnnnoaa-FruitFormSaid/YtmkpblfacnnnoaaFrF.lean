/- The reference of package fruit: first and Match. -/
import Derived.Test.YtmkpblfacnnnoaaRows
import Derived.WalkKit
import Derived.WalkLawsBesides
import Derived.WalkSpells
import Derived.ProofKit
import Derived.Below
import Derived.Outline
import Derived.Lib.Hide
import Derived.Deep.RegionWith
import Derived.Deep.RegionHeld3
import Derived.Deep.DrawnRows
import Derived.StillTailTactics
import Derived.BigQuiet
import Derived.Deep.QuietTactic
import Derived.Deep.LoopGhost
import Derived.IntWalk
import Derived.Test.YtmkpblfacnnnoaaFrE
namespace Go.Proofs.Ytmkpblfacnnnoaa
open Go.RowKit
attribute [local go_sem ↓] Go.wp_at_zero Go.wp_at_succ
attribute [local go_sem] wrap_lit

/-- The world wr is w behind some draws. -/
def DrN (w wr : World) : Prop := ∃ n, w.drewN n = wr
theorem DrN.refl (w : World) : DrN w w := ⟨0, rfl⟩
theorem DrN.on {w wr : World} (h : DrN w wr) (n : Nat) : DrN w (wr.drewN n) := by
  obtain ⟨m, rfl⟩ := h
  exact ⟨m + n, by rw [World.drewN_drewN]⟩
theorem DrN.is {w wr : World} (h : DrN w wr) {k : IntKind} {B : Nat} {A : Option Addr} {xs : List Int} (hA : Is k w B A xs) : Is k wr B A xs := by obtain ⟨m, rfl⟩ := h; exact hA
theorem DrN.tO {w wr : World} (h : DrN w wr) {G la lb : Nat} (t : TbO w G la lb) : TbO wr G la lb := by obtain ⟨m, rfl⟩ := h; exact t
theorem DrN.tR {w wr : World} (h : DrN w wr) {G la lb : Nat} {T : Nat → Nat → Nat} (t : TbR w G la lb T) : TbR wr G la lb T := by obtain ⟨m, rfl⟩ := h; exact t
set_option maxRecDepth 100000 in
set_option maxHeartbeats 8000000 in
theorem first33 (A A' : Option Addr) (cap cap' : Nat) (a b : List Int) (u : Int) (B G : Nat) (i j X Y : Nat) (w : World) (ha : okTo a a.length = true) (hb : okTo b b.length = true) (hla : a.length ≤ 64) (hlb : b.length ≤ 64)
    (hA : Is .i64 w B A a) (hA' : Is .i64 w B A' b) (tO : TbO w G a.length b.length) (tR : TbR w G a.length b.length (Mo u a b)) (hd : Hd u a b i j X Y) :
    Calls Try.prog 33 #[.slice A a.length cap, .slice A' b.length cap', .int .i64 u, .slice (some ⟨G, 0, none⟩) (a.length + 1) (a.length + 1), .int .i64 (i : Int), .int .i64 (j : Int)] w fun e w' => e = .returned (.tuple #[.int .i64 (X : Int), .int .i64 (Y : Int)]) ∧ ∃ n, w.drewN n = w' := by
  have HD := Lib.hid hd
  have HA := Lib.hid hA
  have HA' := Lib.hid hA'
  have HO := Lib.hid tO
  have HR := Lib.hid tR
  have Hha := Lib.hid ha
  have Hhb := Lib.hid hb
  have hXi := hd.ix
  have hYj := hd.jy
  have hXa := hd.xa
  have hYb := hd.yb
  clear hd hA hA' tO tR ha hb
  go_enter Try.func33, Try.ntmps33
  go_wp2_with fail
  go_loopw [14, 15] (fun x _ wr => ∃ (p : Nat), i ≤ p ∧ p ≤ X ∧ x = .int .i64 p ∧ DrN w wr) (fun x _ _ => X + 1 - (intOf x).toNat)
  case atStart => exact ⟨i, Nat.le_refl _, hXi, rfl, DrN.refl w⟩
  case round =>
    obtain ⟨p, hp, hpX, rfl, hDr⟩ := hrel
    have p0 : (0 : Int) ≤ (p : Int) := by omega
    have p1 : (p : Int) < (a.length : Int) := by omega
    have p2 : (p : Int) + 1 < (a.length : Int) + 1 := by omega
    have p3 : (0 : Int) ≤ (p : Int) + 1 := by omega
    have p4 : ((p : Int) + 1).toNat = p + 1 := by omega
    go_wp2_with fail
    obtain ⟨wo, rfl⟩ : ∃ wo : World, wo = wr := ⟨_, rfl⟩
    go_loopw [15] (fun y wr => ∃ (q : Nat), j ≤ q ∧ q ≤ b.length ∧ (p < X ∨ q ≤ Y) ∧ y = .int .i64 q ∧ DrN w wr) (fun y _ => b.length - (intOf y).toNat)
    case atStart => exact ⟨j, Nat.le_refl _, by omega, .inr hYj, rfl, hDr⟩
    case round =>
      obtain ⟨q, hq, hqb, hpq, rfl, hDr⟩ := hrel
      by_cases hlt : q < b.length
      · have q0 : (0 : Int) ≤ (q : Int) := by omega
        have q1 : (q : Int) < (b.length : Int) := by omega
        have q2 : (q : Int) + 1 < (b.length : Int) + 1 := by omega
        have q3 : (0 : Int) ≤ (q : Int) + 1 := by omega
        have q4 : ((q : Int) + 1).toNat = q + 1 := by omega
        have i0 : (0 : Int) ≤ (i : Int) := by omega
        have i1 : (i : Int) < (a.length : Int) + 1 := by omega
        have j0 : (0 : Int) ≤ (j : Int) := by omega
        have j1 : (j : Int) < (b.length : Int) + 1 := by omega
        obtain ⟨g1, s1, rfl, hg1, hc1⟩ := hDr.is HA.out (by omega)
        obtain ⟨g2, s2, rfl, hg2, hc2⟩ := hDr.is HA'.out (by omega)
        have x1 := hc1 p (by omega)
        have x2 := hc2 q hlt
        have D0 : 0 ≤ nth a p ∧ nth a p ≤ 1023 := ⟨okTo_pos Hha.out (by omega), (okTo_at Hha.out (by omega)).2⟩
        have D1 : 0 ≤ nth b q ∧ nth b q ≤ 1023 := ⟨okTo_pos Hhb.out hlt, (okTo_at Hhb.out hlt).2⟩
        have NR := fun w => near38 (nth a p) (nth b q) u w D0 D1
        clear hc1 hc2 hg1 hg2 D0 D1
        by_cases hN : nth a p - nth b q ≤ u ∧ nth b q - nth a p ≤ u
        · have hNB : nrB (nth a p) (nth b q) u = true := nr_dec.2 hN
          rw [hNB] at NR
          have NRH := Lib.hid NR
          have o1 := hDr.tO HO.out (p + 1) (by omega)
          have o2 := hDr.tO HO.out i (by omega)
          have r1 := (hDr.tR HR.out (p + 1) (q + 1) (by omega) (by omega)).1
          have r2 := (hDr.tR HR.out i j (by omega) (by omega)).1
          have b1 := Mo_64 u a b Hha.out Hhb.out hla (p + 1) (q + 1)
          have b2 := Mo_64 u a b Hha.out Hhb.out hla i j
          obtain ⟨s, hs⟩ : ∃ s, s = Mo u a b (p + 1) (q + 1) := ⟨_, rfl⟩
          obtain ⟨z, hz⟩ : ∃ z, z = Mo u a b i j := ⟨_, rfl⟩
          rw [← hs] at r1 b1
          rw [← hz] at r2 b2
          have wp : IntKind.i64.wrap ((p : Int) + 1) = (p : Int) + 1 := IntWalk.i64_in _ (by omega)
          have wq : IntKind.i64.wrap ((q : Int) + 1) = (q : Int) + 1 := IntWalk.i64_in _ (by omega)
          have ws : IntKind.i64.wrap (1 + (s : Int)) = 1 + (s : Int) := IntWalk.i64_in _ (by omega)
          have Hs := Lib.hid hs
          have Hz := Lib.hid hz
          have HN := Lib.hid hN
          clear hs hz hN hNB NR
          by_cases he : 1 + s = z
          · have heb : ((1 + (s : Int)) == (z : Int)) = true := by simp; omega
            have hXY : p = X ∧ q = Y := by
              have hF : Fnd u a b (Mo u a b i j) p q := ⟨HN.out.1, HN.out.2, by rw [← Hs.out, ← Hz.out]; exact he⟩
              have hbef := HD.out.bef p q hp hq hlt
              by_cases g : p < X ∨ p = X ∧ q < Y
              · exact absurd hF (hbef g)
              · omega
            obtain ⟨rfl, rfl⟩ := hXY
            clear he
            go_wp2_with fail
            go_quiet ((go_at_call 38; exact Calls.quiet_of_same (flipc (NRH.out _))))
            go_wp2_with fail
            go_ret2
            exact ⟨rfl, hDr.on nq⟩
          · have heb : ((1 + (s : Int)) == (z : Int)) = false := by simp; omega
            have hne : ¬ (p = X ∧ q = Y) := by
              rintro ⟨rfl, rfl⟩
              have := HD.out.fnd.2.2
              rw [← Hs.out, ← Hz.out] at this
              exact he this
            clear he
            go_wp2_with fail
            go_quiet ((go_at_call 38; exact Calls.quiet_of_same (flipc (NRH.out _))))
            go_wp2_with fail
            exact ⟨⟨q + 1, by omega, by omega, by omega, by go_num, hDr.on nq⟩, by simp [intOf]; omega⟩
        · have hNB : nrB (nth a p) (nth b q) u = false := by
            cases h : nrB (nth a p) (nth b q) u
            · rfl
            · exact absurd (nr_dec.1 h) hN
          rw [hNB] at NR
          have NRH := Lib.hid NR
          have hne : ¬ (p = X ∧ q = Y) := by
            rintro ⟨rfl, rfl⟩
            exact hN ⟨HD.out.fnd.1, HD.out.fnd.2.1⟩
          clear hN hNB NR
          go_wp2_with fail
          go_quiet ((go_at_call 38; exact Calls.quiet_of_same (flipc (NRH.out _))))
          go_wp2_with fail
          exact ⟨⟨q + 1, by omega, by omega, by omega, by go_num, hDr.on nq⟩, by simp [intOf]; omega⟩
      · obtain rfl : q = b.length := by omega
        have hpX' : p < X := by omega
        go_wp2_with fail
        exact ⟨⟨p + 1, by omega, by omega, by go_num, hDr⟩, by simp [intOf]; omega⟩

theorem Acc.mono {k : IntKind} {w : World} {base base' : Nat} {e : TypeId} {size n : Nat} {v : Value} {ys : List Int} (h : Acc k w base' e size v n ys) (hb : base ≤ base') : Acc k w base e size v n ys := by
  obtain ⟨hl, h0 | ⟨g, cap, cur, e1, h1, h2⟩⟩ := h
  · exact ⟨hl, .inl h0⟩
  · exact ⟨hl, .inr ⟨g, cap, cur, e1, Nat.le_trans hb h1, h2⟩⟩
set_option maxRecDepth 100000 in
set_option maxHeartbeats 8000000 in
theorem match14 (A A' : Option Addr) (cap cap' : Nat) (a b : List Int) (u : Int) (B : Nat) (w : World) (hBw : B ≤ w.heap.size) (hA : Is .i64 w B A a) (hA' : Is .i64 w B A' b) (hl : a.length ≤ 1000000) (hl' : b.length ≤ 1000000) :
    Calls Try.prog 14 #[.slice A a.length cap, .slice A' b.length cap', .int .i64 u] w fun e w' => ∃ v, e = .returned (.tuple #[v, .int .i64 (mtE a b u)]) ∧ Acc .i64 w' w.heap.size 46 2 v (mtL a b u).length (flat (mtL a b u)) ∧ Below w.heap.size w w' := by
  have C1 := fun w hA => check16 A cap a B w hA hl
  have C2 := fun w hA => check16 A' cap' b B w hA hl'
  by_cases h1 : ckS a = 0
  · by_cases h2 : ckS b = 0
    · by_cases h3 : 0 ≤ u ∧ u ≤ 1024
      · have hE : mtE a b u = 0 := mtE_ok.2 ⟨h1, h2, h3⟩
        have C3 := Lib.hid (fun w hBw hA hA' => most32 A A' cap cap' a b u B w (ckS_ok.1 h1).2 (ckS_ok.1 h2).2 (ckS_ok.1 h1).1 (ckS_ok.1 h2).1 hBw hA hA')
        have Hha := Lib.hid (ckS_ok.1 h1).2
        have Hhb := Lib.hid (ckS_ok.1 h2).2
        have hla := (ckS_ok.1 h1).1
        have hlb := (ckS_ok.1 h2).1
        rw [h1] at C1
        rw [h2] at C2
        rw [hE, mtL_ok hE]
        obtain ⟨u0, u1⟩ := h3
        have D1 := Lib.hid C1
        have D2 := Lib.hid C2
        have HA := Lib.hid hA
        have HA' := Lib.hid hA'
        clear C1 C2 h1 h2 hE hA hA'
        obtain ⟨i0, hi0, hz0, hz1, hz2⟩ := info_parts Pair_info
        go_enter Try.func14, Try.ntmps14
        go_wp2_with fail
        refine (D1.out w HA.out).mono ?_
        rintro e w1 ⟨rfl, n1, rfl⟩
        go_wp2_with fail
        refine (D2.out _ (HA'.out.drewN n1)).mono ?_
        rintro e w2 ⟨rfl, n2, rfl⟩
        go_wp2_with fail
        obtain ⟨W0, hW0⟩ : ∃ W0, W0 = (w.drewN n1).drewN n2 := ⟨_, rfl⟩
        have a1 : Is .i64 W0 B A a := by rw [hW0]; exact HA.out
        have a2 : Is .i64 W0 B A' b := by rw [hW0]; exact HA'.out
        have hs0 : W0.heap.size = w.heap.size := by rw [hW0]; rfl
        have hB0 : Below w.heap.size w W0 := by rw [hW0]; exact below_drewN (below_drewN (Below.refl _ _) _) _
        try rw [← hW0]
        try simp only [World.drewN_drewN] at hW0
        try rw [← hW0]
        refine (C3.out W0 (by omega) a1 a2).mono ?_
        rintro e w3 ⟨rfl, tO, tR, hb3, hsz⟩
        have HO := Lib.hid tO
        have HR := Lib.hid tR
        have hb0 : Below w.heap.size w w3 := hB0.trans (hb3.mono (by omega))
        have HA3 := Lib.hid (a1.below (hb3.mono (by omega)))
        have HA3' := Lib.hid (a2.below (hb3.mono (by omega)))
        clear tO tR hW0 a1 a2 hb3 HA HA' C3 D1 D2 hB0
        rw [hs0] at hsz
        simp only [hs0] at HO HR
        go_wp2_with fail
        obtain ⟨Q, hQ⟩ : ∃ Q, Q = w3.heap.size := ⟨_, rfl⟩
        have hwQ : w.heap.size + 1 + a.length < Q := by omega
        have hQ3 : Q ≤ w3.heap.size := by omega
        clear hQ hsz hs0
        go_loopw [11, 12, 13] (fun v i j wr => ∃ (x y : Nat) (l : List (Nat × Nat)), i = .int .i64 x ∧ j = .int .i64 y ∧ x ≤ a.length ∧ y ≤ b.length ∧ gr u a b 0 0 = l ++ gr u a b x y ∧ Acc .i64 wr Q 46 2 v l.length (flat l) ∧ Below Q w3 wr) (fun _ i _ _ => a.length + 1 - (intOf i).toNat)
        case atStart => exact ⟨0, 0, [], rfl, rfl, Nat.zero_le _, Nat.zero_le _, rfl, Acc.nil _ _ _ _ _, Below.refl _ _⟩
        case round =>
          obtain ⟨x, y, l, rfl, rfl, hx, hy, hg, hown, hB⟩ := hrel
          have hO := HO.out.below (by omega) hB
          have hR := HR.out.below hwQ hB
          have o1 := hO x (by omega)
          have r1 := (hR x y (by omega) (by omega)).1
          have hll : l.length ≤ 64 := by
            have k := congrArg List.length hg
            have k2 := (gr_le u a b _ 0 0 (Nat.le_refl _)).1
            rw [List.length_append] at k
            omega
          have x0 : (0 : Int) ≤ (x : Int) := by omega
          have x1 : (x : Int) < (a.length : Int) + 1 := by omega
          have y0 : (0 : Int) ≤ (y : Int) := by omega
          have y1 : (y : Int) < (b.length : Int) + 1 := by omega
          have hBs := hB.size
          have kA := HA3.out.below (hB.mono (by omega))
          have kA' := HA3'.out.below (hB.mono (by omega))
          have HG := Lib.hid hg
          have HW := Lib.hid hown
          have HB := Lib.hid hB
          rcases gr_hd (w := u) Hha.out Hhb.out _ x y (Nat.le_refl _) with ⟨k1, k2⟩ | ⟨k1, X, Y, hd⟩
          · have HL := Lib.hid (show l = gr u a b 0 0 by rw [HG.out, k2, List.append_nil])
            rw [k1] at r1
            clear hO hR hg hown hB k1 k2 kA kA'
            go_wp2_with fail
            go_ret2
            exact ⟨_, rfl, by rw [← HL.out]; exact HW.out.mono (by omega), hb0.trans (HB.out.mono (by omega))⟩
          · have F33 := Lib.hid (first33 A A' cap cap' a b u B w.heap.size x y X Y wr Hha.out Hhb.out hla hlb kA kA' hO hR hd)
            have HD := Lib.hid hd
            obtain ⟨z, hz⟩ : ∃ z, z = Mo u a b x y := ⟨_, rfl⟩
            rw [← hz] at r1 k1
            have hXa := hd.xa
            have hYb := hd.yb
            have hXx := hd.ix
            have zI : (0 : Int) < (z : Int) := by omega
            clear hO hR hg hown hB hz kA kA' hd k1
            go_wp2_with fail
            refine F33.out.mono ?_
            rintro e w4 ⟨rfl, n4, rfl⟩
            have HW4 := HW.out.drewN n4
            have hs4 : Q ≤ (wr.drewN n4).heap.size := by show Q ≤ wr.heap.size; omega
            go_wp2_with (at_builtin; refine wpList_app rfl _ _ 26 rfl .i64 Q 46 i0 _ 2 16 Try.underlying26 hi0 hz0 hz1 hz2 rfl (by decide) _ _ _ [(X : Int), (Y : Int)] rfl HW4 _ rfl rfl rfl (by omega) (by decide) hs4 ?_; intro v' w5 hown5 hb5)
            exact ⟨⟨X + 1, Y + 1, l ++ [(X, Y)], by go_num, by go_num, by omega, by omega, by rw [HG.out, HD.out.eq]; simp, by rw [flat_snoc, List.length_append]; exact hown5, (below_drewN HB.out n4).trans hb5⟩, by simp [intOf]; omega⟩
      · have hE : mtE a b u = 1 := by unfold mtE; rw [if_pos h1, if_pos h2, if_neg h3]
        rw [h1] at C1
        rw [h2] at C2
        rw [hE, mtL_bad (by omega)]
        have D1 := Lib.hid C1
        have D2 := Lib.hid C2
        have HA := Lib.hid hA
        have HA' := Lib.hid hA'
        clear C1 C2 h1 h2 hE hA hA'
        rcases (by omega : u < 0 ∨ (0 ≤ u ∧ 1024 < u)) with g | ⟨g, g'⟩
        all_goals
          clear h3
          go_enter Try.func14, Try.ntmps14
          go_wp2_with fail
          refine (D1.out w HA.out).mono ?_
          rintro e w1 ⟨rfl, n1, rfl⟩
          go_wp2_with fail
          refine (D2.out _ (HA'.out.drewN n1)).mono ?_
          rintro e w2 ⟨rfl, n2, rfl⟩
          go_wp2_with fail
          go_ret2
          exact ⟨_, rfl, accP_nil _ _, below_drewN (Below.refl _ _) _⟩
    · have hE : mtE a b u = ckS b := by unfold mtE; rw [if_pos h1, if_neg h2]
      rw [h1] at C1
      rw [hE, mtL_bad (by omega)]
      generalize ckS b = c at *
      have D1 := Lib.hid C1
      have D2 := Lib.hid C2
      have HA := Lib.hid hA
      have HA' := Lib.hid hA'
      have hc : (c != 0) = true := by simp [h2]
      clear C1 C2 h1 hE hA hA' h2
      go_enter Try.func14, Try.ntmps14
      go_wp2_with fail
      refine (D1.out w HA.out).mono ?_
      rintro e w1 ⟨rfl, n1, rfl⟩
      go_wp2_with fail
      refine (D2.out _ (HA'.out.drewN n1)).mono ?_
      rintro e w2 ⟨rfl, n2, rfl⟩
      go_wp2_with fail
      go_ret2
      exact ⟨_, rfl, accP_nil _ _, below_drewN (Below.refl _ _) _⟩
  · have hE : mtE a b u = ckS a := by unfold mtE; rw [if_neg h1]
    rw [hE, mtL_bad (by omega)]
    generalize ckS a = c at *
    have D1 := Lib.hid C1
    have HA := Lib.hid hA
    have hc : (c != 0) = true := by simp [h1]
    clear C1 C2 hE hA hA' h1
    go_enter Try.func14, Try.ntmps14
    go_wp2_with fail
    refine (D1.out w HA.out).mono ?_
    rintro e w1 ⟨rfl, n1, rfl⟩
    go_wp2_with fail
    go_ret2
    exact ⟨_, rfl, accP_nil _ _, below_drewN (Below.refl _ _) _⟩
end Go.Proofs.Ytmkpblfacnnnoaa
