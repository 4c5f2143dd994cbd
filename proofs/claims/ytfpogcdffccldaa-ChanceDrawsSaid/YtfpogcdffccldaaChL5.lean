/- ChanceDraws returns true for every input: Below, Hit, Shuffle and Fates return what the reference returns, one after the other, and with an error the state does not change. -/
import Derived.Test.YtfpogcdffccldaaChF
import Derived.Test.YtfpogcdffccldaaChH
import Derived.WalkKit
import Derived.ProofKit
import Derived.OpenShut
import Derived.ShutString
import Derived.ChangeOld
import Derived.Below
import Derived.Lib.SmallJoins
namespace Go.Proofs.Ytfpogcdffccldaa
open Go.RowKit
attribute [local go_sem ↓] Go.wp_at_zero Go.wp_at_succ
attribute [local go_sem] wrap_lit

def okB (n : Int) : Prop := 1 ≤ n ∧ n ≤ 1048576
def okH (p q : Int) : Prop := 1 ≤ q ∧ q ≤ 1048576 ∧ 0 ≤ p ∧ p ≤ q

set_option maxHeartbeats 20000000 in
set_option maxRecDepth 100000 in
theorem draws7b (s n p q : Int) (m : Int) (lose delay run : Int) (x0 : 1 ≤ s) (x1 : s < 2147483647) (hM : ¬ (0 ≤ m ∧ m ≤ 256)) (w : World) : Calls Try.prog 7 #[.int .i64 s, .int .i64 n, .int .i64 p, .int .i64 q, .int .i64 m, .int .i64 lose, .int .i64 delay, .int .i64 run] w fun e w' => e = .returned (.bool true) ∧ Below w.heap.size w w' := by
  have hMd : m < 0 ∨ (0 ≤ m ∧ 256 < m) := by omega
  have hF0 : ¬ okF m lose delay run := fun h => hM ⟨h.1, h.2.1⟩
  have HF := Lib.hid hF0
  clear hF0
  go_enter Try.func7, Try.ntmps7
  go_wp2_with fail
  refine (new15y s _ x0 x1).mono ?_
  rintro e w1 ⟨rfl, rfl⟩
  have s1 : Src (w.alloc (.cells #[.int .i64 s, .bool true] 55)) w.heap.size s true := heap_alloc_new w _
  have b : Below w.heap.size w (w.alloc (.cells #[.int .i64 s, .bool true] 55)) := (Below.refl _ _).alloc (Nat.le_refl _) _
  go_wp2_with fail
  generalize w.alloc (.cells #[.int .i64 s, .bool true] 55) = W at *
  have S := Lib.hid s1; clear s1
  by_cases hB : okB n
  · obtain ⟨p1, p2⟩ := hB
    refine (below24y _ s n W S.out x0 x1 p1 p2).mono ?_
    rintro e wa ⟨rfl, m1⟩
    have b1 := below_grown b m1.2 b.size (Nat.le_refl _)
    have S1 := Lib.hid m1.1; clear m1 S b
    have S := S1; have b := b1; clear S1 b1
    go_wp2_with fail
    refine (refBelow25 s n _ x0 x1 p1 (by omega)).mono ?_
    rintro e w2 ⟨rfl, rfl⟩
    have y0 := tms_pos s x0 x1
    have y1 := (tms_bd s 48271).2
    have hnn : (drw s n != drw s n) = false := by simp
    go_wp2_with fail
    clear hnn
    generalize tms s 48271 = xa at *
    by_cases hH : okH p q
    · obtain ⟨p1, p2, p3, p4⟩ := hH
      refine (hit26y _ xa p q wa S.out y0 y1 p1 p2 p3 p4).mono ?_
      rintro e wb ⟨rfl, m1⟩
      have b1 := below_grown b m1.2 b.size (Nat.le_refl _)
      have S1 := Lib.hid m1.1; clear m1 S b
      have S := S1; have b := b1; clear S1 b1
      go_wp2_with fail
      refine (refBelow25 xa q _ y0 y1 p1 (by omega)).mono ?_
      rintro e w2 ⟨rfl, rfl⟩
      have z0 := tms_pos xa y0 y1
      have z1 := (tms_bd xa 48271).2
      have hnn : (decide (drw xa q < p) != decide (drw xa q < p)) = false := by simp
      go_wp2_with fail
      clear hnn
      generalize tms xa 48271 = xb at *
      refine (shuffle11e _ xb m wb S.out hM).mono ?_
      rintro e w2 ⟨rfl, rfl⟩
      rcases hMd with hb2 | ⟨hb3, hb2⟩
      all_goals
        go_wp2_with fail
        refine (overInts28 none 0 [] wb.heap.size 3 wb (fun h => absurd h (by decide)) (by decide)).mono ?_
        rintro e wo1 ⟨rfl, bowo1⟩
        have b1 := b.trans (bowo1.mono b.size)
        have S1 := Lib.hid (S.out.below bowo1 S.out.lt); clear S b
        have S := S1; have b := b1; clear S1 b1
        go_wp2_with fail
        refine (fates23e _ xb m lose delay run wo1 S.out HF.out).mono ?_
        rintro e w2 ⟨rfl, rfl⟩
        go_wp2_with fail
        refine (wrong29n m lose delay run _ HF.out).mono ?_
        rintro e w2 ⟨rfl, rfl⟩
        go_wp2_with fail
        refine (overInts28 none 0 [] wo1.heap.size 3 wo1 (fun h => absurd h (by decide)) (by decide)).mono ?_
        rintro e wo2 ⟨rfl, bowo2⟩
        have b1 := b.trans (bowo2.mono b.size)
        have S1 := Lib.hid (S.out.below bowo2 S.out.lt); clear S b
        have S := S1; have b := b1; clear S1 b1
        go_wp2_with fail
        refine (state17 _ xb wo2 S.out).mono ?_
        rintro e wy ⟨rfl, rfl⟩
        have hxx : (xb == xb) = true := by simp
        go_wp2_with fail
        clear hxx
        refine (awake9 _).mono ?_
        rintro e wz ⟨rfl, hbz⟩
        go_wp2_with fail
        go_ret
        exact ⟨rfl, b.trans (hbz.mono b.size)⟩
    · have hb2 : q < 1 ∨ (1 ≤ q ∧ 1048576 < q) ∨ (1 ≤ q ∧ q ≤ 1048576 ∧ p < 0) ∨ (1 ≤ q ∧ q ≤ 1048576 ∧ 0 ≤ p ∧ q < p) := by unfold okH at hH; omega
      refine (hit26e _ xa p q wa S.out hH).mono ?_
      rintro e w2 ⟨rfl, rfl⟩
      have z0 := y0; have z1 := y1
      clear hH
      rcases hb2 with hb2 | ⟨hb3, hb2⟩ | ⟨hb3, hb4, hb2⟩ | ⟨hb3, hb4, hb5, hb2⟩
      all_goals
        go_wp2_with fail
        refine (shuffle11e _ xa m wa S.out hM).mono ?_
        rintro e w2 ⟨rfl, rfl⟩
        rcases hMd with hb2 | ⟨hb3, hb2⟩
        all_goals
          go_wp2_with fail
          refine (overInts28 none 0 [] wa.heap.size 3 wa (fun h => absurd h (by decide)) (by decide)).mono ?_
          rintro e wo1 ⟨rfl, bowo1⟩
          have b1 := b.trans (bowo1.mono b.size)
          have S1 := Lib.hid (S.out.below bowo1 S.out.lt); clear S b
          have S := S1; have b := b1; clear S1 b1
          go_wp2_with fail
          refine (fates23e _ xa m lose delay run wo1 S.out HF.out).mono ?_
          rintro e w2 ⟨rfl, rfl⟩
          go_wp2_with fail
          refine (wrong29n m lose delay run _ HF.out).mono ?_
          rintro e w2 ⟨rfl, rfl⟩
          go_wp2_with fail
          refine (overInts28 none 0 [] wo1.heap.size 3 wo1 (fun h => absurd h (by decide)) (by decide)).mono ?_
          rintro e wo2 ⟨rfl, bowo2⟩
          have b1 := b.trans (bowo2.mono b.size)
          have S1 := Lib.hid (S.out.below bowo2 S.out.lt); clear S b
          have S := S1; have b := b1; clear S1 b1
          go_wp2_with fail
          refine (state17 _ xa wo2 S.out).mono ?_
          rintro e wy ⟨rfl, rfl⟩
          have hxx : (xa == xa) = true := by simp
          go_wp2_with fail
          clear hxx
          refine (awake9 _).mono ?_
          rintro e wz ⟨rfl, hbz⟩
          go_wp2_with fail
          go_ret
          exact ⟨rfl, b.trans (hbz.mono b.size)⟩
  · have hb2 : n < 1 ∨ (1 ≤ n ∧ 1048576 < n) := by unfold okB at hB; omega
    refine (below24e _ s n W S.out hB).mono ?_
    rintro e w2 ⟨rfl, rfl⟩
    have y0 := x0; have y1 := x1
    clear hB
    rcases hb2 with hb2 | ⟨hb3, hb2⟩
    all_goals
      go_wp2_with fail
      by_cases hH : okH p q
      · obtain ⟨p1, p2, p3, p4⟩ := hH
        refine (hit26y _ s p q W S.out y0 y1 p1 p2 p3 p4).mono ?_
        rintro e wb ⟨rfl, m1⟩
        have b1 := below_grown b m1.2 b.size (Nat.le_refl _)
        have S1 := Lib.hid m1.1; clear m1 S b
        have S := S1; have b := b1; clear S1 b1
        go_wp2_with fail
        refine (refBelow25 s q _ y0 y1 p1 (by omega)).mono ?_
        rintro e w2 ⟨rfl, rfl⟩
        have z0 := tms_pos s y0 y1
        have z1 := (tms_bd s 48271).2
        have hnn : (decide (drw s q < p) != decide (drw s q < p)) = false := by simp
        go_wp2_with fail
        clear hnn
        generalize tms s 48271 = xb at *
        refine (shuffle11e _ xb m wb S.out hM).mono ?_
        rintro e w2 ⟨rfl, rfl⟩
        rcases hMd with hb2 | ⟨hb3, hb2⟩
        all_goals
          go_wp2_with fail
          refine (overInts28 none 0 [] wb.heap.size 3 wb (fun h => absurd h (by decide)) (by decide)).mono ?_
          rintro e wo1 ⟨rfl, bowo1⟩
          have b1 := b.trans (bowo1.mono b.size)
          have S1 := Lib.hid (S.out.below bowo1 S.out.lt); clear S b
          have S := S1; have b := b1; clear S1 b1
          go_wp2_with fail
          refine (fates23e _ xb m lose delay run wo1 S.out HF.out).mono ?_
          rintro e w2 ⟨rfl, rfl⟩
          go_wp2_with fail
          refine (wrong29n m lose delay run _ HF.out).mono ?_
          rintro e w2 ⟨rfl, rfl⟩
          go_wp2_with fail
          refine (overInts28 none 0 [] wo1.heap.size 3 wo1 (fun h => absurd h (by decide)) (by decide)).mono ?_
          rintro e wo2 ⟨rfl, bowo2⟩
          have b1 := b.trans (bowo2.mono b.size)
          have S1 := Lib.hid (S.out.below bowo2 S.out.lt); clear S b
          have S := S1; have b := b1; clear S1 b1
          go_wp2_with fail
          refine (state17 _ xb wo2 S.out).mono ?_
          rintro e wy ⟨rfl, rfl⟩
          have hxx : (xb == xb) = true := by simp
          go_wp2_with fail
          clear hxx
          refine (awake9 _).mono ?_
          rintro e wz ⟨rfl, hbz⟩
          go_wp2_with fail
          go_ret
          exact ⟨rfl, b.trans (hbz.mono b.size)⟩
      · have hb2 : q < 1 ∨ (1 ≤ q ∧ 1048576 < q) ∨ (1 ≤ q ∧ q ≤ 1048576 ∧ p < 0) ∨ (1 ≤ q ∧ q ≤ 1048576 ∧ 0 ≤ p ∧ q < p) := by unfold okH at hH; omega
        refine (hit26e _ s p q W S.out hH).mono ?_
        rintro e w2 ⟨rfl, rfl⟩
        have z0 := y0; have z1 := y1
        clear hH
        rcases hb2 with hb2 | ⟨hb3, hb2⟩ | ⟨hb3, hb4, hb2⟩ | ⟨hb3, hb4, hb5, hb2⟩
        all_goals
          go_wp2_with fail
          refine (shuffle11e _ s m W S.out hM).mono ?_
          rintro e w2 ⟨rfl, rfl⟩
          rcases hMd with hb2 | ⟨hb3, hb2⟩
          all_goals
            go_wp2_with fail
            refine (overInts28 none 0 [] W.heap.size 3 W (fun h => absurd h (by decide)) (by decide)).mono ?_
            rintro e wo1 ⟨rfl, bowo1⟩
            have b1 := b.trans (bowo1.mono b.size)
            have S1 := Lib.hid (S.out.below bowo1 S.out.lt); clear S b
            have S := S1; have b := b1; clear S1 b1
            go_wp2_with fail
            refine (fates23e _ s m lose delay run wo1 S.out HF.out).mono ?_
            rintro e w2 ⟨rfl, rfl⟩
            go_wp2_with fail
            refine (wrong29n m lose delay run _ HF.out).mono ?_
            rintro e w2 ⟨rfl, rfl⟩
            go_wp2_with fail
            refine (overInts28 none 0 [] wo1.heap.size 3 wo1 (fun h => absurd h (by decide)) (by decide)).mono ?_
            rintro e wo2 ⟨rfl, bowo2⟩
            have b1 := b.trans (bowo2.mono b.size)
            have S1 := Lib.hid (S.out.below bowo2 S.out.lt); clear S b
            have S := S1; have b := b1; clear S1 b1
            go_wp2_with fail
            refine (state17 _ s wo2 S.out).mono ?_
            rintro e wy ⟨rfl, rfl⟩
            have hxx : (s == s) = true := by simp
            go_wp2_with fail
            clear hxx
            refine (awake9 _).mono ?_
            rintro e wz ⟨rfl, hbz⟩
            go_wp2_with fail
            go_ret
            exact ⟨rfl, b.trans (hbz.mono b.size)⟩

set_option maxHeartbeats 20000000 in
set_option maxRecDepth 100000 in
theorem draws7g (s n p q : Int) (m : Nat) (lose delay run : Int) (x0 : 1 ≤ s) (x1 : s < 2147483647) (hm : m ≤ 256) (w : World) : Calls Try.prog 7 #[.int .i64 s, .int .i64 n, .int .i64 p, .int .i64 q, .int .i64 m, .int .i64 lose, .int .i64 delay, .int .i64 run] w fun e w' => e = .returned (.bool true) ∧ Below w.heap.size w w' := by
  have hmI : (m : Int) ≤ 256 := by omega
  go_enter Try.func7, Try.ntmps7
  go_wp2_with fail
  refine (new15y s _ x0 x1).mono ?_
  rintro e w1 ⟨rfl, rfl⟩
  have s1 : Src (w.alloc (.cells #[.int .i64 s, .bool true] 55)) w.heap.size s true := heap_alloc_new w _
  have b : Below w.heap.size w (w.alloc (.cells #[.int .i64 s, .bool true] 55)) := (Below.refl _ _).alloc (Nat.le_refl _) _
  go_wp2_with fail
  generalize w.alloc (.cells #[.int .i64 s, .bool true] 55) = W at *
  have S := Lib.hid s1; clear s1
  by_cases hB : okB n
  · obtain ⟨p1, p2⟩ := hB
    refine (below24y _ s n W S.out x0 x1 p1 p2).mono ?_
    rintro e wa ⟨rfl, m1⟩
    have b1 := below_grown b m1.2 b.size (Nat.le_refl _)
    have S1 := Lib.hid m1.1; clear m1 S b
    have S := S1; have b := b1; clear S1 b1
    go_wp2_with fail
    refine (refBelow25 s n _ x0 x1 p1 (by omega)).mono ?_
    rintro e w2 ⟨rfl, rfl⟩
    have y0 := tms_pos s x0 x1
    have y1 := (tms_bd s 48271).2
    have hnn : (drw s n != drw s n) = false := by simp
    go_wp2_with fail
    clear hnn
    generalize tms s 48271 = xa at *
    by_cases hH : okH p q
    · obtain ⟨p1, p2, p3, p4⟩ := hH
      refine (hit26y _ xa p q wa S.out y0 y1 p1 p2 p3 p4).mono ?_
      rintro e wb ⟨rfl, m1⟩
      have b1 := below_grown b m1.2 b.size (Nat.le_refl _)
      have S1 := Lib.hid m1.1; clear m1 S b
      have S := S1; have b := b1; clear S1 b1
      go_wp2_with fail
      refine (refBelow25 xa q _ y0 y1 p1 (by omega)).mono ?_
      rintro e w2 ⟨rfl, rfl⟩
      have z0 := tms_pos xa y0 y1
      have z1 := (tms_bd xa 48271).2
      have hnn : (decide (drw xa q < p) != decide (drw xa q < p)) = false := by simp
      go_wp2_with fail
      clear hnn
      generalize tms xa 48271 = xb at *
      have hgW := S.out.lt
      refine (shuffle11y _ xb m wb S.out z0 z1 hm).mono ?_
      rintro e wc ⟨Al, capl, rfl, hol, t1, m1⟩
      have b1 := below_grown b m1 b.size (Nat.le_refl _)
      have S1 := Lib.hid t1; clear m1 t1 S b
      have S := S1; have b := b1; clear S1 b1
      go_wp2_with fail
      refine (refShuffle27 xb m wc z0 z1 hm).mono ?_
      rintro e wd ⟨Ar, capr, rfl, hor, bd⟩
      have b1 := b.trans (bd.mono b.size)
      have S1 := Lib.hid (S.out.below bd S.out.lt); clear S b
      have S := S1; have b := b1; clear S1 b1
      have hol2 := hol.below bd
      have he := equalInts Al Ar capl capr (shuf m xb).1 (shuf m xb).1 wd.heap.size wd hol2.is hor.is (by rw [shuf_len]; omega)
      rw [shuf_len] at he
      have HE := Lib.hid he; clear he
      have hsx := sh_bd (m - 1) (rng m) xb z0 z1
      have u0 : 1 ≤ (shuf m xb).2 := hsx.1
      have u1 : (shuf m xb).2 < 2147483647 := hsx.2
      clear hsx
      go_wp2_with fail
      refine HE.out.mono ?_
      rintro e w2 ⟨rfl, nd, rfl⟩
      have hdt : decide ((shuf m xb).1 = (shuf m xb).1) = true := by simp
      clear HE
      go_wp2_with fail
      clear hdt
      have ho := overInts28 Al capl (shuf m xb).1 wb.heap.size 3 (wd.drewN nd) hol2 (by rw [shuf_len]; omega)
      rw [shuf_len] at ho
      refine ho.mono ?_
      rintro e we ⟨rfl, be⟩
      have b1 : Below w.heap.size w we := (below_drewN b nd).trans (be.mono (by omega))
      have S1 := Lib.hid (Src.below (w := wd.drewN nd) S.out be hgW); clear S b ho hol hol2 hor
      have S := S1; have b := b1; clear S1 b1
      go_wp2_with fail
      generalize (shuf m xb).2 = xc at *
      by_cases hF : okF m lose delay run
      · obtain ⟨f1, f2, f3, f4, f5, f6, f7⟩ := hF
        have hgE := S.out.lt
        refine (fates23y _ xc m lose delay run we S.out u0 u1 hm f3 f4 f5 f6 f7).mono ?_
        rintro e wf ⟨Af, capf, hcapf, rfl, hof, t1, m1⟩
        have b1 := below_grown b m1 b.size (Nat.le_refl _)
        have S1 := Lib.hid t1; clear m1 t1 S b
        have S := S1; have b := b1; clear S1 b1
        go_wp2_with fail
        refine (wrong29y m lose delay run _ ⟨f1, f2, f3, f4, f5, f6, f7⟩).mono ?_
        rintro e w2 ⟨rfl, rfl⟩
        go_wp2_with fail
        refine (refFates30 xc m lose delay run wf u0 u1 hm f5 f6).mono ?_
        rintro e wg ⟨Ah, caph, rfl, hoh, bg⟩
        have b1 := b.trans (bg.mono b.size)
        have S1 := Lib.hid (S.out.below bg S.out.lt); clear S b
        have S := S1; have b := b1; clear S1 b1
        have hof2 := hof.below bg
        have he := equalInts Af Ah capf caph (ftL lose delay run xc m) (ftL lose delay run xc m) wg.heap.size wg hof2.is hoh.is (by rw [ft_len]; omega)
        rw [ft_len] at he
        have HE := Lib.hid he; clear he
        go_wp2_with fail
        refine HE.out.mono ?_
        rintro e w2 ⟨rfl, nd2, rfl⟩
        have hdt : decide (ftL lose delay run xc m = ftL lose delay run xc m) = true := by simp
        clear HE
        go_wp2_with fail
        clear hdt
        have ho := overInts28 Af capf (ftL lose delay run xc m) we.heap.size 3 (wg.drewN nd2) hof2 (by rw [ft_len]; omega)
        rw [ft_len] at ho
        refine ho.mono ?_
        rintro e wh ⟨rfl, bh⟩
        have b1 : Below w.heap.size w wh := (below_drewN b nd2).trans (bh.mono (by omega))
        have S1 := Lib.hid (Src.below (w := wg.drewN nd2) S.out bh hgE); clear S b ho hof hof2 hoh
        have S := S1; have b := b1; clear S1 b1
        go_wp2_with fail
        generalize ftX lose delay run xc m = xd at *
        refine (state17 _ xd wh S.out).mono ?_
        rintro e wy ⟨rfl, rfl⟩
        have hxx : (xd == xd) = true := by simp
        go_wp2_with fail
        clear hxx
        refine (awake9 _).mono ?_
        rintro e wz ⟨rfl, hbz⟩
        go_wp2_with fail
        go_ret
        exact ⟨rfl, b.trans (hbz.mono b.size)⟩
      · have HF := Lib.hid hF; clear hF
        refine (fates23e _ xc m lose delay run we S.out HF.out).mono ?_
        rintro e w2 ⟨rfl, rfl⟩
        go_wp2_with fail
        refine (wrong29n m lose delay run _ HF.out).mono ?_
        rintro e w2 ⟨rfl, rfl⟩
        go_wp2_with fail
        refine (overInts28 none 0 [] we.heap.size 3 we (fun h => absurd h (by decide)) (by decide)).mono ?_
        rintro e wo2 ⟨rfl, bowo2⟩
        have b1 := b.trans (bowo2.mono b.size)
        have S1 := Lib.hid (S.out.below bowo2 S.out.lt); clear S b
        have S := S1; have b := b1; clear S1 b1
        go_wp2_with fail
        refine (state17 _ xc wo2 S.out).mono ?_
        rintro e wy ⟨rfl, rfl⟩
        have hxx : (xc == xc) = true := by simp
        go_wp2_with fail
        clear hxx
        refine (awake9 _).mono ?_
        rintro e wz ⟨rfl, hbz⟩
        go_wp2_with fail
        go_ret
        exact ⟨rfl, b.trans (hbz.mono b.size)⟩
    · have hb2 : q < 1 ∨ (1 ≤ q ∧ 1048576 < q) ∨ (1 ≤ q ∧ q ≤ 1048576 ∧ p < 0) ∨ (1 ≤ q ∧ q ≤ 1048576 ∧ 0 ≤ p ∧ q < p) := by unfold okH at hH; omega
      refine (hit26e _ xa p q wa S.out hH).mono ?_
      rintro e w2 ⟨rfl, rfl⟩
      have z0 := y0; have z1 := y1
      clear hH
      rcases hb2 with hb2 | ⟨hb3, hb2⟩ | ⟨hb3, hb4, hb2⟩ | ⟨hb3, hb4, hb5, hb2⟩
      all_goals
        go_wp2_with fail
        have hgW := S.out.lt
        refine (shuffle11y _ xa m wa S.out z0 z1 hm).mono ?_
        rintro e wc ⟨Al, capl, rfl, hol, t1, m1⟩
        have b1 := below_grown b m1 b.size (Nat.le_refl _)
        have S1 := Lib.hid t1; clear m1 t1 S b
        have S := S1; have b := b1; clear S1 b1
        go_wp2_with fail
        refine (refShuffle27 xa m wc z0 z1 hm).mono ?_
        rintro e wd ⟨Ar, capr, rfl, hor, bd⟩
        have b1 := b.trans (bd.mono b.size)
        have S1 := Lib.hid (S.out.below bd S.out.lt); clear S b
        have S := S1; have b := b1; clear S1 b1
        have hol2 := hol.below bd
        have he := equalInts Al Ar capl capr (shuf m xa).1 (shuf m xa).1 wd.heap.size wd hol2.is hor.is (by rw [shuf_len]; omega)
        rw [shuf_len] at he
        have HE := Lib.hid he; clear he
        have hsx := sh_bd (m - 1) (rng m) xa z0 z1
        have u0 : 1 ≤ (shuf m xa).2 := hsx.1
        have u1 : (shuf m xa).2 < 2147483647 := hsx.2
        clear hsx
        go_wp2_with fail
        refine HE.out.mono ?_
        rintro e w2 ⟨rfl, nd, rfl⟩
        have hdt : decide ((shuf m xa).1 = (shuf m xa).1) = true := by simp
        clear HE
        go_wp2_with fail
        clear hdt
        have ho := overInts28 Al capl (shuf m xa).1 wa.heap.size 3 (wd.drewN nd) hol2 (by rw [shuf_len]; omega)
        rw [shuf_len] at ho
        refine ho.mono ?_
        rintro e we ⟨rfl, be⟩
        have b1 : Below w.heap.size w we := (below_drewN b nd).trans (be.mono (by omega))
        have S1 := Lib.hid (Src.below (w := wd.drewN nd) S.out be hgW); clear S b ho hol hol2 hor
        have S := S1; have b := b1; clear S1 b1
        go_wp2_with fail
        generalize (shuf m xa).2 = xc at *
        by_cases hF : okF m lose delay run
        · obtain ⟨f1, f2, f3, f4, f5, f6, f7⟩ := hF
          have hgE := S.out.lt
          refine (fates23y _ xc m lose delay run we S.out u0 u1 hm f3 f4 f5 f6 f7).mono ?_
          rintro e wf ⟨Af, capf, hcapf, rfl, hof, t1, m1⟩
          have b1 := below_grown b m1 b.size (Nat.le_refl _)
          have S1 := Lib.hid t1; clear m1 t1 S b
          have S := S1; have b := b1; clear S1 b1
          go_wp2_with fail
          refine (wrong29y m lose delay run _ ⟨f1, f2, f3, f4, f5, f6, f7⟩).mono ?_
          rintro e w2 ⟨rfl, rfl⟩
          go_wp2_with fail
          refine (refFates30 xc m lose delay run wf u0 u1 hm f5 f6).mono ?_
          rintro e wg ⟨Ah, caph, rfl, hoh, bg⟩
          have b1 := b.trans (bg.mono b.size)
          have S1 := Lib.hid (S.out.below bg S.out.lt); clear S b
          have S := S1; have b := b1; clear S1 b1
          have hof2 := hof.below bg
          have he := equalInts Af Ah capf caph (ftL lose delay run xc m) (ftL lose delay run xc m) wg.heap.size wg hof2.is hoh.is (by rw [ft_len]; omega)
          rw [ft_len] at he
          have HE := Lib.hid he; clear he
          go_wp2_with fail
          refine HE.out.mono ?_
          rintro e w2 ⟨rfl, nd2, rfl⟩
          have hdt : decide (ftL lose delay run xc m = ftL lose delay run xc m) = true := by simp
          clear HE
          go_wp2_with fail
          clear hdt
          have ho := overInts28 Af capf (ftL lose delay run xc m) we.heap.size 3 (wg.drewN nd2) hof2 (by rw [ft_len]; omega)
          rw [ft_len] at ho
          refine ho.mono ?_
          rintro e wh ⟨rfl, bh⟩
          have b1 : Below w.heap.size w wh := (below_drewN b nd2).trans (bh.mono (by omega))
          have S1 := Lib.hid (Src.below (w := wg.drewN nd2) S.out bh hgE); clear S b ho hof hof2 hoh
          have S := S1; have b := b1; clear S1 b1
          go_wp2_with fail
          generalize ftX lose delay run xc m = xd at *
          refine (state17 _ xd wh S.out).mono ?_
          rintro e wy ⟨rfl, rfl⟩
          have hxx : (xd == xd) = true := by simp
          go_wp2_with fail
          clear hxx
          refine (awake9 _).mono ?_
          rintro e wz ⟨rfl, hbz⟩
          go_wp2_with fail
          go_ret
          exact ⟨rfl, b.trans (hbz.mono b.size)⟩
        · have HF := Lib.hid hF; clear hF
          refine (fates23e _ xc m lose delay run we S.out HF.out).mono ?_
          rintro e w2 ⟨rfl, rfl⟩
          go_wp2_with fail
          refine (wrong29n m lose delay run _ HF.out).mono ?_
          rintro e w2 ⟨rfl, rfl⟩
          go_wp2_with fail
          refine (overInts28 none 0 [] we.heap.size 3 we (fun h => absurd h (by decide)) (by decide)).mono ?_
          rintro e wo2 ⟨rfl, bowo2⟩
          have b1 := b.trans (bowo2.mono b.size)
          have S1 := Lib.hid (S.out.below bowo2 S.out.lt); clear S b
          have S := S1; have b := b1; clear S1 b1
          go_wp2_with fail
          refine (state17 _ xc wo2 S.out).mono ?_
          rintro e wy ⟨rfl, rfl⟩
          have hxx : (xc == xc) = true := by simp
          go_wp2_with fail
          clear hxx
          refine (awake9 _).mono ?_
          rintro e wz ⟨rfl, hbz⟩
          go_wp2_with fail
          go_ret
          exact ⟨rfl, b.trans (hbz.mono b.size)⟩
  · have hb2 : n < 1 ∨ (1 ≤ n ∧ 1048576 < n) := by unfold okB at hB; omega
    refine (below24e _ s n W S.out hB).mono ?_
    rintro e w2 ⟨rfl, rfl⟩
    have y0 := x0; have y1 := x1
    clear hB
    rcases hb2 with hb2 | ⟨hb3, hb2⟩
    all_goals
      go_wp2_with fail
      by_cases hH : okH p q
      · obtain ⟨p1, p2, p3, p4⟩ := hH
        refine (hit26y _ s p q W S.out y0 y1 p1 p2 p3 p4).mono ?_
        rintro e wb ⟨rfl, m1⟩
        have b1 := below_grown b m1.2 b.size (Nat.le_refl _)
        have S1 := Lib.hid m1.1; clear m1 S b
        have S := S1; have b := b1; clear S1 b1
        go_wp2_with fail
        refine (refBelow25 s q _ y0 y1 p1 (by omega)).mono ?_
        rintro e w2 ⟨rfl, rfl⟩
        have z0 := tms_pos s y0 y1
        have z1 := (tms_bd s 48271).2
        have hnn : (decide (drw s q < p) != decide (drw s q < p)) = false := by simp
        go_wp2_with fail
        clear hnn
        generalize tms s 48271 = xb at *
        have hgW := S.out.lt
        refine (shuffle11y _ xb m wb S.out z0 z1 hm).mono ?_
        rintro e wc ⟨Al, capl, rfl, hol, t1, m1⟩
        have b1 := below_grown b m1 b.size (Nat.le_refl _)
        have S1 := Lib.hid t1; clear m1 t1 S b
        have S := S1; have b := b1; clear S1 b1
        go_wp2_with fail
        refine (refShuffle27 xb m wc z0 z1 hm).mono ?_
        rintro e wd ⟨Ar, capr, rfl, hor, bd⟩
        have b1 := b.trans (bd.mono b.size)
        have S1 := Lib.hid (S.out.below bd S.out.lt); clear S b
        have S := S1; have b := b1; clear S1 b1
        have hol2 := hol.below bd
        have he := equalInts Al Ar capl capr (shuf m xb).1 (shuf m xb).1 wd.heap.size wd hol2.is hor.is (by rw [shuf_len]; omega)
        rw [shuf_len] at he
        have HE := Lib.hid he; clear he
        have hsx := sh_bd (m - 1) (rng m) xb z0 z1
        have u0 : 1 ≤ (shuf m xb).2 := hsx.1
        have u1 : (shuf m xb).2 < 2147483647 := hsx.2
        clear hsx
        go_wp2_with fail
        refine HE.out.mono ?_
        rintro e w2 ⟨rfl, nd, rfl⟩
        have hdt : decide ((shuf m xb).1 = (shuf m xb).1) = true := by simp
        clear HE
        go_wp2_with fail
        clear hdt
        have ho := overInts28 Al capl (shuf m xb).1 wb.heap.size 3 (wd.drewN nd) hol2 (by rw [shuf_len]; omega)
        rw [shuf_len] at ho
        refine ho.mono ?_
        rintro e we ⟨rfl, be⟩
        have b1 : Below w.heap.size w we := (below_drewN b nd).trans (be.mono (by omega))
        have S1 := Lib.hid (Src.below (w := wd.drewN nd) S.out be hgW); clear S b ho hol hol2 hor
        have S := S1; have b := b1; clear S1 b1
        go_wp2_with fail
        generalize (shuf m xb).2 = xc at *
        by_cases hF : okF m lose delay run
        · obtain ⟨f1, f2, f3, f4, f5, f6, f7⟩ := hF
          have hgE := S.out.lt
          refine (fates23y _ xc m lose delay run we S.out u0 u1 hm f3 f4 f5 f6 f7).mono ?_
          rintro e wf ⟨Af, capf, hcapf, rfl, hof, t1, m1⟩
          have b1 := below_grown b m1 b.size (Nat.le_refl _)
          have S1 := Lib.hid t1; clear m1 t1 S b
          have S := S1; have b := b1; clear S1 b1
          go_wp2_with fail
          refine (wrong29y m lose delay run _ ⟨f1, f2, f3, f4, f5, f6, f7⟩).mono ?_
          rintro e w2 ⟨rfl, rfl⟩
          go_wp2_with fail
          refine (refFates30 xc m lose delay run wf u0 u1 hm f5 f6).mono ?_
          rintro e wg ⟨Ah, caph, rfl, hoh, bg⟩
          have b1 := b.trans (bg.mono b.size)
          have S1 := Lib.hid (S.out.below bg S.out.lt); clear S b
          have S := S1; have b := b1; clear S1 b1
          have hof2 := hof.below bg
          have he := equalInts Af Ah capf caph (ftL lose delay run xc m) (ftL lose delay run xc m) wg.heap.size wg hof2.is hoh.is (by rw [ft_len]; omega)
          rw [ft_len] at he
          have HE := Lib.hid he; clear he
          go_wp2_with fail
          refine HE.out.mono ?_
          rintro e w2 ⟨rfl, nd2, rfl⟩
          have hdt : decide (ftL lose delay run xc m = ftL lose delay run xc m) = true := by simp
          clear HE
          go_wp2_with fail
          clear hdt
          have ho := overInts28 Af capf (ftL lose delay run xc m) we.heap.size 3 (wg.drewN nd2) hof2 (by rw [ft_len]; omega)
          rw [ft_len] at ho
          refine ho.mono ?_
          rintro e wh ⟨rfl, bh⟩
          have b1 : Below w.heap.size w wh := (below_drewN b nd2).trans (bh.mono (by omega))
          have S1 := Lib.hid (Src.below (w := wg.drewN nd2) S.out bh hgE); clear S b ho hof hof2 hoh
          have S := S1; have b := b1; clear S1 b1
          go_wp2_with fail
          generalize ftX lose delay run xc m = xd at *
          refine (state17 _ xd wh S.out).mono ?_
          rintro e wy ⟨rfl, rfl⟩
          have hxx : (xd == xd) = true := by simp
          go_wp2_with fail
          clear hxx
          refine (awake9 _).mono ?_
          rintro e wz ⟨rfl, hbz⟩
          go_wp2_with fail
          go_ret
          exact ⟨rfl, b.trans (hbz.mono b.size)⟩
        · have HF := Lib.hid hF; clear hF
          refine (fates23e _ xc m lose delay run we S.out HF.out).mono ?_
          rintro e w2 ⟨rfl, rfl⟩
          go_wp2_with fail
          refine (wrong29n m lose delay run _ HF.out).mono ?_
          rintro e w2 ⟨rfl, rfl⟩
          go_wp2_with fail
          refine (overInts28 none 0 [] we.heap.size 3 we (fun h => absurd h (by decide)) (by decide)).mono ?_
          rintro e wo2 ⟨rfl, bowo2⟩
          have b1 := b.trans (bowo2.mono b.size)
          have S1 := Lib.hid (S.out.below bowo2 S.out.lt); clear S b
          have S := S1; have b := b1; clear S1 b1
          go_wp2_with fail
          refine (state17 _ xc wo2 S.out).mono ?_
          rintro e wy ⟨rfl, rfl⟩
          have hxx : (xc == xc) = true := by simp
          go_wp2_with fail
          clear hxx
          refine (awake9 _).mono ?_
          rintro e wz ⟨rfl, hbz⟩
          go_wp2_with fail
          go_ret
          exact ⟨rfl, b.trans (hbz.mono b.size)⟩
      · have hb2 : q < 1 ∨ (1 ≤ q ∧ 1048576 < q) ∨ (1 ≤ q ∧ q ≤ 1048576 ∧ p < 0) ∨ (1 ≤ q ∧ q ≤ 1048576 ∧ 0 ≤ p ∧ q < p) := by unfold okH at hH; omega
        refine (hit26e _ s p q W S.out hH).mono ?_
        rintro e w2 ⟨rfl, rfl⟩
        have z0 := y0; have z1 := y1
        clear hH
        rcases hb2 with hb2 | ⟨hb3, hb2⟩ | ⟨hb3, hb4, hb2⟩ | ⟨hb3, hb4, hb5, hb2⟩
        all_goals
          go_wp2_with fail
          have hgW := S.out.lt
          refine (shuffle11y _ s m W S.out z0 z1 hm).mono ?_
          rintro e wc ⟨Al, capl, rfl, hol, t1, m1⟩
          have b1 := below_grown b m1 b.size (Nat.le_refl _)
          have S1 := Lib.hid t1; clear m1 t1 S b
          have S := S1; have b := b1; clear S1 b1
          go_wp2_with fail
          refine (refShuffle27 s m wc z0 z1 hm).mono ?_
          rintro e wd ⟨Ar, capr, rfl, hor, bd⟩
          have b1 := b.trans (bd.mono b.size)
          have S1 := Lib.hid (S.out.below bd S.out.lt); clear S b
          have S := S1; have b := b1; clear S1 b1
          have hol2 := hol.below bd
          have he := equalInts Al Ar capl capr (shuf m s).1 (shuf m s).1 wd.heap.size wd hol2.is hor.is (by rw [shuf_len]; omega)
          rw [shuf_len] at he
          have HE := Lib.hid he; clear he
          have hsx := sh_bd (m - 1) (rng m) s z0 z1
          have u0 : 1 ≤ (shuf m s).2 := hsx.1
          have u1 : (shuf m s).2 < 2147483647 := hsx.2
          clear hsx
          go_wp2_with fail
          refine HE.out.mono ?_
          rintro e w2 ⟨rfl, nd, rfl⟩
          have hdt : decide ((shuf m s).1 = (shuf m s).1) = true := by simp
          clear HE
          go_wp2_with fail
          clear hdt
          have ho := overInts28 Al capl (shuf m s).1 W.heap.size 3 (wd.drewN nd) hol2 (by rw [shuf_len]; omega)
          rw [shuf_len] at ho
          refine ho.mono ?_
          rintro e we ⟨rfl, be⟩
          have b1 : Below w.heap.size w we := (below_drewN b nd).trans (be.mono (by omega))
          have S1 := Lib.hid (Src.below (w := wd.drewN nd) S.out be hgW); clear S b ho hol hol2 hor
          have S := S1; have b := b1; clear S1 b1
          go_wp2_with fail
          generalize (shuf m s).2 = xc at *
          by_cases hF : okF m lose delay run
          · obtain ⟨f1, f2, f3, f4, f5, f6, f7⟩ := hF
            have hgE := S.out.lt
            refine (fates23y _ xc m lose delay run we S.out u0 u1 hm f3 f4 f5 f6 f7).mono ?_
            rintro e wf ⟨Af, capf, hcapf, rfl, hof, t1, m1⟩
            have b1 := below_grown b m1 b.size (Nat.le_refl _)
            have S1 := Lib.hid t1; clear m1 t1 S b
            have S := S1; have b := b1; clear S1 b1
            go_wp2_with fail
            refine (wrong29y m lose delay run _ ⟨f1, f2, f3, f4, f5, f6, f7⟩).mono ?_
            rintro e w2 ⟨rfl, rfl⟩
            go_wp2_with fail
            refine (refFates30 xc m lose delay run wf u0 u1 hm f5 f6).mono ?_
            rintro e wg ⟨Ah, caph, rfl, hoh, bg⟩
            have b1 := b.trans (bg.mono b.size)
            have S1 := Lib.hid (S.out.below bg S.out.lt); clear S b
            have S := S1; have b := b1; clear S1 b1
            have hof2 := hof.below bg
            have he := equalInts Af Ah capf caph (ftL lose delay run xc m) (ftL lose delay run xc m) wg.heap.size wg hof2.is hoh.is (by rw [ft_len]; omega)
            rw [ft_len] at he
            have HE := Lib.hid he; clear he
            go_wp2_with fail
            refine HE.out.mono ?_
            rintro e w2 ⟨rfl, nd2, rfl⟩
            have hdt : decide (ftL lose delay run xc m = ftL lose delay run xc m) = true := by simp
            clear HE
            go_wp2_with fail
            clear hdt
            have ho := overInts28 Af capf (ftL lose delay run xc m) we.heap.size 3 (wg.drewN nd2) hof2 (by rw [ft_len]; omega)
            rw [ft_len] at ho
            refine ho.mono ?_
            rintro e wh ⟨rfl, bh⟩
            have b1 : Below w.heap.size w wh := (below_drewN b nd2).trans (bh.mono (by omega))
            have S1 := Lib.hid (Src.below (w := wg.drewN nd2) S.out bh hgE); clear S b ho hof hof2 hoh
            have S := S1; have b := b1; clear S1 b1
            go_wp2_with fail
            generalize ftX lose delay run xc m = xd at *
            refine (state17 _ xd wh S.out).mono ?_
            rintro e wy ⟨rfl, rfl⟩
            have hxx : (xd == xd) = true := by simp
            go_wp2_with fail
            clear hxx
            refine (awake9 _).mono ?_
            rintro e wz ⟨rfl, hbz⟩
            go_wp2_with fail
            go_ret
            exact ⟨rfl, b.trans (hbz.mono b.size)⟩
          · have HF := Lib.hid hF; clear hF
            refine (fates23e _ xc m lose delay run we S.out HF.out).mono ?_
            rintro e w2 ⟨rfl, rfl⟩
            go_wp2_with fail
            refine (wrong29n m lose delay run _ HF.out).mono ?_
            rintro e w2 ⟨rfl, rfl⟩
            go_wp2_with fail
            refine (overInts28 none 0 [] we.heap.size 3 we (fun h => absurd h (by decide)) (by decide)).mono ?_
            rintro e wo2 ⟨rfl, bowo2⟩
            have b1 := b.trans (bowo2.mono b.size)
            have S1 := Lib.hid (S.out.below bowo2 S.out.lt); clear S b
            have S := S1; have b := b1; clear S1 b1
            go_wp2_with fail
            refine (state17 _ xc wo2 S.out).mono ?_
            rintro e wy ⟨rfl, rfl⟩
            have hxx : (xc == xc) = true := by simp
            go_wp2_with fail
            clear hxx
            refine (awake9 _).mono ?_
            rintro e wz ⟨rfl, hbz⟩
            go_wp2_with fail
            go_ret
            exact ⟨rfl, b.trans (hbz.mono b.size)⟩
end Go.Proofs.Ytfpogcdffccldaa
