/- The walks of FixedReads and FixedTexts. -/
import Derived.Test.YtmalpalepaomdaaDoorRows
import Derived.WalkKit
import Derived.WalkLawsBesides
import Derived.WalkSpells
import Derived.ProofKit
import Derived.Below
import Derived.Outline
import Derived.Lib.Hide
import Derived.Deep.RegionWith
import Derived.Deep.RegionHeld3
import Derived.Deep.DrawnRows
import Derived.StillTailTactics
import Derived.BigQuiet
import Derived.Deep.QuietTactic
import Derived.Deep.LoopGhost
import Derived.IntWalk
import Derived.Laws.Strings3
import Derived.Test.YtmalpalepaomdaaDoorFxQ
import Derived.Test.YtmalpalepaomdaaDoorFxI
namespace Go.Proofs.YtmalpalepaomdaaDoor
open Go.RowKit
attribute [local go_sem ↓] Go.wp_at_zero Go.wp_at_succ
attribute [local go_sem] wrap_lit
attribute [local go_sem] S_nil S_dot S_minus S_app S_size
theorem parR_long {l : List UInt8} (h : 26 < l.length) : parR l = (0, 2) := by unfold parR; rw [if_pos h]
theorem parse33 (l : List UInt8) (w : World) (E : Env w) : Calls Tryd.prog 33 #[.string (S l)] w fun e w' => e = .returned (.tuple #[.int .i64 (parR l).1, .int .i64 (parR l).2]) ∧ Below w.heap.size w w' := by
  by_cases h : 26 < l.length
  · rw [parR_long h]
    refine (parse33n l w h).mono ?_
    rintro e w' ⟨rfl, rfl⟩
    exact ⟨rfl, Below.refl _ _⟩
  · rcases hp : pU (Lib.cut (Lib.trimPrefix l [45]) [46]).1 with q | _ | _
    · exact parse33b l q w E (by omega) hp
    · have e : parR l = (0, 2) := by unfold parR xP; rw [if_neg h, hp]; rfl
      rw [e]
      exact parse33a l w E (by omega) (fun u g => by rw [hp] at g; cases g)
    · have e : parR l = (0, 2) := by unfold parR xP; rw [if_neg h, hp]; rfl
      rw [e]
      exact parse33a l w E (by omega) (fun u g => by rw [hp] at g; cases g)
theorem S_of (s : ByteArray) : s = S s.data.toList := by apply ByteArray.ext; simp
theorem parse30 (l : List UInt8) (w : World) : Calls Tryd.prog 30 #[.string (S l)] w fun e w' => e = .returned (.tuple #[.int .i64 (parR l).1, .int .i64 (parR l).2]) ∧ Below w.heap.size w w' := by
  by_cases h : 26 < l.length
  · rw [parR_long h]
    refine (parse30n l w h).mono ?_
    rintro e w' ⟨rfl, rfl⟩
    exact ⟨rfl, Below.refl _ _⟩
  · exact parse30b l w (by omega)
set_option maxRecDepth 100000 in
set_option maxHeartbeats 4000000 in
theorem reads7 (p q : Int) (l : List UInt8) (w : World) (E : Env w) : Calls Tryd.prog 7 #[.int .i64 p, .int .i64 q, .string (S l)] w fun e w' => e = .returned (.bool true) ∧ Below w.heap.size w w' := by
  have HE := Lib.hid E
  have B0 := Lib.hid (show Below w.heap.size w w from Below.refl _ _)
  clear E
  by_cases hl : 100 < l.length
  · have hl' : (100 : Int) < (l.length : Int) := by omega
    go_enter Tryd.func7, Tryd.ntmps7
    go_wp2_with fail
    refine (awake11 _ (HE.out.below B0.out).tab).mono ?_
    rintro e z ⟨rfl, hb⟩
    have BZ := B0.out.trans (hb.mono B0.out.size)
    go_wp2_with fail
    go_ret
    exact ⟨rfl, BZ⟩
  · have hl' : ¬ (100 : Int) < (l.length : Int) := by omega
    obtain ⟨p1, e1, h1⟩ : ∃ a b, froR p = (a, b) := ⟨_, _, rfl⟩
    obtain ⟨p2, e2, h2⟩ : ∃ a b, ratR p q = (a, b) := ⟨_, _, rfl⟩
    obtain ⟨p3, e3, h3⟩ : ∃ a b, parR l = (a, b) := ⟨_, _, rfl⟩
    have H1 := Lib.hid h1
    have H2 := Lib.hid h2
    have H3 := Lib.hid h3
    clear h1 h2 h3
    go_enter Tryd.func7, Tryd.ntmps7
    go_wp2_with fail
    refine (at0 H1.out (from28 p _)).mono ?_
    rintro e w1 ⟨rfl, rfl⟩
    go_wp2_with fail
    refine (at0 H2.out (ratio29 p q _)).mono ?_
    rintro e w1 ⟨rfl, rfl⟩
    go_wp2_with fail
    refine (at_ H3.out (parse30 l _)).mono ?_
    rintro e x1 ⟨rfl, hb⟩
    have B1 := Lib.hid (B0.out.trans (hb.mono B0.out.size))
    clear hb B0
    go_wp2_with fail
    refine (at_ H1.out (from31 p _)).mono ?_
    rintro e x2 ⟨rfl, hb⟩
    have B2 := Lib.hid (B1.out.trans (hb.mono B1.out.size))
    clear hb B1
    go_wp2_with fail
    refine (at_ H2.out (ratio32 p q _)).mono ?_
    rintro e x3 ⟨rfl, hb⟩
    have B3 := Lib.hid (B2.out.trans (hb.mono B2.out.size))
    clear hb B2
    go_wp2_with fail
    refine (at_ H3.out (parse33 l _ (HE.out.below B3.out))).mono ?_
    rintro e x4 ⟨rfl, hb⟩
    have B4 := Lib.hid (B3.out.trans (hb.mono B3.out.size))
    clear hb B3
    go_wp2_with fail
    refine (awake11 _ (HE.out.below B4.out).tab).mono ?_
    rintro e x5 ⟨rfl, hb⟩
    have B5 := Lib.hid (B4.out.trans (hb.mono B4.out.size))
    clear hb B4
    go_wp2_with fail
    go_ret
    exact ⟨rfl, B5.out⟩
set_option maxRecDepth 100000 in
set_option maxHeartbeats 4000000 in
theorem texts8 (x : Int) (l : List UInt8) (w : World) (E : Env w) : Calls Tryd.prog 8 #[.int .i64 x, .string (S l)] w fun e w' => e = .returned (.bool true) ∧ Below w.heap.size w w' := by
  have HE := Lib.hid E
  have B0 := Lib.hid (show Below w.heap.size w w from Below.refl _ _)
  clear E
  by_cases hl : 100 < l.length
  · have hl' : (100 : Int) < (l.length : Int) := by omega
    go_enter Tryd.func8, Tryd.ntmps8
    go_wp2_with fail
    refine (awake11 _ (HE.out.below B0.out).tab).mono ?_
    rintro e z ⟨rfl, hb⟩
    have BZ := B0.out.trans (hb.mono B0.out.size)
    go_wp2_with fail
    go_ret
    exact ⟨rfl, BZ⟩
  · have hl' : ¬ (100 : Int) < (l.length : Int) := by omega
    have HL : Hid ((∃ y, parR l = (y, 0) ∧ txV y = S l ∧ txE y = 0) ∨ parR l = (0, 2)) := Lib.hid (by
      rcases parR_ok l with ⟨y, h1, h2, h3⟩ | ⟨-, h3⟩
      · exact .inl ⟨y, h3, by unfold txV; rw [if_pos h1, h2], by unfold txE; rw [if_pos h1]⟩
      · exact .inr h3)
    cases hx : vF x with
    | true =>
      have T1 := Lib.hid (show txE x = 0 by unfold txE; rw [if_pos hx])
      have T2 := Lib.hid (show txV x = S (txL x) by unfold txV; rw [if_pos hx])
      have T3 := Lib.hid (parR_text hx)
      clear hx
      rcases HL.out with ⟨y, h1, h2, h3⟩ | h1
      · have H1 := Lib.hid h1
        have H2 := Lib.hid h2
        have H3 := Lib.hid h3
        clear h1 h2 h3
        go_enter Tryd.func8, Tryd.ntmps8
        go_wp2_with fail
        refine (awake11 _ HE.out.tab).mono ?_
        rintro e x1 ⟨rfl, hb⟩
        have B1 := Lib.hid (B0.out.trans (hb.mono B0.out.size))
        clear hb B0
        go_wp2_with fail
        refine (ats_ T2.out T1.out (text27 x _ (HE.out.below B1.out).tab)).mono ?_
        rintro e x2 ⟨rfl, hb⟩
        have B2 := Lib.hid (B1.out.trans (hb.mono B1.out.size))
        clear hb B1
        go_wp2_with fail
        refine (at_ T3.out (parse33 (txL x) _ (HE.out.below B2.out))).mono ?_
        rintro e x3 ⟨rfl, hb⟩
        have B3 := Lib.hid (B2.out.trans (hb.mono B2.out.size))
        clear hb B2
        go_wp2_with fail
        refine (at_ H1.out (parse33 l _ (HE.out.below B3.out))).mono ?_
        rintro e x4 ⟨rfl, hb⟩
        have B4 := Lib.hid (B3.out.trans (hb.mono B3.out.size))
        clear hb B3
        go_wp2_with fail
        refine (ats_ H2.out H3.out (text27 y _ (HE.out.below B4.out).tab)).mono ?_
        rintro e x5 ⟨rfl, hb⟩
        have B5 := Lib.hid (B4.out.trans (hb.mono B4.out.size))
        clear hb B4
        go_wp2_with fail
        go_ret
        exact ⟨rfl, B5.out⟩
      · have H1 := Lib.hid h1
        clear h1
        go_enter Tryd.func8, Tryd.ntmps8
        go_wp2_with fail
        refine (awake11 _ HE.out.tab).mono ?_
        rintro e x1 ⟨rfl, hb⟩
        have B1 := Lib.hid (B0.out.trans (hb.mono B0.out.size))
        clear hb B0
        go_wp2_with fail
        refine (ats_ T2.out T1.out (text27 x _ (HE.out.below B1.out).tab)).mono ?_
        rintro e x2 ⟨rfl, hb⟩
        have B2 := Lib.hid (B1.out.trans (hb.mono B1.out.size))
        clear hb B1
        go_wp2_with fail
        refine (at_ T3.out (parse33 (txL x) _ (HE.out.below B2.out))).mono ?_
        rintro e x3 ⟨rfl, hb⟩
        have B3 := Lib.hid (B2.out.trans (hb.mono B2.out.size))
        clear hb B2
        go_wp2_with fail
        refine (at_ H1.out (parse33 l _ (HE.out.below B3.out))).mono ?_
        rintro e x4 ⟨rfl, hb⟩
        have B4 := Lib.hid (B3.out.trans (hb.mono B3.out.size))
        clear hb B3
        go_wp2_with fail
        go_ret
        exact ⟨rfl, B4.out⟩
    | false =>
      have T1 := Lib.hid (show txE x = 1 by unfold txE; rw [if_neg (by rw [hx]; decide)])
      have T2 := Lib.hid (show txV x = ⟨#[]⟩ by unfold txV; rw [if_neg (by rw [hx]; decide)])
      have VX := Lib.hid hx
      clear hx
      rcases HL.out with ⟨y, h1, h2, h3⟩ | h1
      · have H1 := Lib.hid h1
        have H2 := Lib.hid h2
        have H3 := Lib.hid h3
        clear h1 h2 h3
        go_enter Tryd.func8, Tryd.ntmps8
        go_wp2_with fail
        refine (awake11 _ HE.out.tab).mono ?_
        rintro e x1 ⟨rfl, hb⟩
        have B1 := Lib.hid (B0.out.trans (hb.mono B0.out.size))
        clear hb B0
        go_wp2_with fail
        refine (ats_ T2.out T1.out (text27 x _ (HE.out.below B1.out).tab)).mono ?_
        rintro e x2 ⟨rfl, hb⟩
        have B2 := Lib.hid (B1.out.trans (hb.mono B1.out.size))
        clear hb B1
        go_wp2_with fail
        refine (valid10 x _).mono ?_
        rintro e w1 ⟨rfl, rfl⟩
        rw [VX.out]
        go_wp2_with fail
        refine (at_ H1.out (parse33 l _ (HE.out.below B2.out))).mono ?_
        rintro e x3 ⟨rfl, hb⟩
        have B3 := Lib.hid (B2.out.trans (hb.mono B2.out.size))
        clear hb B2
        go_wp2_with fail
        refine (ats_ H2.out H3.out (text27 y _ (HE.out.below B3.out).tab)).mono ?_
        rintro e x4 ⟨rfl, hb⟩
        have B4 := Lib.hid (B3.out.trans (hb.mono B3.out.size))
        clear hb B3
        go_wp2_with fail
        go_ret
        exact ⟨rfl, B4.out⟩
      · have H1 := Lib.hid h1
        clear h1
        go_enter Tryd.func8, Tryd.ntmps8
        go_wp2_with fail
        refine (awake11 _ HE.out.tab).mono ?_
        rintro e x1 ⟨rfl, hb⟩
        have B1 := Lib.hid (B0.out.trans (hb.mono B0.out.size))
        clear hb B0
        go_wp2_with fail
        refine (ats_ T2.out T1.out (text27 x _ (HE.out.below B1.out).tab)).mono ?_
        rintro e x2 ⟨rfl, hb⟩
        have B2 := Lib.hid (B1.out.trans (hb.mono B1.out.size))
        clear hb B1
        go_wp2_with fail
        refine (valid10 x _).mono ?_
        rintro e w1 ⟨rfl, rfl⟩
        rw [VX.out]
        go_wp2_with fail
        refine (at_ H1.out (parse33 l _ (HE.out.below B2.out))).mono ?_
        rintro e x3 ⟨rfl, hb⟩
        have B3 := Lib.hid (B2.out.trans (hb.mono B2.out.size))
        clear hb B2
        go_wp2_with fail
        go_ret
        exact ⟨rfl, B3.out⟩
theorem reads7s (p q : Int) (s : ByteArray) (w : World) (E : Env w) : Calls Tryd.prog 7 #[.int .i64 p, .int .i64 q, .string s] w fun e w' => e = .returned (.bool true) ∧ Below w.heap.size w w' := by
  rw [S_of s]; exact reads7 p q _ w E
theorem texts8s (x : Int) (s : ByteArray) (w : World) (E : Env w) : Calls Tryd.prog 8 #[.int .i64 x, .string s] w fun e w' => e = .returned (.bool true) ∧ Below w.heap.size w w' := by
  rw [S_of s]; exact texts8 x _ w E
end Go.Proofs.YtmalpalepaomdaaDoor
