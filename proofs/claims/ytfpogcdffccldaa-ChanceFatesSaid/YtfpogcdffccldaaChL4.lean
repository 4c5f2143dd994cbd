/- ChanceFates returns true for every input: never more than run losses in a row, delays in their range, no losses with lose 0 or run 0, and a longer list begins with the shorter one. -/
import Derived.Test.YtfpogcdffccldaaChF
import Derived.Test.YtfpogcdffccldaaChG
import Derived.WalkKit
import Derived.ProofKit
import Derived.OpenShut
import Derived.ShutString
import Derived.ChangeOld
import Derived.Below
import Derived.Lib.SmallJoins
namespace Go.Proofs.Ytfpogcdffccldaa
open Go.RowKit
attribute [local go_sem ↓] Go.wp_at_zero Go.wp_at_succ
attribute [local go_sem] wrap_lit

section
variable (lose delay run x : Int)
theorem ft_pre (k n : Nat) (h : k ≤ n) (j : Nat) (hj : j < k) : nth (ftL lose delay run x n) j = nth (ftL lose delay run x k) j := by
  induction n with
  | zero => omega
  | succ n ih =>
    by_cases e : k = n + 1
    · rw [e]
    · have hl := ft_len lose delay run x n
      have : ∃ v, ftL lose delay run x (n + 1) = ftL lose delay run x n ++ [v] := by
        by_cases h : drw (ftX lose delay run x n) 100 < lose ∧ ftC lose delay run x n < run
        · exact ⟨_, (ft_hit lose delay run x n h).1⟩
        · exact ⟨_, (ft_miss lose delay run x n h).1⟩
      obtain ⟨v, hv⟩ := this
      rw [hv, nth_app_left _ _ _ (by omega)]
      exact ih (by omega)
theorem ft_facts (hd : 0 ≤ delay) (n k : Nat) (hk : k < n) :
    (nth (ftL lose delay run x n) k = -1 ∧ ftC lose delay run x (k + 1) = ftC lose delay run x k + 1 ∧ ftC lose delay run x (k + 1) ≤ run ∧ lose ≠ 0) ∨
    (0 ≤ nth (ftL lose delay run x n) k ∧ nth (ftL lose delay run x n) k ≤ delay ∧ ftC lose delay run x (k + 1) = 0) := by
  rw [ft_pre lose delay run x (k + 1) n (by omega) k (by omega)]
  have hlen := ft_len lose delay run x k
  have hd1 := drw_bd (ftX lose delay run x k) 100 (by omega)
  have hd2 := drw_bd (tms (ftX lose delay run x k) 48271) (delay + 1) (by omega)
  by_cases h : drw (ftX lose delay run x k) 100 < lose ∧ ftC lose delay run x k < run
  · obtain ⟨e1, _, e3⟩ := ft_hit lose delay run x k h
    refine .inl ⟨?_, e3, by omega, by omega⟩
    rw [e1, nth_app_right _ _ _ (by omega), hlen, Nat.sub_self]; rfl
  · obtain ⟨e1, _, e3⟩ := ft_miss lose delay run x k h
    refine .inr ?_
    rw [e1, nth_app_right _ _ _ (by omega), hlen, Nat.sub_self]
    exact ⟨hd2.1, by show drw _ _ ≤ _; omega, e3⟩
end

set_option maxHeartbeats 1000000 in
set_option maxRecDepth 100000 in
theorem fates6f (s n lose delay run : Int) (hs : ¬ (1 ≤ s ∧ s < 2147483647)) (w : World) : Calls Try.prog 6 #[.int .i64 s, .int .i64 n, .int .i64 lose, .int .i64 delay, .int .i64 run] w fun e w' => e = .returned (.bool true) ∧ Below w.heap.size w w' := by
  have HS := Lib.hid hs; clear hs
  go_enter Try.func6, Try.ntmps6
  go_wp2_with fail
  refine (awake9 _).mono ?_
  rintro e w1 ⟨rfl, hb1⟩
  go_wp2_with fail
  refine (source10n s _ HS.out).mono ?_
  rintro e w2 ⟨rfl, rfl⟩
  go_wp2_with fail
  have s1 : Src (w1.alloc (.cells #[.int .i64 0, .bool false] 55)) w1.heap.size 0 false := heap_alloc_new w1 _
  have hbw : Below w.heap.size w (w1.alloc (.cells #[.int .i64 0, .bool false] 55)) := hb1.alloc hb1.size _
  generalize w1.alloc (.cells #[.int .i64 0, .bool false] 55) = W at *
  have S1 := Lib.hid s1; clear s1
  refine (fates23f _ 0 n lose delay run W S1.out).mono ?_
  rintro e w2 ⟨rfl, rfl⟩
  go_wp2_with fail
  go_ret
  exact ⟨rfl, hbw⟩
set_option maxHeartbeats 1000000 in
set_option maxRecDepth 100000 in
theorem fates6e (s n lose delay run : Int) (h0 : 1 ≤ s) (h1 : s < 2147483647) (hf : ¬ okF n lose delay run) (w : World) : Calls Try.prog 6 #[.int .i64 s, .int .i64 n, .int .i64 lose, .int .i64 delay, .int .i64 run] w fun e w' => e = .returned (.bool true) ∧ Below w.heap.size w w' := by
  have HF := Lib.hid hf; clear hf
  go_enter Try.func6, Try.ntmps6
  go_wp2_with fail
  refine (awake9 _).mono ?_
  rintro e w1 ⟨rfl, hb1⟩
  go_wp2_with fail
  refine (source10y s _ h0 h1).mono ?_
  rintro e w2 ⟨rfl, rfl⟩
  go_wp2_with fail
  have s1 : Src (w1.alloc (.cells #[.int .i64 s, .bool true] 55)) w1.heap.size s true := heap_alloc_new w1 _
  have hbw : Below w.heap.size w (w1.alloc (.cells #[.int .i64 s, .bool true] 55)) := hb1.alloc hb1.size _
  generalize w1.alloc (.cells #[.int .i64 s, .bool true] 55) = W at *
  have S1 := Lib.hid s1; clear s1
  refine (fates23e _ s n lose delay run W S1.out HF.out).mono ?_
  rintro e w2 ⟨rfl, rfl⟩
  go_wp2_with fail
  go_ret
  exact ⟨rfl, hbw⟩
set_option maxHeartbeats 3000000 in
set_option maxRecDepth 100000 in
theorem fates6y (s : Int) (n : Nat) (lose delay run : Int) (h0 : 1 ≤ s) (h1 : s < 2147483647) (hn : n ≤ 256) (l0 : 0 ≤ lose) (l1 : lose ≤ 100) (d0 : 0 ≤ delay) (d1 : delay ≤ 8) (r0 : 0 ≤ run) (w : World) : Calls Try.prog 6 #[.int .i64 s, .int .i64 n, .int .i64 lose, .int .i64 delay, .int .i64 run] w fun e w' => e = .returned (.bool true) ∧ Below w.heap.size w w' := by
  go_enter Try.func6, Try.ntmps6
  go_wp2_with fail
  refine (awake9 _).mono ?_
  rintro e w1 ⟨rfl, hb1⟩
  go_wp2_with fail
  refine (source10y s _ h0 h1).mono ?_
  rintro e w2 ⟨rfl, rfl⟩
  go_wp2_with fail
  have s1 : Src (w1.alloc (.cells #[.int .i64 s, .bool true] 55)) w1.heap.size s true := heap_alloc_new w1 _
  have hbw : Below w.heap.size w (w1.alloc (.cells #[.int .i64 s, .bool true] 55)) := hb1.alloc hb1.size _
  generalize w1.alloc (.cells #[.int .i64 s, .bool true] 55) = W at *
  have S1 := Lib.hid s1; clear s1
  refine (fates23y _ s n lose delay run W S1.out h0 h1 hn l0 l1 d0 d1 r0).mono ?_
  rintro e w2 ⟨A1, cap1, hcap, rfl, ho1, _, m1⟩
  have b2 := below_grown hbw m1 hbw.size hb1.size
  clear m1
  have hnn : ((n : Int) != (n : Int)) = false := by simp
  go_wp2_with fail
  clear hnn
  go_loopw [13, 14] (fun lo i wr => ∃ k : Nat, k ≤ n ∧ lo = .int .i64 (ftC lose delay run s k) ∧ i = .int .i64 k ∧ wr = w2) (fun _ i _ => n - (intOf i).toNat)
  case atStart => exact ⟨0, Nat.zero_le _, rfl, rfl, rfl⟩
  case round =>
    obtain ⟨k, hk, rfl, rfl, rfl⟩ := hrel
    by_cases hlt : k < n
    · obtain ⟨g, cs, rfl, hg1, hh, hc⟩ := ho1 (by rw [ft_len]; omega)
      have hcell : wr.cell? ⟨g, k, none⟩ = some (.int .i64 (nth (ftL lose delay run s n) k)) := by simp [World.cell?, hh, hc k (by rw [ft_len]; exact hlt)]
      have hlI : (k : Int) < (n : Int) := by omega
      have hk0 : (0 : Int) ≤ (k : Int) := by omega
      obtain ⟨y0, y1⟩ := ft_cbd lose delay run s k
      rcases ft_facts lose delay run s d0 n k hlt with ⟨e1, e2, e3, e4⟩ | ⟨e1, e2, e3⟩
      · rw [e1] at hcell
        have E2 := Lib.hid e2
        have hb1 : (lose == 0) = false := by simp [e4]
        have hb2 : ftC lose delay run s k + 1 ≤ run := by omega
        clear e1 e2 e3 e4 ho1 hh hc
        go_wp2_with fail
        exact ⟨⟨k + 1, by omega, by rw [E2.out], by go_num, trivial⟩, by simp [intOf]; omega⟩
      · have E3 := Lib.hid e3
        have hb1 : (nth (ftL lose delay run s n) k != -1) = true := by rw [bne_iff_ne]; omega
        clear e3 ho1 hh hc
        go_wp2_with fail
        exact ⟨⟨k + 1, by omega, by rw [E3.out], by go_num, trivial⟩, by simp [intOf]; omega⟩
    · obtain rfl : k = n := by omega
      by_cases hz : k = 0
      · subst hz
        go_wp2_with fail
        go_ret
        exact ⟨rfl, b2⟩
      · have hzb : ((k : Int) == 0) = false := by simp [hz]
        have hk1 : (1 : Int) ≤ (k : Int) := by omega
        obtain ⟨g, cs, rfl, hg1, hh, hc⟩ := ho1 (by rw [ft_len]; omega)
        have HH := Lib.hid hh; have HC := Lib.hid hc
        clear ho1 hh hc
        have hke : (k : Int) - 1 = ((k - 1 : Nat) : Int) := by omega
        have hcapI : (k : Int) ≤ (cap1 : Int) := by omega
        go_wp2_with fail
        refine (source10y s _ h0 h1).mono ?_
        rintro e w3 ⟨rfl, rfl⟩
        go_wp2_with fail
        have s3 : Src (wr.alloc (.cells #[.int .i64 s, .bool true] 55)) wr.heap.size s true := heap_alloc_new wr _
        refine (fates23y _ s (k - 1) lose delay run _ s3 h0 h1 (by omega) l0 l1 d0 d1 r0).mono ?_
        rintro e w4 ⟨A4, cap4, hcap4, rfl, ho4, _, m4⟩
        have b4 : Below w.heap.size w w4 := below_grown (b2.alloc b2.size _) m4 (by simp; have := b2.size; omega) b2.size
        have hgl := heap_lt HH.out
        have i4 : Is .i64 w4 w4.heap.size (some ⟨g, 0, none⟩) (ftL lose delay run s (k - 1)) := fun hp => by
          rw [ft_len] at hp
          have hh4 : w4.heap[g]? = some (.cells cs 3 (0, 0)) := (m4.block g (by simp; omega) (by simp; omega)).trans ((Below.heap_alloc _ _ _ hgl).trans HH.out)
          refine ⟨g, 0, rfl, heap_lt hh4, fun j hj => ?_⟩
          rw [ft_len] at hj
          have := HC.out j (by rw [ft_len]; omega)
          rw [ft_pre lose delay run s (k - 1) k (by omega) j hj] at this
          simp [World.cell?, hh4, this]
        have he := equalInts A4 (some ⟨g, 0, none⟩) cap4 cap1 (ftL lose delay run s (k - 1)) (ftL lose delay run s (k - 1)) w4.heap.size w4 ho4.is i4 (by rw [ft_len]; omega)
        rw [ft_len] at he
        have HE := Lib.hid he; clear he i4 m4 ho4 s3
        go_wp2_with fail
        refine HE.out.mono ?_
        rintro e w6 ⟨rfl, nd, rfl⟩
        have hdt : decide (ftL lose delay run s (k - 1) = ftL lose delay run s (k - 1)) = true := by simp
        go_wp2_with fail
        go_ret
        exact ⟨rfl, below_drewN b4 _⟩

theorem fates_ (s n lose delay run : Int) (_w0 : (Lit.int .i64 s).wf = true) (_w1 : (Lit.int .i64 n).wf = true) (_w2 : (Lit.int .i64 lose).wf = true) (_w3 : (Lit.int .i64 delay).wf = true) (_w4 : (Lit.int .i64 run).wf = true) (w : World) : Calls Try.prog 6 #[.int .i64 s, .int .i64 n, .int .i64 lose, .int .i64 delay, .int .i64 run] w fun e w' => e = .returned (.bool true) ∧ Below w.heap.size w w' := by
  by_cases hs : 1 ≤ s ∧ s < 2147483647
  · by_cases hn : okF n lose delay run
    · obtain ⟨h1, h2, h3, h4, h5, h6, h7⟩ := hn
      obtain ⟨m, rfl⟩ := Int.eq_ofNat_of_zero_le h1
      exact fates6y s m lose delay run hs.1 hs.2 (by omega) h3 h4 h5 h6 h7 w
    · exact fates6e s n lose delay run hs.1 hs.2 hn w
  · exact fates6f s n lose delay run hs w

namespace chanceFatesRow
open Go.ChangeShapes Go.WideShapes Go.ChangeAt Go.RowKit
open Go.ChangeMaps (open_string shut_string)
set_option linter.unusedVariables false
theorem own : ownKnob Try.prog.godebug = none := by kernel_rfl
theorem laidOut : laidOutB Try.prog = true := by kernel_rfl
set_option maxRecDepth 100000 in
theorem lifted (os : Os) (started : os.Started) (H : Type) (enc : TypeId × Value → H) :
    ReturnsInHanded {} Try.checked os 6 .any (Rows.chanceFatesSpec.pre6 enc Try.prog Try.f6 Rows.chanceFatesRow.domain false) (Rows.chanceFatesSpec.post enc Try.prog Try.f6 false true false false) := by
  refine returnsInHanded_of_change (C := Try.checked) own started (by kernel_rfl) Try.func6
    (ChangeSpec.witness6 (enc := enc) (C := Try.checked) false ⟨#[], #[.int .i64 0, .int .i64 0, .int .i64 0, .int .i64 0, .int .i64 0], []⟩ 8 (by kernel_rfl) (by kernel_rfl) (by kernel_rfl) (by kernel_rfl)) ?_
  intro W base args ds gs before hval0 hW hcnd _hsz
  have hval : ∀ (j : Nat) t v, Try.f6.params[j]? = some t → args[j]? = some v → Value.okWide Try.prog W .any base t v := hval0
  have hW' := hW
  obtain ⟨p, q, hA0, hV, rfl, hfz, hnd⟩ := hW
  have hA : DataW.TrodAll enc Try.prog W 0 (fun _ => true) true Try.f6.params.toList args.toList ds p := hA0
  rw [Try.params6] at hA hval
  obtain ⟨v0, vs0, d0, ds0, p0, q0, hargs, rfl, rfl, h0, r0⟩ := trodAll_cons hA
  obtain ⟨v1, vs1, d1, ds1, p1, q1, rfl, rfl, rfl, h1, r1⟩ := trodAll_cons r0
  obtain ⟨v2, vs2, d2, ds2, p2, q2, rfl, rfl, rfl, h2, r2⟩ := trodAll_cons r1
  obtain ⟨v3, vs3, d3, ds3, p3, q3, rfl, rfl, rfl, h3, r3⟩ := trodAll_cons r2
  obtain ⟨v4, vs4, d4, ds4, p4, q4, rfl, rfl, rfl, h4, r4⟩ := trodAll_cons r3
  obtain ⟨rfl, rfl, rfl⟩ := trodAll_nil r4
  obtain rfl : args = #[v0, v1, v2, v3, v4] := by cases args; simp_all
  obtain ⟨rfl, rfl⟩ := trodVars_none hV
  have k0 := h0
  have lt0 : ∀ x ∈ p0, x.block < W.heap.size := by obtain ⟨m, hm⟩ := k0; exact DataW.trod_lt m _ _ _ hm
  have k1 := h1
  have lt1 : ∀ x ∈ p1, x.block < W.heap.size := by obtain ⟨m, hm⟩ := k1; exact DataW.trod_lt m _ _ _ hm
  have k2 := h2
  have lt2 : ∀ x ∈ p2, x.block < W.heap.size := by obtain ⟨m, hm⟩ := k2; exact DataW.trod_lt m _ _ _ hm
  have k3 := h3
  have lt3 : ∀ x ∈ p3, x.block < W.heap.size := by obtain ⟨m, hm⟩ := k3; exact DataW.trod_lt m _ _ _ hm
  have k4 := h4
  have lt4 : ∀ x ∈ p4, x.block < W.heap.size := by obtain ⟨m, hm⟩ := k4; exact DataW.trod_lt m _ _ _ hm
  obtain ⟨a0, rfl, -, -, w0⟩ := open_int Try.underlying3 (hval 0 3 v0 rfl rfl) h0
  obtain ⟨a1, rfl, -, -, w1⟩ := open_int Try.underlying3 (hval 1 3 v1 rfl rfl) h1
  obtain ⟨a2, rfl, -, -, w2⟩ := open_int Try.underlying3 (hval 2 3 v2 rfl rfl) h2
  obtain ⟨a3, rfl, -, -, w3⟩ := open_int Try.underlying3 (hval 3 3 v3 rfl rfl) h3
  obtain ⟨a4, rfl, -, -, w4⟩ := open_int Try.underlying3 (hval 4 3 v4 rfl rfl) h4
  clear hA0 hval0
  refine (fates_ a0 a1 a2 a3 a4 w0 w1 w2 w3 w4 W).mono fun e W' ⟨he, bel⟩ => ?_
  subst he
  exact ⟨_, rfl, _, _, _, [], _, [], hW', trodAll_mk1 (shut_bool Try.underlying4 _), (trodAll_cons_mk (Below.trod laidOut (by kernel_rfl) (of_decide_eq_true (by kernel_rfl)) k0 bel lt0) (trodAll_cons_mk (Below.trod laidOut (by kernel_rfl) (of_decide_eq_true (by kernel_rfl)) k1 bel lt1) (trodAll_cons_mk (Below.trod laidOut (by kernel_rfl) (of_decide_eq_true (by kernel_rfl)) k2 bel lt2) (trodAll_cons_mk (Below.trod laidOut (by kernel_rfl) (of_decide_eq_true (by kernel_rfl)) k3 bel lt3) (trodAll_cons_mk (Below.trod laidOut (by kernel_rfl) (of_decide_eq_true (by kernel_rfl)) k4 bel lt4) trodAll_mk0))))), rfl, bel.frame _, fun h => by cases h⟩

theorem over : Rows.chanceFatesRow.holds Try.pinned (OpenSpec.ofChange Rows.chanceFatesSpec) :=
  OpenClaim.holds_of_wide 6 Try.f6 rfl rfl rfl rfl rfl rfl rfl ⟨rfl, rfl, rfl, rfl, rfl⟩ rfl rfl rfl rfl rfl (by kernel_rfl) Try.func6 (by kernel_rfl)
    (of_decide_eq_true (by kernel_rfl)) (by unfold Func.isWrapper; first | (rw [if_pos (by decide +kernel)]; kernel_rfl) | (rw [if_neg (by decide +kernel)]; exact ⟨rfl, rfl⟩))
    (fun os started H enc _ => lifted os started H enc)
theorem proved : Rows.ChanceFatesSaid := over
end chanceFatesRow
end Go.Proofs.Ytfpogcdffccldaa
