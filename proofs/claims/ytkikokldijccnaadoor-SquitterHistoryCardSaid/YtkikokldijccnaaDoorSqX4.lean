/- squitter: the law History. -/
import Derived.Test.YtkikokldijccnaaDoorRows
import Derived.WalkKit
import Derived.WalkLawsBesides
import Derived.WalkSpells
import Derived.ProofKit
import Derived.Below
import Derived.Outline
import Derived.Lib.Hide
import Derived.Deep.RegionWith
import Derived.Deep.RegionHeld3
import Derived.Deep.DrawnRows
import Derived.StillTailTactics
import Derived.BigQuiet
import Derived.Deep.QuietTactic
import Derived.Deep.LoopGhost
import Derived.IntWalk
import Derived.BigQuiet
import Derived.Deep.CutRange
import Derived.Deep.DeepCutAuto
import Derived.Test.YtkikokldijccnaaDoorSqV
namespace Go.Proofs.YtkikokldijccnaaDoor
open Go.RowKit Go.Maps
attribute [local go_sem ↓] Go.wp_at_zero Go.wp_at_succ
attribute [local go_sem] wrap_lit
theorem addrs_has {t : Ts} (h : Asc t.es) (a : Int) : decide (a ∈ addrsT t true) = knOf (lookT a t.es) ∧ decide (a ∈ addrsT t false) = pnOf (lookT a t.es) := by
  have key : ∀ b : Bool, a ∈ addrsT t b ↔ ∃ x, lookT a t.es = some x ∧ x.kn = b := by
    intro b
    unfold addrsT
    constructor
    · intro hm
      obtain ⟨p, hp, e⟩ := List.mem_map.1 hm
      obtain ⟨hp, hb⟩ := List.mem_filter.1 hp
      exact ⟨p.2, look_of_mem h (by rw [← e]; exact hp), by simpa using hb⟩
    · rintro ⟨x, hx, hb⟩
      exact List.mem_map.2 ⟨(a, x), List.mem_filter.2 ⟨look_mem hx, by simpa using hb⟩, rfl⟩
  constructor
  · cases hx : lookT a t.es with
    | none => exact decide_eq_false fun g => by obtain ⟨x, e, -⟩ := (key true).1 g; rw [hx] at e; cases e
    | some x =>
      show _ = x.kn
      cases hk : x.kn with
      | true => exact decide_eq_true ((key true).2 ⟨x, hx, hk⟩)
      | false =>
        refine decide_eq_false fun g => ?_
        obtain ⟨y, e, g⟩ := (key true).1 g
        rw [hx] at e
        obtain rfl := Option.some.inj e
        rw [hk] at g; cases g
  · cases hx : lookT a t.es with
    | none => exact decide_eq_false fun g => by obtain ⟨x, e, -⟩ := (key false).1 g; rw [hx] at e; cases e
    | some x =>
      show _ = !x.kn
      cases hk : x.kn with
      | false => exact decide_eq_true ((key false).2 ⟨x, hx, hk⟩)
      | true =>
        refine decide_eq_false fun g => ?_
        obtain ⟨y, e, g⟩ := (key false).1 g
        rw [hx] at e
        obtain rfl := Option.some.inj e
        rw [hk] at g; cases g
theorem hear_now (t : Ts) (a s : Int) : (hearT t a s).need = t.need ∧ (hearT t a s).win = t.win ∧ (hearT t a s).keep = t.keep ∧ ((hearT t a s).now = t.now ∨ ((hearT t a s).now = s ∧ 0 ≤ s ∧ s ≤ 1073741824)) := by
  unfold hearT
  split
  · exact ⟨rfl, rfl, rfl, .inl rfl⟩
  · split
    · exact ⟨rfl, rfl, rfl, .inl rfl⟩
    · rename_i g
      obtain ⟨-, q2, q3⟩ := tickE_ok (Decidable.not_not.1 g)
      split
      · exact ⟨rfl, rfl, rfl, .inr ⟨rfl, q2, q3⟩⟩
      · exact ⟨rfl, rfl, rfl, .inr ⟨rfl, q2, q3⟩⟩
theorem step_now (t : Ts) (a s : Int) : (stepT t a s).need = t.need ∧ (stepT t a s).win = t.win ∧ (stepT t a s).keep = t.keep ∧ ((stepT t a s).now = t.now ∨ ((stepT t a s).now = s ∧ 0 ≤ s ∧ s ≤ 1073741824)) := by
  unfold stepT
  split
  · unfold tickT
    split
    · rename_i g
      obtain ⟨-, q2, q3⟩ := tickE_ok g
      exact ⟨rfl, rfl, rfl, .inr ⟨rfl, q2, q3⟩⟩
    · exact ⟨rfl, rfl, rfl, .inl rfl⟩
  · exact hear_now t a s
/-- what an operation records -/
def stepP (t : Ts) (a s : Int) (P : List (Int × Int)) : List (Int × Int) := if stepE t a s = 0 ∧ 0 ≤ a then P ++ [(a, s)] else P
theorem InvT.step {t : Ts} {P : List (Int × Int)} (h : InvT t P) (ht : Ok t) (a s : Int) : InvT (stepT t a s) (stepP t a s P) := by
  unfold stepT stepP stepE
  by_cases g : a = -1
  · rw [if_pos g, if_pos g, if_neg (by omega)]
    exact h.tick ht s
  · rw [if_neg g, if_neg g]
    have := h.hear ht a s
    unfold histP at this
    by_cases g1 : hearE t a s = 0
    · have g2 : 0 ≤ a := by
        unfold hearE at g1
        split at g1
        · cases g1
        · omega
      rw [if_pos ⟨g1, g2⟩]
      rw [if_pos g1] at this
      exact this
    · rw [if_neg (fun g2 => g1 g2.1)]
      rw [if_neg g1] at this
      exact this
theorem step_acc {t : Ts} {a s : Int} (h : stepE t a s = 0) (ha : 0 ≤ a) : 0 ≤ s := by
  unfold stepE at h
  rw [if_neg (by omega)] at h
  unfold hearE at h
  split at h
  · cases h
  · split at h
    · rename_i g; exact absurd h g
    · rename_i g
      exact (tickE_ok (Decidable.not_not.1 g)).2.1
/-- the matrix marks what was heard -/
def Marks (Hs : Nat → Int → Bool) (P : List (Int × Int)) : Prop := ∀ (a : Nat), a < 5 → ∀ c, Hs a c = true ↔ ((a : Int), c) ∈ P
theorem Marks.keep {Hs : Nat → Int → Bool} {P : List (Int × Int)} (h : Marks Hs P) {t : Ts} {a s : Int} (hn : ¬ (stepE t a s = 0 ∧ 0 ≤ a)) : Marks Hs (stepP t a s P) := by
  unfold stepP; rw [if_neg hn]; exact h
theorem Marks.add {Hs : Nat → Int → Bool} {P : List (Int × Int)} (h : Marks Hs P) {t : Ts} {a s : Nat} (hn : stepE t a s = 0) : Marks (fun b c => if b = a ∧ c = (s : Int) then true else Hs b c) (stepP t a s P) := by
  unfold stepP; rw [if_pos ⟨hn, Int.natCast_nonneg a⟩]
  intro b hb c
  have e := h b hb c
  show (if b = a ∧ c = (s : Int) then true else Hs b c) = true ↔ _
  by_cases g : b = a ∧ c = (s : Int)
  · obtain ⟨rfl, rfl⟩ := g
    simp
  · rw [if_neg g, e]
    have : ¬ ((b : Int), c) = ((a : Int), (s : Int)) := fun g2 => g ⟨by have : (b : Int) = (a : Int) := congrArg Prod.fst g2; omega, by simpa using congrArg Prod.snd g2⟩
    simp [this]
set_option maxRecDepth 100000 in
set_option maxHeartbeats 4000000 in
theorem history4 {K : Nat} {w : World} (E : Env K w) (hK : K ≤ w.heap.size) (need win keep : Int) (A : Option Addr) (ca : Nat) (l : List (Int × Int)) (hA : Is .i64 w w.heap.size A (flatS l)) :
    Calls Tryd.prog 4 #[.int .i64 need, .int .i64 win, .int .i64 keep, .slice A l.length ca] w fun e w' => e = .returned (.bool true) ∧ Below w.heap.size w w' := by
  have HE := Lib.hid E
  have HA := Lib.hid hA
  clear E hA
  have np : ∀ (H : Nat) (w : World), Sem.run Tryd.prog (binOp BinOp.eql 23 (Value.pointer (some ⟨H, 0, none⟩)) (Value.pointer none)) w = .ok (.bool false) w := fun H w => by kernel_rfl
  by_cases hn : newE need win keep = 0
  · by_cases hg : 90 < l.length
    · have q1 : decide (90 < l.length) = true := decide_eq_true hg
      go_enter Tryd.func4, Tryd.ntmps4
      go_wp2_with fail
      refine (new8 need win keep w).mono ?_
      rintro e w0 (⟨hh, H1, mb1, bk1, gk1, O1, rfl, T1, n1, b1⟩ | ⟨hh, rfl, hw⟩)
      rotate_left
      · exact absurd (hn.symm.trans hh) (by decide)
      clear hh
      have SS : Hid (St1 w.heap.size w w0 (fun _ => False) H1 ⟨need, win, keep, 0, []⟩) := Lib.hid (St1.made ⟨_, _, _, T1⟩ n1 b1 (Ok.new hn))
      clear T1 n1
      go_wp2_with fail
      refine (awake10 (HE.out.below (b1.mono hK)) (Nat.le_trans hK b1.size)).mono ?_
      rintro e w1 ⟨rfl, hb1⟩
      go_wp2_with fail
      go_ret
      exact ⟨rfl, b1.trans (hb1.mono b1.size)⟩
    · have q1 : decide (90 < l.length) = false := decide_eq_false hg
      obtain ⟨par, hpar⟩ : ∃ par : Prop, par = (1 ≤ win ∧ win ≤ 1024 ∧ 1 ≤ keep ∧ keep ≤ 1024) := ⟨_, rfl⟩
      have hp : 1 ≤ win ∧ win ≤ 1024 := by
        have := (Ok.new hn).n1; have := (Ok.new hn).nw; have := (Ok.new hn).w64
        exact ⟨by show 1 ≤ win; simp only at *; omega, by show win ≤ 1024; simp only at *; omega⟩
      clear hpar par
      go_enter Tryd.func4, Tryd.ntmps4
      go_wp2_with fail
      refine (new8 need win keep w).mono ?_
      rintro e w0 (⟨hh, H1, mb1, bk1, gk1, O1, rfl, T1, n1, b1⟩ | ⟨hh, rfl, hw⟩)
      rotate_left
      · exact absurd (hn.symm.trans hh) (by decide)
      clear hh
      have SS : Hid (St1 w.heap.size w w0 (fun _ => False) H1 ⟨need, win, keep, 0, []⟩) := Lib.hid (St1.made ⟨_, _, _, T1⟩ n1 b1 (Ok.new hn))
      clear T1 n1
      go_wp2_with fail
      refine (awake10 (HE.out.below (b1.mono hK)) (Nat.le_trans hK b1.size)).mono ?_
      rintro e w1 ⟨rfl, hb1⟩
      have SS := Lib.hid (SS.out.below hb1)
      clear hb1 b1
      have M5 := Lib.hid make5
      have m5 := make5 w1
      have hw1 := Mx.new w1 (NewB w0 w1 (fun _ => False)) (fun _ => 0) (fun _ _ => false)
      have MM := Lib.hid hw1
      have S2 := SS.out.below (below_alloc1 w1 (.cells (madeCells #[.slice none 0 0] 5) 45))
      have SS := Lib.hid S2
      have hgl : l.length ≤ 90 := by omega
      clear hw1 S2
      go_wp2_with fail
      obtain ⟨W, hW⟩ : ∃ W, W = w1.alloc (.cells (madeCells #[.slice none 0 0] 5) 45) := ⟨_, rfl⟩
      obtain ⟨m, hm⟩ : ∃ m, m = w1.heap.size := ⟨_, rfl⟩
      simp only [← hW] at MM SS ⊢
      simp only [← hm] at MM SS ⊢
      clear m5 M5 hW hm
      go_loopw [12] (fun ii wr => ∃ (n : Nat) (gs : Nat → Nat) (F : Nat → Prop), n ≤ 5 ∧ ii = .int .i64 n ∧ Mx wr F m n gs (fun _ _ => false) ∧ St1 w.heap.size w wr F H1 ⟨need, win, keep, 0, []⟩) (fun ii _ => 5 - (intOf ii).toNat)
      case atStart => exact ⟨0, _, _, by omega, rfl, MM.out, SS.out⟩
      case round =>
        clear MM SS
        obtain ⟨n, gs, F, hn5, rfl, hM, hS⟩ := hrel
        have MM := Lib.hid hM
        have SS := Lib.hid hS
        clear hM hS
        by_cases hlt : n < 5
        · have hltI : (n : Int) < 5 := by omega
          have mk := make301 wr
          have hm1 := SS.out.lt m MM.out.fm
          obtain ⟨⟨u, c0⟩, p0⟩ := MM.out.spot hlt
          have hbA := below_alloc1 wr (.cells (madeCells #[.bool false] 301) 4)
          have c1 : (wr.alloc (.cells (madeCells #[.bool false] 301) 4)).cell? ⟨m, n, none⟩ = some u := (hbA.cell (p := ⟨m, n, none⟩) hm1).trans c0
          have p1 : (wr.alloc (.cells (madeCells #[.bool false] 301) 4)).frozen? ⟨m, n, none⟩ = false := (hbA.frozen (p := ⟨m, n, none⟩) hm1).trans p0
          have MM2 := MM.out.more SS.out.lt hlt
          have SS2 := (SS.out.below hbA).set (g := m) (i := n) (.inl MM.out.fm) (.slice (some ⟨wr.heap.size, 0, none⟩) 301 301)
          rw [World.setCell_alloc_past (w := wr) (.cells (madeCells #[.bool false] 301) 4) m n (.slice (some ⟨wr.heap.size, 0, none⟩) 301 301) hm1] at MM2 SS2
          have MM2 := Lib.hid MM2
          have SS2 := Lib.hid SS2
          clear c0 p0 hbA
          go_wp2_with fail
          exact ⟨⟨n + 1, _, _, by omega, by go_num, MM2.out, SS2.out⟩, by simp [intOf]; omega⟩
        · obtain rfl : n = 5 := by omega
          clear hlt
          rw [show ((5 : Nat) : Int) = 5 from rfl]
          go_wp2_with fail
          go_loopw [13, 14] (fun ii _ wq => ∃ (i : Nat) (t : Ts) (P : List (Int × Int)) (F : Nat → Prop) (Hs : Nat → Int → Bool), i ≤ l.length ∧ ii = .int .i64 i ∧ t.need = need ∧ t.win = win ∧ t.keep = keep ∧ 0 ≤ t.now ∧ t.now ≤ 300 ∧ InvT t P ∧ Marks Hs P ∧ Mx wq F m 5 gs Hs ∧ St1 w.heap.size w wq F H1 t) (fun ii _ _ => l.length - (intOf ii).toNat)
          case atStart => exact ⟨0, _, [], F, _, Nat.zero_le _, rfl, rfl, rfl, rfl, Int.le_refl _, (show (0 : Int) ≤ 300 by decide), InvT.new, fun a ha c => by simp, MM.out, SS.out⟩
          case round =>
            clear MM SS F
            obtain ⟨i, t, P, F, Hs, hi, rfl, e1, e2, e3, t0, t1, hI, hMk, hM, hS⟩ := hrel
            have PAR := Lib.hid (And.intro e1 (And.intro e2 e3))
            have MM := Lib.hid hM
            have SS := Lib.hid hS
            have HI := Lib.hid hI
            have HM := Lib.hid hMk
            clear e1 e2 e3 hI hMk hM hS
            by_cases hlt : i < l.length
            · have hfl := flatS_len l
              obtain ⟨f1, f2⟩ := flatS_nth l i hlt
              obtain ⟨b, off, rfl, hbb, hc⟩ := (HA.out.below SS.out.bel) (by omega)
              have c1 := hc (i * 2) (by omega)
              have c2 := hc (i * 2 + 1) (by omega)
              rw [f1] at c1
              rw [f2, ← Nat.add_assoc] at c2
              obtain ⟨a, ha⟩ : ∃ a, a = stl l i := ⟨_, rfl⟩
              obtain ⟨s, hs⟩ : ∃ s, s = sth l i := ⟨_, rfl⟩
              rw [← ha] at c1
              rw [← hs] at c2
              have hltI : (i : Int) < (l.length : Int) := by omega
              clear hc f1 f2 hfl ha hs
              by_cases g1 : 300 < s
              · have q2 : decide (300 < s) = true := decide_eq_true g1
                go_wp2_with fail
                exact ⟨⟨i + 1, t, P, _, Hs, by omega, by go_num, PAR.out.1, PAR.out.2.1, PAR.out.2.2, t0, t1, HI.out, HM.out, MM.out.keep (fun _ h => .inl h) (fun k hk => (below_alloc1 wr _).block k (SS.out.lt k hk)), SS.out.below (below_alloc1 wr _)⟩, by simp [intOf]; omega⟩
              · have q2 : decide (300 < s) = false := decide_eq_false g1
                by_cases g2 : 4 < a
                · have q3 : decide (4 < a) = true := decide_eq_true g2
                  go_wp2_with fail
                  exact ⟨⟨i + 1, t, P, _, Hs, by omega, by go_num, PAR.out.1, PAR.out.2.1, PAR.out.2.2, t0, t1, HI.out, HM.out, MM.out.keep (fun _ h => .inl h) (fun k hk => (below_alloc1 wr _).block k (SS.out.lt k hk)), SS.out.below (below_alloc1 wr _)⟩, by simp [intOf]; omega⟩
                · have q3 : decide (4 < a) = false := decide_eq_false g2
                  have hb := below_alloc1 wr (.cells #[.int .i64 a, .int .i64 s] 33)
                  have MM := Lib.hid (MM.out.keep (F' := NewB wr (wr.alloc (.cells #[.int .i64 a, .int .i64 s] 33)) F) (fun _ h => .inl h) (fun k hk => hb.block k (SS.out.lt k hk)))
                  have SS1 := SS
                  have SS := Lib.hid (SS.out.below hb)
                  clear hb
                  go_wp2_with fail
                  refine (stepB SS.out a s).mono ?_
                  rintro e w2 ⟨rfl, hS, hk⟩
                  have MM := Lib.hid (MM.out.keep (fun _ h => h) hk)
                  have hh := (hk wr.heap.size (.inr ⟨Nat.le_refl _, by rw [size_alloc]; exact Nat.lt_succ_self _⟩)).trans (heap_alloc_new wr _)
                  have SS := Lib.hid hS
                  obtain ⟨m1, m2, m3, m4⟩ := step_now t a s
                  have HI2 := Lib.hid (HI.out.step SS1.out.okt a s)
                  have k1 : w2.cell? ⟨wr.heap.size, 0, none⟩ = some (.int .i64 a) := cellOf hh
                  have k2 : w2.cell? ⟨wr.heap.size, 1, none⟩ = some (.int .i64 s) := cellOf hh
                  have n0 : 0 ≤ (stepT t a s).now := by rcases m4 with m4 | m4 <;> omega
                  have n1 : (stepT t a s).now ≤ 300 := by rcases m4 with m4 | m4 <;> omega
                  have PAR2 : Hid ((stepT t a s).need = need ∧ (stepT t a s).win = win ∧ (stepT t a s).keep = keep) := Lib.hid ⟨m1.trans PAR.out.1, m2.trans PAR.out.2.1, m3.trans PAR.out.2.2⟩
                  clear hS hk hh m1 m2 m3 m4
                  by_cases hst : stepE t a s = 0
                  · have q4 : (stepE t a s == 0) = true := by simpa using hst
                    by_cases ha0 : 0 ≤ a
                    · have q5 : decide (0 ≤ a) = true := decide_eq_true ha0
                      have hs0 := step_acc hst ha0
                      obtain ⟨x, rfl⟩ : ∃ x : Nat, a = x := ⟨a.toNat, by omega⟩
                      obtain ⟨y, rfl⟩ : ∃ y : Nat, s = y := ⟨s.toNat, by omega⟩
                      have hx5 : x < 5 := by omega
                      have hy : y < 301 := by omega
                      have hxI : (x : Int) < 5 := by omega
                      have hyI : (y : Int) < 301 := by omega
                      obtain ⟨d1, d2, d3⟩ := MM.out.at_ hx5
                      have d2 := d2 y hy
                      have d3 := d3 y
                      have MM2 := Lib.hid (MM.out.set hx5 hy)
                      have HM2 := Lib.hid (HM.out.add (t := t) (a := x) (s := y) hst)
                      have SS2 := Lib.hid (SS.out.set (g := gs x) (i := y) (MM.out.fg x hx5) (.bool true))
                      have HST := Lib.hid hst
                      clear hst
                      go_wp2_with fail
                      refine still_drew 7 (by kernel_rfl) (by kernel_rfl) ?_
                      simp only [List.take_succ_cons, List.take_zero, List.drop_succ_cons, List.drop_zero]
                      repeat still_step
                      refine wpStill_nil ?_
                      go_wp2_with fail
                      exact ⟨⟨i + 1, _, _, _, _, by omega, by go_num, PAR2.out.1, PAR2.out.2.1, PAR2.out.2.2, n0, n1, HI2.out, HM2.out, MM2.out.keep (fun _ h => h) (fun _ _ => rfl), SS2.out.drew⟩, by simp [intOf]; omega⟩
                    · have q5 : decide (0 ≤ a) = false := decide_eq_false ha0
                      have HM2 := Lib.hid (HM.out.keep (t := t) (a := a) (s := s) (fun g => ha0 g.2))
                      have HST := Lib.hid hst
                      clear hst
                      go_wp2_with fail
                      exact ⟨⟨i + 1, _, _, _, Hs, by omega, by go_num, PAR2.out.1, PAR2.out.2.1, PAR2.out.2.2, n0, n1, HI2.out, HM2.out, MM.out, SS.out⟩, by simp [intOf]; omega⟩
                  · have q4 : (stepE t a s == 0) = false := by simpa using hst
                    have HM2 := Lib.hid (HM.out.keep (t := t) (a := a) (s := s) (fun g => hst g.1))
                    clear hst
                    go_wp2_with fail
                    exact ⟨⟨i + 1, _, _, _, Hs, by omega, by go_num, PAR2.out.1, PAR2.out.2.1, PAR2.out.2.2, n0, n1, HI2.out, HM2.out, MM.out, SS.out⟩, by simp [intOf]; omega⟩
            · obtain rfl : i = l.length := by omega
              clear hlt
              have q2 : decide (t.now < 0) = false := decide_eq_false (by omega)
              have q3 : decide (300 < t.now) = false := decide_eq_false (by omega)
              go_wp2_with fail
              refine (nowB SS.out).mono ?_
              rintro e wz ⟨rfl, hw⟩
              rw [hw]
              clear hw wz
              go_wp2_with fail
              refine (nowB SS.out).mono ?_
              rintro e wz ⟨rfl, hw⟩
              rw [hw]
              clear hw wz
              go_wp2_with fail
              refine (knownB SS.out).mono ?_
              rintro e w3 ⟨A1, k1, rfl, hf, hk1, hS, hb⟩
              have MM := Lib.hid (MM.out.keep (F' := NewB wr w3 F) (fun _ h => .inl h) (fun k hk => hb.block k (SS.out.lt k hk)))
              have F1 := Lib.hid hf
              have SS := Lib.hid hS
              clear hf hS hb
              go_wp2_with fail
              refine (pendB SS.out).mono ?_
              rintro e w4 ⟨A2, k2, rfl, hf, hk2, hS, hb⟩
              have MM := Lib.hid (MM.out.keep (F' := NewB w3 w4 (NewB wr w3 F)) (fun _ h => .inl h) (fun k hk => hb.block k (SS.out.lt k hk)))
              have F1 := Lib.hid (F1.out.below SS.out.lt hb)
              have F2 := Lib.hid hf
              have SS := Lib.hid hS
              clear hf hS hb
              have hlA : ∀ b, (addrsT t b).length ≤ 1000000 := fun b => by
                have h1 := SS.out.okt.len
                have h2 : (addrsT t b).length ≤ t.es.length := by unfold addrsT; rw [List.length_map]; exact List.length_filter_le _ _
                omega
              obtain ⟨KN, hKN⟩ : ∃ KN, KN = addrsT t true := ⟨_, rfl⟩
              obtain ⟨PN, hPN⟩ : ∃ PN, PN = addrsT t false := ⟨_, rfl⟩
              have l1 := hlA true
              have l2 := hlA false
              rw [← hKN] at F1 l1 ⊢
              rw [← hPN] at F2 l2 ⊢
              have HAS := Lib.hid (And.intro hKN hPN)
              clear hKN hPN hlA
              go_wp2_with fail
              go_loopw [8, 17, 18, 19] (fun r ii _ _ wz => ∃ x : Nat, x ≤ 5 ∧ r = .bool false ∧ ii = .int .i64 x ∧ ∃ n, wz = w4.drewN n) (fun _ ii _ _ _ => 5 - (intOf ii).toNat)
              case atStart => exact ⟨0, by omega, rfl, rfl, 0, rfl⟩
              case round =>
                obtain ⟨x, hx, rfl, rfl, nn, rfl⟩ := hrel
                by_cases hx5 : x < 5
                · have hxI : (x : Int) < 5 := by omega
                  obtain ⟨mm, hmm⟩ : ∃ mm : Nat, t.now = mm := ⟨t.now.toNat, by omega⟩
                  have hV := thr_view HI.out SS.out.okt (x : Int) (H := Hs x) (fun c => HM.out x hx5 c) (m := mm + 1) (by omega)
                  rw [PAR.out.1, PAR.out.2.1, PAR.out.2.2] at hV
                  obtain ⟨d1, d2, -⟩ := MM.out.at_ hx5
                  have TH := fun n => through23 (w := (w4.drewN nn).drewN n) (g := gs x) (H := Hs x) need win keep mm d2 (by omega) hp.1 hp.2
                  rw [← hmm] at TH
                  obtain ⟨kb, hkb⟩ : ∃ kb, kb = (thrN (Hs x) need win keep (mm + 1)).2 := ⟨_, rfl⟩
                  obtain ⟨fb, hfb⟩ : ∃ fb, fb = (decide (0 ≤ (thrN (Hs x) need win keep (mm + 1)).1) && decide (t.now - win < (thrN (Hs x) need win keep (mm + 1)).1)) := ⟨_, rfl⟩
                  rw [← hkb, ← hfb] at TH hV
                  obtain ⟨v1, v2⟩ := hV
                  have hA := addrs_has SS.out.okt.asc (x : Int)
                  rw [← HAS.out.1, ← HAS.out.2, ← v1, ← v2] at hA
                  obtain ⟨g1, g2⟩ := hA
                  obtain ⟨wz, hwz⟩ : ∃ wz, wz = w4.drewN nn := ⟨_, rfl⟩
                  have NWQ : Hid (∀ n, Calls Tryd.prog 14 #[.pointer (some ⟨H1, 0, none⟩)] (wz.drewN n) fun e w' => e = .returned (.int .i64 t.now) ∧ w' = wz.drewN n) := Lib.hid (fun n => by rw [hwz]; exact nowB (SS.out.below (below_drewN (below_drewN (Below.refl _ w4) nn) n)))
                  have THQ : Hid (∀ n, Calls Tryd.prog 23 #[.slice (some ⟨gs x, 0, none⟩) 301 301, .int .i64 need, .int .i64 win, .int .i64 keep, .int .i64 t.now] (wz.drewN n) fun e w' => e = .returned (.tuple #[.bool kb, .bool fb]) ∧ w' = wz.drewN n) := Lib.hid (fun n => by rw [hwz]; exact TH n)
                  have IS1 : ∀ n, Is .i64 (wz.drewN n) (wz.drewN n).heap.size A1 KN := fun n => by rw [hwz]; exact F1.out.is
                  have IS2 : ∀ n, Is .i64 (wz.drewN n) (wz.drewN n).heap.size A2 PN := fun n => by rw [hwz]; exact F2.out.is
                  have HI1 : Hid (∀ n, Calls Tryd.prog 24 #[.slice A1 KN.length k1, .int .i64 x] (wz.drewN n) fun e w' => e = .returned (.bool kb) ∧ w' = wz.drewN n) := Lib.hid (fun n => by have h := hasInt24 A1 k1 KN (x : Int) (IS1 n) l1; rw [g1] at h; exact h)
                  have HI2 : Hid (∀ n, Calls Tryd.prog 24 #[.slice A2 PN.length k2, .int .i64 x] (wz.drewN n) fun e w' => e = .returned (.bool (fb && !kb)) ∧ w' = wz.drewN n) := Lib.hid (fun n => by have h := hasInt24 A2 k2 PN (x : Int) (IS2 n) l2; rw [g2] at h; exact h)
                  have e1 : wz.cell? ⟨m, x, none⟩ = some (.slice (some ⟨gs x, 0, none⟩) 301 301) := by rw [hwz]; exact d1
                  have HWZ := Lib.hid hwz
                  rw [← hwz]
                  clear hwz TH v1 v2 g1 g2 hkb hfb hmm d1 d2 IS1 IS2
                  cases kb with
                  | true =>
                    go_wp2_with fail
                    go_quiet ((first | (go_at_call 14; with_reducible exact Calls.quiet_of_same (NWQ.out _)) | (go_at_call 23; with_reducible exact Calls.quiet_of_same (THQ.out _))))
                    go_wp2_with fail
                    refine (HI1.out _).mono ?_
                    rintro e w5 ⟨rfl, hw⟩
                    rw [hw]
                    clear hw w5
                    cases fb with
                    | true =>
                      go_wp2_with fail
                      refine (HI2.out _).mono ?_
                      rintro e w5 ⟨rfl, hw⟩
                      rw [hw]
                      clear hw w5
                      go_wp2_with fail
                      exact ⟨⟨x + 1, by omega, rfl, by go_num, nn + nq, by rw [HWZ.out, World.drewN_drewN]⟩, by simp [intOf]; omega⟩
                    | false =>
                      go_wp2_with fail
                      refine (HI2.out _).mono ?_
                      rintro e w5 ⟨rfl, hw⟩
                      rw [hw]
                      clear hw w5
                      go_wp2_with fail
                      exact ⟨⟨x + 1, by omega, rfl, by go_num, nn + nq, by rw [HWZ.out, World.drewN_drewN]⟩, by simp [intOf]; omega⟩
                  | false =>
                    go_wp2_with fail
                    go_quiet ((first | (go_at_call 14; with_reducible exact Calls.quiet_of_same (NWQ.out _)) | (go_at_call 23; with_reducible exact Calls.quiet_of_same (THQ.out _))))
                    go_wp2_with fail
                    refine (HI1.out _).mono ?_
                    rintro e w5 ⟨rfl, hw⟩
                    rw [hw]
                    clear hw w5
                    cases fb with
                    | true =>
                      go_wp2_with fail
                      refine (HI2.out _).mono ?_
                      rintro e w5 ⟨rfl, hw⟩
                      rw [hw]
                      clear hw w5
                      go_wp2_with fail
                      exact ⟨⟨x + 1, by omega, rfl, by go_num, nn + nq, by rw [HWZ.out, World.drewN_drewN]⟩, by simp [intOf]; omega⟩
                    | false =>
                      go_wp2_with fail
                      refine (HI2.out _).mono ?_
                      rintro e w5 ⟨rfl, hw⟩
                      rw [hw]
                      clear hw w5
                      go_wp2_with fail
                      exact ⟨⟨x + 1, by omega, rfl, by go_num, nn + nq, by rw [HWZ.out, World.drewN_drewN]⟩, by simp [intOf]; omega⟩
                · obtain rfl : x = 5 := by omega
                  clear hx5
                  go_wp2_with fail
                  go_ret
                  exact ⟨rfl, below_drewN SS.out.bel _⟩
  · have hn1 : newE need win keep = 1 := by
      unfold newE at hn ⊢
      split
      · rfl
      · rename_i g; rw [if_neg g] at hn; exact absurd rfl hn
    go_enter Tryd.func4, Tryd.ntmps4
    go_wp2_with fail
    refine (new8 need win keep w).mono ?_
    rintro e w0 (⟨hh, H1, mb1, bk1, gk1, O1, rfl, T1, n1, b1⟩ | ⟨hh, rfl, hw⟩)
    · exact absurd hh hn
    rw [hw]
    clear hw w0
    go_wp2_with fail
    refine (awake10 HE.out hK).mono ?_
    rintro e w1 ⟨rfl, hb1⟩
    go_wp2_with fail
    go_ret
    exact ⟨rfl, hb1⟩
end Go.Proofs.YtkikokldijccnaaDoor
