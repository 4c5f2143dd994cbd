/- squitter's reference: Tick, Hear. -/
import Derived.Test.YtkikokldijccnaaDoorRows
import Derived.WalkKit
import Derived.WalkLawsBesides
import Derived.WalkSpells
import Derived.ProofKit
import Derived.Below
import Derived.Outline
import Derived.Lib.Hide
import Derived.Deep.RegionWith
import Derived.Deep.RegionHeld3
import Derived.Deep.DrawnRows
import Derived.StillTailTactics
import Derived.BigQuiet
import Derived.Deep.QuietTactic
import Derived.Deep.LoopGhost
import Derived.IntWalk
import Derived.BigQuiet
import Derived.Maps.AppendAt
import Derived.Test.YtkikokldijccnaaDoorSrC
namespace Go.Proofs.YtkikokldijccnaaDoor
open Go.RowKit Go.Maps
attribute [local go_sem ↓] Go.wp_at_zero Go.wp_at_succ
attribute [local go_sem] wrap_lit
theorem Heard_info : (Tryd.prog.info? 33).map (fun i => (i.zero, i.size, i.bytes)) = some (some (.agg #[.int .i64 0, .int .i64 0]), 2, 16) := by kernel_rfl
/-- the reference's table, of the call's own -/
structure RfO (w : World) (B R : Nat) (t : Ts) (P : List (Int × Int)) (A : Option Addr) (cap : Nat) : Prop where
  cells : w.heap[R]? = some (.cells #[.int .i64 t.need, .int .i64 t.win, .int .i64 t.keep, .int .i64 t.now, .slice A P.length cap] 31 (0, 0))
  own : w.ownsRow B 33 2 (.slice A P.length cap) P.length ((flatS P).map (Value.int .i64))
  hB : B ≤ R
  inv : InvT t P
  ok : Ok t
  len : P.length ≤ 1000
/-- its blocks -/
def RfB (R : Nat) (A : Option Addr) (k : Nat) : Prop := k = R ∨ (∃ x, A = some x ∧ k = x.block)
theorem RfB.own {R k : Nat} {A : Option Addr} {n cap : Nat} (h : (Value.slice A n cap).ownBlock = some k) : RfB R A k := by
  cases A with
  | none => cases h
  | some x => exact .inr ⟨x, rfl, (Option.some.inj h).symm⟩
theorem RfB.iff {R k : Nat} {A : Option Addr} {n cap : Nat} : RfB R A k ↔ k = R ∨ (Value.slice A n cap).ownBlock = some k := by
  constructor
  · rintro (h | ⟨x, rfl, rfl⟩)
    · exact .inl h
    · exact .inr rfl
  · rintro (h | h)
    · exact .inl h
    · exact RfB.own h
theorem RfO.lt {w : World} {B R cap : Nat} {A : Option Addr} {t : Ts} {P : List (Int × Int)} (h : RfO w B R t P A cap) : ∀ k, RfB R A k → B ≤ k ∧ k < w.heap.size := by
  intro k hk
  rcases (RfB.iff (n := P.length) (cap := cap)).1 hk with rfl | hk
  · exact ⟨h.hB, heap_lt h.cells⟩
  · exact h.own.lt k hk
theorem RfO.refB {w : World} {B R cap : Nat} {A : Option Addr} {t : Ts} {P : List (Int × Int)} (h : RfO w B R t P A cap) : RefB t.need t.win t.keep t.now P where
  n0 := h.ok.n1
  n1 := h.ok.n8
  w0 := by have := h.ok.n1; have := h.ok.nw; omega
  w1 := h.ok.w64
  k0 := by have := h.ok.n1; have := h.ok.nw; have := h.ok.wk; omega
  k1 := h.ok.k1
  t0 := h.ok.t0
  t1 := h.ok.t1
  p := fun g hg => by have := h.inv.bd g hg; have := h.ok.t1; exact ⟨by omega, by omega, by omega, by omega⟩
theorem RfO.ref {w : World} {B R cap : Nat} {A : Option Addr} {t : Ts} {P : List (Int × Int)} (h : RfO w B R t P A cap) : RefR w R t.need t.win t.keep t.now A cap P where
  lt := heap_lt h.cells
  c0 := cellOf h.cells
  c1 := cellOf h.cells
  c2 := cellOf h.cells
  c3 := cellOf h.cells
  c4 := cellOf h.cells
  past := by
    obtain ⟨A', cap', e, hown⟩ := Own.of_row h.own (by rw [flatS_len])
    injection e with e1 _ e2
    subst e1 e2
    exact hown.is
  len := h.len
theorem RfO.kept {w : World} {B R cap : Nat} {A : Option Addr} {t : Ts} {P : List (Int × Int)} {w' : World} (h : RfO w B R t P A cap) (hk : ∀ k, RfB R A k → w'.heap[k]? = w.heap[k]?) : RfO w' B R t P A cap where
  cells := (hk R (.inl rfl)).trans h.cells
  own := by
    obtain ⟨h1, h2⟩ := h.own
    refine ⟨h1, ?_⟩
    rcases h2 with h2 | ⟨g, cap', cur, h2, h3, h4, h5⟩
    · exact .inl h2
    · refine .inr ⟨g, cap', cur, h2, h3, (hk g ?_).trans h4, h5⟩
      injection h2 with e1 _ _
      exact .inr ⟨_, e1, rfl⟩
  hB := h.hB
  inv := h.inv
  ok := h.ok
  len := h.len
theorem RfO.below {w : World} {B R cap : Nat} {A : Option Addr} {t : Ts} {P : List (Int × Int)} {w' : World} (h : RfO w B R t P A cap) (hb : Below w.heap.size w w') : RfO w' B R t P A cap := h.kept fun k hk => hb.block k (h.lt k hk).2
theorem RfO.apart {w : World} {B R cap : Nat} {A : Option Addr} {t : Ts} {P : List (Int × Int)} (h : RfO w B R t P A cap) : ∀ k, (Value.slice A P.length cap).ownBlock = some k → k ≠ R := by
  intro k hk e
  obtain ⟨h1, h2⟩ := h.own
  rcases h2 with ⟨h2, -⟩ | ⟨g, cap', cur, h2, h3, h4, h5⟩
  · rw [h2] at hk; cases hk
  · rw [h2] at hk
    obtain rfl : g = k := Option.some.inj hk
    rw [e] at h4
    have := h4.symm.trans h.cells
    injection this with this
    injection this with _ this
    exact absurd this (by decide)
/-- the time is set -/
theorem RfO.time {w : World} {B R cap : Nat} {A : Option Addr} {t : Ts} {P : List (Int × Int)} {t' : Ts} {s : Int} (h : RfO w B R t P A cap) (e1 : t'.need = t.need) (e2 : t'.win = t.win) (e3 : t'.keep = t.keep) (e4 : t'.now = s) (hi : InvT t' P) (hok : Ok t') : RfO (w.setCell ⟨R, 3, none⟩ (.int .i64 s)) B R t' P A cap where
  cells := by
    rw [setCell_cells h.cells, e1, e2, e3, e4]
    rfl
  own := by
    obtain ⟨h1, h2⟩ := h.own
    refine ⟨h1, ?_⟩
    rcases h2 with h2 | ⟨g, cap', cur, h2, h3, h4, h5⟩
    · exact .inl h2
    · refine .inr ⟨g, cap', cur, h2, h3, (Below.heap_setCell _ _ _ _ (fun e => ?_)).trans h4, h5⟩
      exact h.apart g (by rw [h2]; rfl) e
  hB := h.hB
  inv := hi
  ok := hok
  len := h.len
/-- what a call that turns the reference's table leaves -/
def RfT (w w' : World) (B R : Nat) (t' : Ts) (P' : List (Int × Int)) (A : Option Addr) : Prop := ∃ A' cap', RfO w' B R t' P' A' cap' ∧ Turn (RfB R A) w w' ∧ ∀ k, RfB R A' k → RfB R A k ∨ w.heap.size ≤ k
theorem RfT.refl {w : World} {B R cap : Nat} {A : Option Addr} {t : Ts} {P : List (Int × Int)} {w' : World} (h : RfO w' B R t P A cap) (hT : Turn (RfB R A) w w') : RfT w w' B R t P A := ⟨A, cap, h, hT, fun _ h => .inl h⟩
theorem tick_same {t : Ts} {s : Int} (h : tickE t s ≠ 0) : tickT t s = t := by unfold tickT; rw [if_neg h]
set_option maxHeartbeats 1000000 in
theorem refTick11 {w : World} {B R cap : Nat} {A : Option Addr} {t : Ts} {P : List (Int × Int)} (h : RfO w B R t P A cap) (s : Int) : Calls Tryd.prog 11 #[.pointer (some ⟨R, 0, none⟩), .int .i64 s] w fun e w' => e = .returned (.int .i64 (tickE t s)) ∧ RfT w w' B R (tickT t s) P A := by
  have HO := Lib.hid h
  have r3 := h.ref.c3
  have rf : w.frozen? ⟨R, 3, none⟩ = false := frozenOf h.cells
  cases q1 : decide (s < 0) with
  | true =>
    have hE : tickE t s = 1 := by unfold tickE; rw [if_pos (.inl (of_decide_eq_true q1))]
    rw [tick_same (by rw [hE]; decide), hE]
    clear h hE
    go_enter Tryd.func11, Tryd.ntmps11
    go_wp2_with fail
    go_ret
    exact ⟨rfl, RfT.refl HO.out (Turn.refl _ _)⟩
  | false =>
    cases q2 : decide (1073741824 < s) with
    | true =>
      have hE : tickE t s = 1 := by unfold tickE; rw [if_pos (.inr (of_decide_eq_true q2))]
      rw [tick_same (by rw [hE]; decide), hE]
      clear h hE
      go_enter Tryd.func11, Tryd.ntmps11
      go_wp2_with fail
      go_ret
      exact ⟨rfl, RfT.refl HO.out (Turn.refl _ _)⟩
    | false =>
      have g1 : ¬ (s < 0 ∨ 1073741824 < s) := by
        have := of_decide_eq_false q1; have := of_decide_eq_false q2; omega
      cases q3 : decide (s < t.now) with
      | true =>
        have hE : tickE t s = 12 := by unfold tickE; rw [if_neg g1, if_pos (of_decide_eq_true q3)]
        rw [tick_same (by rw [hE]; decide), hE]
        clear h hE g1
        go_enter Tryd.func11, Tryd.ntmps11
        go_wp2_with fail
        go_ret
        exact ⟨rfl, RfT.refl HO.out (Turn.refl _ _)⟩
      | false =>
        have hE : tickE t s = 0 := by unfold tickE; rw [if_neg g1, if_neg (of_decide_eq_false q3)]
        have hT : tickT t s = advT t s := by unfold tickT; rw [if_pos hE]
        obtain ⟨z1, z2, z3⟩ := tickE_ok hE
        have HT := Lib.hid (h.time (t' := advT t s) (s := s) rfl rfl rfl rfl (h.inv.adv h.ok z1) (h.ok.adv z1 z3))
        rw [hT, hE]
        clear h hE hT g1 z1 z2 z3
        go_enter Tryd.func11, Tryd.ntmps11
        go_wp2_with fail
        go_ret
        exact ⟨rfl, RfT.refl HT.out ((Turn.refl (RfB R A) w).setCell (p := ⟨R, 3, none⟩) (.inl (.inl rfl)) _)⟩
theorem RfO.push {w : World} {B R cap : Nat} {A : Option Addr} {t : Ts} {P : List (Int × Int)} {u' : Ts} (h : RfO w B R t P A cap) (hl : P.length < 1000) (hBw : B ≤ w.heap.size) (a s : Int) (e1 : u'.need = t.need) (e2 : u'.win = t.win) (e3 : u'.keep = t.keep) (e4 : u'.now = t.now) (hi : InvT u' (P ++ [(a, s)])) (hok : Ok u') :
    ∃ A' cap' w', Sem.run Tryd.prog (Builtin.append_ #[22, 22] 22 #[.slice A P.length cap, .slice (some ⟨w.heap.size, 0, none⟩) 1 1]) ((w.alloc (.cells #[.int .i64 a, .int .i64 s] 33)).drew) = .ok (.slice A' (P.length + 1) cap') w' ∧ w'.cell? ⟨R, 4, none⟩ = some (.slice A P.length cap) ∧ w'.frozen? ⟨R, 4, none⟩ = false ∧ RfO (w'.setCell ⟨R, 4, none⟩ (.slice A' (P.length + 1) cap')) B R u' (P ++ [(a, s)]) A' cap' ∧ Turn (RfB R A) w (w'.setCell ⟨R, 4, none⟩ (.slice A' (P.length + 1) cap')) ∧ (∀ k, RfB R A' k → RfB R A k ∨ w.heap.size ≤ k) ∧ ∀ k, k < w.heap.size → ¬ RfB R A k → w'.heap[k]? = w.heap[k]? := by
  obtain ⟨i0, hi0, hz0, hz1, hz2⟩ := info_parts Heard_info
  have hbl : Below w.heap.size w ((w.alloc (.cells #[.int .i64 a, .int .i64 s] 33)).drew) := ((Below.refl _ w).alloc (Nat.le_refl _) _).drew
  have hsz : ((w.alloc (.cells #[.int .i64 a, .int .i64 s] 33)).drew).heap.size = w.heap.size + 1 := size_alloc _ _
  obtain ⟨W, hW⟩ : ∃ W, W = (w.alloc (.cells #[.int .i64 a, .int .i64 s] 33)).drew := ⟨_, rfl⟩
  have hnew : W.heap[w.heap.size]? = some (.cells #[.int .i64 a, .int .i64 s] 33 (0, 0)) := by rw [hW]; exact heap_alloc_new w _
  rw [← hW] at hbl hsz ⊢
  have hO := h.below hbl
  obtain ⟨v', w', hrun, hown, hg, -, hblk⟩ := run_append_own_at W (P := Tryd.prog) B 22 22 33 i0 _ 2 16 Tryd.underlying22 hi0 hz0 hz1 hz2 rfl (by decide) (.slice A P.length cap) P.length ((flatS P).map (Value.int .i64)) hO.own ⟨w.heap.size, 0, none⟩ 1 1 [.int .i64 a, .int .i64 s] rfl (fun j u hj => by
    have e : (⟨w.heap.size, 0, none⟩ : Addr).add j = ⟨w.heap.size, j, none⟩ := by
      unfold Addr.add
      by_cases h0 : j = 0
      · subst h0; rfl
      · simp [h0]
    rw [e, cellOf hnew]
    simpa using hj) (fun u hu => by
    simp at hu
    rcases hu with rfl | rfl <;> rfl) (by unfold maxLen; omega) (by omega) (by omega)
  have hshape : ∃ A' cap', v' = .slice A' (P.length + 1) cap' := by
    obtain ⟨h1, h2⟩ := hown
    rcases h2 with ⟨h2, h0⟩ | ⟨g, cap', cur, h2, _⟩
    · exfalso
      have : P.length + 1 = 0 := h0
      omega
    · exact ⟨_, _, h2⟩
  obtain ⟨A', cap', rfl⟩ := hshape
  have hRs : R < W.heap.size := heap_lt hO.cells
  have hRw : R < w.heap.size := heap_lt h.cells
  have hcR : w'.heap[R]? = some (.cells #[.int .i64 t.need, .int .i64 t.win, .int .i64 t.keep, .int .i64 t.now, .slice A P.length cap] 31 (0, 0)) := (hg.block R hRs (fun e => hO.apart R e.symm rfl)).trans hO.cells
  have hblkR : ∀ k, (Value.slice A' (P.length + 1) cap').ownBlock = some k → k ≠ R := fun k hk e => by
    rcases hblk with hblk | hblk
    · rw [hblk] at hk; exact hO.apart k hk e
    · rw [hblk] at hk
      have := Option.some.inj hk
      omega
  have hnewb : ∀ k, RfB R A' k → RfB R A k ∨ w.heap.size ≤ k := fun k hk => by
    rcases (RfB.iff (n := P.length + 1) (cap := cap')).1 hk with rfl | hk
    · exact .inl (.inl rfl)
    · rcases hblk with hblk | hblk
      · rw [hblk] at hk; exact .inl (RfB.own hk)
      · rw [hblk] at hk
        have := Option.some.inj hk
        exact .inr (by omega)
  refine ⟨A', cap', w', hrun, cellOf hcR, frozenOf hcR, ⟨?_, ?_, h.hB, hi, hok, by rw [List.length_append]; simp; omega⟩, ?_, hnewb, fun k hk hn => (hg.block k (by omega) (fun e => hn (RfB.own e.symm))).trans (hbl.block k hk)⟩
  · rw [setCell_cells hcR, e1, e2, e3, e4, List.length_append]
    rfl
  · obtain ⟨h1, h2⟩ := hown
    have ef : (flatS (P ++ [(a, s)])).map (Value.int .i64) = (flatS P).map (Value.int .i64) ++ [.int .i64 a, .int .i64 s] := by rw [flatS_snoc]; simp
    rw [ef, List.length_append]
    refine ⟨h1, ?_⟩
    rcases h2 with h2 | ⟨g, cap'', cur, h2, h3, h4, h5⟩
    · exact .inl h2
    · exact .inr ⟨g, cap'', cur, h2, h3, (Below.heap_setCell _ _ _ _ (hblkR g (by rw [h2]; rfl))).trans h4, h5⟩
  · have hT1 : Turn (RfB R A) w W := Turn.ofBelow hbl
    have hT2 : Turn (RfB R A) W w' := (Turn.refl (RfB R A) W).grown hg fun k hk => .inl (RfB.own hk)
    exact (hT1.trans hT2 (fun _ h => .inl h)).setCell (p := ⟨R, 4, none⟩) (.inl (.inl rfl)) _
set_option maxRecDepth 100000 in
set_option maxHeartbeats 4000000 in
theorem refHear12 {w : World} {B R cap : Nat} {A : Option Addr} {t : Ts} {P : List (Int × Int)} (h : RfO w B R t P A cap) (hl : P.length < 1000) (hBw : B ≤ w.heap.size) (a s : Int) : Calls Tryd.prog 12 #[.pointer (some ⟨R, 0, none⟩), .agg #[.int .i64 a, .int .i64 s]] w fun e w' => e = .returned (.int .i64 (hearE t a s)) ∧ RfT w w' B R (hearT t a s) (histP t a s P) A := by
  have HO := Lib.hid h
  have hb1 := below_alloc1 w (.cells #[.int .i64 a, .int .i64 s] 33)
  have r3 : (w.alloc (.cells #[.int .i64 a, .int .i64 s] 33)).cell? ⟨R, 3, none⟩ = some (.int .i64 t.now) := (h.below hb1).ref.c3
  have rf : (w.alloc (.cells #[.int .i64 a, .int .i64 s] 33)).frozen? ⟨R, 3, none⟩ = false := frozenOf (h.below hb1).cells
  have hRl := h.ref.lt
  cases q1 : decide (a < 0) with
  | true =>
    have HE : Hid (hearE t a s = 1 ∧ hearT t a s = t ∧ histP t a s P = P) := Lib.hid (by
      have g := of_decide_eq_true q1
      have e : hearE t a s = 1 := by unfold hearE; rw [if_pos (.inl g)]
      exact ⟨e, by unfold hearT; rw [if_pos (.inl g)], by unfold histP; rw [e]; rfl⟩)
    clear h
    go_enter Tryd.func12, Tryd.ntmps12
    go_wp2_with fail
    go_ret
    rw [HE.out.1, HE.out.2.1, HE.out.2.2]
    exact ⟨rfl, RfT.refl (HO.out.below hb1) (Turn.ofBelow (hb1))⟩
  | false =>
    cases q2 : decide (16777215 < a) with
    | true =>
      have HE : Hid (hearE t a s = 1 ∧ hearT t a s = t ∧ histP t a s P = P) := Lib.hid (by
        have g := of_decide_eq_true q2
        have e : hearE t a s = 1 := by unfold hearE; rw [if_pos (.inr g)]
        exact ⟨e, by unfold hearT; rw [if_pos (.inr g)], by unfold histP; rw [e]; rfl⟩)
      clear h
      go_enter Tryd.func12, Tryd.ntmps12
      go_wp2_with fail
      go_ret
      rw [HE.out.1, HE.out.2.1, HE.out.2.2]
      exact ⟨rfl, RfT.refl (HO.out.below hb1) (Turn.ofBelow (hb1))⟩
    | false =>
      have ga : ¬ (a < 0 ∨ 16777215 < a) := by
        have := of_decide_eq_false q1; have := of_decide_eq_false q2; omega
      have hbad : ∀ {c : Int}, tickE t s = c → c ≠ 0 → hearE t a s = c ∧ hearT t a s = t ∧ histP t a s P = P := fun {c} e hc => by
        have e1 : hearE t a s = c := by unfold hearE; rw [if_neg ga, if_pos (by rw [e]; exact hc), e]
        exact ⟨e1, by unfold hearT; rw [if_neg ga, if_pos (by rw [e]; exact hc)], by unfold histP; rw [e1, if_neg hc]⟩
      cases q3 : decide (s < 0) with
      | true =>
        have HE := Lib.hid (hbad (c := 1) (by unfold tickE; rw [if_pos (.inl (of_decide_eq_true q3))]) (by decide))
        clear h hbad ga
        go_enter Tryd.func12, Tryd.ntmps12
        go_wp2_with fail
        go_ret
        rw [HE.out.1, HE.out.2.1, HE.out.2.2]
        exact ⟨rfl, RfT.refl (HO.out.below hb1) (Turn.ofBelow (hb1))⟩
      | false =>
        cases q4 : decide (1073741824 < s) with
        | true =>
          have HE := Lib.hid (hbad (c := 1) (by unfold tickE; rw [if_pos (.inr (of_decide_eq_true q4))]) (by decide))
          clear h hbad ga
          go_enter Tryd.func12, Tryd.ntmps12
          go_wp2_with fail
          go_ret
          rw [HE.out.1, HE.out.2.1, HE.out.2.2]
          exact ⟨rfl, RfT.refl (HO.out.below hb1) (Turn.ofBelow (hb1))⟩
        | false =>
          have g1 : ¬ (s < 0 ∨ 1073741824 < s) := by
            have := of_decide_eq_false q3; have := of_decide_eq_false q4; omega
          cases q5 : decide (s < t.now) with
          | true =>
            have HE := Lib.hid (hbad (c := 12) (by unfold tickE; rw [if_neg g1, if_pos (of_decide_eq_true q5)]) (by decide))
            clear h hbad ga g1
            go_enter Tryd.func12, Tryd.ntmps12
            go_wp2_with fail
            go_quiet (fail)
            go_wp2_with fail
            go_ret
            rw [HE.out.1, HE.out.2.1, HE.out.2.2]
            exact ⟨rfl, RfT.refl ((HO.out.below hb1).below (below_drewN (Below.refl _ _) _)) (Turn.ofBelow ((below_drewN hb1 _)))⟩
          | false =>
            have hE : tickE t s = 0 := by unfold tickE; rw [if_neg g1, if_neg (of_decide_eq_false q5)]
            obtain ⟨z1, z2, z3⟩ := tickE_ok hE
            have HADV : Hid (InvT (advT t s) P ∧ Ok (advT t s)) := Lib.hid ⟨h.inv.adv h.ok z1, h.ok.adv z1 z3⟩
            have HHE : Hid (hearE t a s = (if lookT a (advT t s).es = none ∧ 64 ≤ (advT t s).es.length then 17 else 0) ∧ hearT t a s = (if lookT a (advT t s).es = none ∧ 64 ≤ (advT t s).es.length then advT t s else heardT (advT t s) a s)) := Lib.hid ⟨by unfold hearE; rw [if_neg ga, if_neg (by rw [hE]; decide)], by unfold hearT; rw [if_neg ga, if_neg (by rw [hE]; decide)]⟩
            clear h hbad g1 hE z1
            go_enter Tryd.func12, Tryd.ntmps12
            go_wp2_with fail
            go_quiet (fail)
            go_wp2_with fail
            obtain ⟨W, hW⟩ : ∃ W, W = ((w.alloc (.cells #[.int .i64 a, .int .i64 s] 33)).drewN nq).setCell ⟨R, 3, none⟩ (.int .i64 s) := ⟨_, rfl⟩
            obtain ⟨u, hu⟩ : ∃ u, u = advT t s := ⟨_, rfl⟩
            have hW1 : Below w.heap.size w ((w.alloc (.cells #[.int .i64 a, .int .i64 s] 33)).drewN nq) := below_drewN hb1 _
            have hoW : RfO W B R u P A cap := by
              rw [hW, hu]
              exact (HO.out.below hW1).time rfl rfl rfl rfl HADV.out.1 HADV.out.2
            have htW : Turn (RfB R A) w W := by
              rw [hW]
              exact (Turn.ofBelow hW1).setCell (p := ⟨R, 3, none⟩) (.inl (.inl rfl)) _
            have hhW : W.heap[w.heap.size]? = some (.cells #[.int .i64 a, .int .i64 s] 33 (0, 0)) := by
              rw [hW]
              exact (Below.heap_setCell _ _ _ _ (Nat.ne_of_gt hRl)).trans (heap_alloc_new w _)
            rw [← hW]
            rw [← hu] at HHE HADV
            have hun : u.now = s := by rw [hu]; rfl
            have HOW := Lib.hid hoW
            have HTW := Lib.hid htW
            have HHW := Lib.hid hhW
            have HUN := Lib.hid hun
            have HGA : Hid (0 ≤ a ∧ a ≤ 16777215) := Lib.hid (by omega)
            have hsW := heap_lt hhW
            clear hW hu hW1 hoW htW hhW hun r3 rf hb1 ga
            refine (known29 HOW.out.ref HOW.out.refB a).mono ?_
            rintro e w1 ⟨rfl, hb1⟩
            have HO1 := Lib.hid (HOW.out.below hb1)
            have HT1 := Lib.hid (HTW.out.trans (Turn.ofBelow (O := RfB R A) hb1) (fun _ h => .inl h))
            have HH1 := Lib.hid ((hb1.block _ hsW).trans HHW.out)
            have h1a : w1.cell? ⟨w.heap.size, 0, none⟩ = some (.int .i64 a) := cellOf HH1.out
            have hs1 := heap_lt HH1.out
            clear hb1
            cases hk : knownF P u.need u.win u.keep u.now a with
            | true =>
              have HN : Hid (¬ lookT a u.es = none) := Lib.hid (fun g => by
                have := ((full_eq HADV.out.1 HADV.out.2 a).2 g).1
                rw [hk] at this; cases this)
              clear hk
              go_wp2_with fail
              obtain ⟨z, hz⟩ : ∃ z, z = w1 := ⟨_, rfl⟩
              rw [← hz] at HO1 HT1 HH1 h1a hs1 ⊢
              clear hz
              have HNN : Hid (¬ (lookT a u.es = none ∧ 64 ≤ u.es.length)) := Lib.hid (fun g => HN.out g.1)
              have hEE := HHE.out
              rw [if_neg HNN.out, if_neg HNN.out] at hEE
              have hH : histP t a s P = P ++ [(a, s)] := by unfold histP; rw [hEE.1]; rfl
              have hInv := InvT.heard HADV.out.1 HADV.out.2 HGA.out.1 HGA.out.2
              have hOk := HADV.out.2.heard HGA.out.1 HGA.out.2 HNN.out
              rw [HUN.out] at hInv hOk
              have hBz : B ≤ z.heap.size := by omega
              obtain ⟨A', cap', w', hrun, x4, xf, hO', hT', hblk, hold⟩ := HO1.out.push hl hBz a s (u' := heardT u a s) rfl rfl rfl rfl hInv hOk
              have HFIN : Hid (RfT w (w'.setCell ⟨R, 4, none⟩ (.slice A' (P.length + 1) cap')) B R (hearT t a s) (histP t a s P) A) := Lib.hid (by rw [hEE.2, hH]; exact ⟨A', cap', hO', HT1.out.trans hT' (fun _ h => .inl h), fun k hk => (hblk k hk).imp id (fun h => by omega)⟩)
              have HE0 := Lib.hid hEE.1
              have hS0 : z.drew.heap[w.heap.size]? = some (.cells #[.int .i64 a, .int .i64 s] 33 (0, 0)) := HH1.out
              have x41 : z.drew.cell? ⟨R, 4, none⟩ = some (.slice A P.length cap) := HO1.out.ref.c4
              have x42 : ((z.alloc (.cells #[.int .i64 a, .int .i64 s] 33)).drew).cell? ⟨R, 4, none⟩ = some (.slice A P.length cap) := (HO1.out.below (below_alloc1 z _)).ref.c4
              have HAL : Hid (((z.alloc (.cells #[.int .i64 a, .int .i64 s] 33)).drew).heap[w.heap.size]? = some (.cells #[.int .i64 a, .int .i64 s] 33 (0, 0))) := Lib.hid ((Below.heap_alloc _ _ _ (heap_lt hS0)).trans hS0)
              have hqR : w.heap.size ≠ R := Nat.ne_of_gt hRl
              have HQ : Hid (w'.heap[w.heap.size]? = some (.cells #[.int .i64 a, .int .i64 s] 33 (0, 0))) := Lib.hid ((hold _ hs1 (fun g => by have := (HO.out.lt _ g).2; omega)).trans HH1.out)
              clear hEE hH hInv hOk hO' hT' hblk HHE hold
              refine wp_region_held_drew (S := fun w' => w'.heap[w.heap.size]? = some (.cells #[.int .i64 a, .int .i64 s] 33 (0, 0))) (by kernel_rfl) (hS0) (fun hS => ?_)
              refine wpAnyH_take (i := 0) (v := ?vPa1) rfl (by kernel_rfl) (by kernel_rfl) (by kernel_rfl) (fun _ _ _ h => h) (Or.inl ⟨by rfl, ?hPa1⟩) hS ?rPa1
              case hPa1 =>
                intro w1 hSw
                clear hSw
                go_simp
                try with_reducible rfl
              (try go_frame)
              refine wpAnyH_take (i := 1) (v := ?vPa2) rfl (by kernel_rfl) (by kernel_rfl) (by kernel_rfl) (fun _ _ _ h => h) (Or.inl ⟨by rfl, ?hPa2⟩) hS ?rPa2
              case hPa2 =>
                intro w1 hSw
                clear hSw
                go_simp
                try with_reducible rfl
              (try go_frame)
              refine wpAnyH_take (i := 2) (v := ?vPa3) rfl (by kernel_rfl) (by kernel_rfl) (by kernel_rfl) (fun _ _ _ h => h) (Or.inl ⟨by rfl, ?hPa3⟩) hS ?rPa3
              case hPa3 =>
                intro w1 hSw
                clear hSw
                go_simp
                try with_reducible rfl
              (try go_frame)
              refine wpAnyH_take (i := 3) (v := ?vPa4) rfl (by kernel_rfl) (by kernel_rfl) (by kernel_rfl) (fun _ _ _ h => h) (Or.inl ⟨by rfl, ?hPa4⟩) hS ?rPa4
              case hPa4 =>
                intro w1 hSw
                clear hSw
                go_simp
                try with_reducible rfl
              (try go_frame)
              refine wpAnyH_take (i := 5) (v := ?vPa5) rfl (by kernel_rfl) (by kernel_rfl) (by kernel_rfl) (fun _ _ _ h => h) (Or.inl ⟨by rfl, ?hPa5⟩) hS ?rPa5
              case hPa5 =>
                intro w1 hSw
                have d1 : w1.cell? ⟨w.heap.size, 0, none⟩ = some (.int .i64 a) := cellOf hSw
                have d2 : w1.cell? ⟨w.heap.size, 1, none⟩ = some (.int .i64 s) := cellOf hSw
                clear hSw
                go_simp
                try with_reducible rfl
              (try go_frame)
              refine wpAnyH_ready (rs := [4, 6]) (by kernel_rfl) (by simp) (AllReadyH.cons rfl (fun K hK => ?aPa6) (AllReadyH.cons rfl (fun K hK => ?bPa6) AllReadyH.nil))
              case aPa6 =>
                go_simp
                refine hK.out _ _ (hS) (fun hS => ?_)
                clear hK K
                refine wpAnyH_ready (rs := [6]) (by kernel_rfl) (by simp) (AllReadyH.cons rfl (fun K hK => ?_) AllReadyH.nil)
                go_simp
                refine hK.out _ _ (HAL.out) (fun hS => ?_)
                clear hK K
                refine wpAnyH_ready (rs := [7]) (by kernel_rfl) (by simp) (AllReadyH.cons rfl (fun K hK => ?_) AllReadyH.nil)
                rw [if_pos (by kernel_rfl)]
                refine wp_run_append _ _ 22 rfl _ _ rfl rfl _ w' hrun ?_
                refine hK.out _ _ HQ.out (fun hS => ?_)
                clear hK K
                refine wpAnyH_ready (rs := [8]) (by kernel_rfl) (by simp) (AllReadyH.cons rfl (fun K hK => ?_) AllReadyH.nil)
                go_simp
                refine hK.out _ _ (hS) (fun hS => ?_)
                clear hK K
                refine wpAnyH_ready (rs := [9]) (by kernel_rfl) (by simp) (AllReadyH.cons rfl (fun K hK => ?_) AllReadyH.nil)
                go_simp
                refine hK.out _ _ (hS) (fun hS => ?_)
                clear hK K
                refine wpAnyH_ready (rs := [10]) (by kernel_rfl) (by simp) (AllReadyH.cons rfl (fun K hK => ?_) AllReadyH.nil)
                go_simp
                refine hK.out _ _ ((Below.heap_setCell _ _ _ _ hqR).trans hS) (fun hS => ?_)
                clear hK K
                refine wpAnyH_done (by kernel_rfl) ?_ _
                go_wp2_with fail
                go_ret
                exact ⟨by rw [HE0.out]; rfl, HFIN.out⟩
              case bPa6 =>
                go_simp
                refine hK.out _ _ (HAL.out) (fun hS => ?_)
                clear hK K
                refine wpAnyH_ready (rs := [4]) (by kernel_rfl) (by simp) (AllReadyH.cons rfl (fun K hK => ?_) AllReadyH.nil)
                go_simp
                refine hK.out _ _ (hS) (fun hS => ?_)
                clear hK K
                refine wpAnyH_ready (rs := [7]) (by kernel_rfl) (by simp) (AllReadyH.cons rfl (fun K hK => ?_) AllReadyH.nil)
                rw [if_pos (by kernel_rfl)]
                refine wp_run_append _ _ 22 rfl _ _ rfl rfl _ w' hrun ?_
                refine hK.out _ _ HQ.out (fun hS => ?_)
                clear hK K
                refine wpAnyH_ready (rs := [8]) (by kernel_rfl) (by simp) (AllReadyH.cons rfl (fun K hK => ?_) AllReadyH.nil)
                go_simp
                refine hK.out _ _ (hS) (fun hS => ?_)
                clear hK K
                refine wpAnyH_ready (rs := [9]) (by kernel_rfl) (by simp) (AllReadyH.cons rfl (fun K hK => ?_) AllReadyH.nil)
                go_simp
                refine hK.out _ _ (hS) (fun hS => ?_)
                clear hK K
                refine wpAnyH_ready (rs := [10]) (by kernel_rfl) (by simp) (AllReadyH.cons rfl (fun K hK => ?_) AllReadyH.nil)
                go_simp
                refine hK.out _ _ ((Below.heap_setCell _ _ _ _ hqR).trans hS) (fun hS => ?_)
                clear hK K
                refine wpAnyH_done (by kernel_rfl) ?_ _
                go_wp2_with fail
                go_ret
                exact ⟨by rw [HE0.out]; rfl, HFIN.out⟩
            | false =>
              go_wp2_with fail
              refine (pending30 HO1.out.ref HO1.out.refB a).mono ?_
              rintro e w2 ⟨rfl, hb2⟩
              have HO2 := Lib.hid (HO1.out.below hb2)
              have HT2 := Lib.hid (HT1.out.trans (Turn.ofBelow (O := RfB R A) hb2) (fun _ h => .inl h))
              have HH2 := Lib.hid ((hb2.block _ hs1).trans HH1.out)
              have hs2 := heap_lt HH2.out
              clear hb2 h1a
              cases hp : pendF P u.need u.win u.keep u.now a with
              | true =>
                have HN : Hid (¬ lookT a u.es = none) := Lib.hid (fun g => by
                  have := ((full_eq HADV.out.1 HADV.out.2 a).2 g).2
                  rw [hp] at this; cases this)
                clear hk hp
                go_wp2_with fail
                obtain ⟨z, hz⟩ : ∃ z, z = w2 := ⟨_, rfl⟩
                rw [← hz] at HO2 HT2 HH2 hs2 ⊢
                clear hz
                have HNN : Hid (¬ (lookT a u.es = none ∧ 64 ≤ u.es.length)) := Lib.hid (fun g => HN.out g.1)
                have hEE := HHE.out
                rw [if_neg HNN.out, if_neg HNN.out] at hEE
                have hH : histP t a s P = P ++ [(a, s)] := by unfold histP; rw [hEE.1]; rfl
                have hInv := InvT.heard HADV.out.1 HADV.out.2 HGA.out.1 HGA.out.2
                have hOk := HADV.out.2.heard HGA.out.1 HGA.out.2 HNN.out
                rw [HUN.out] at hInv hOk
                have hBz : B ≤ z.heap.size := by omega
                obtain ⟨A', cap', w', hrun, x4, xf, hO', hT', hblk, hold⟩ := HO2.out.push hl hBz a s (u' := heardT u a s) rfl rfl rfl rfl hInv hOk
                have HFIN : Hid (RfT w (w'.setCell ⟨R, 4, none⟩ (.slice A' (P.length + 1) cap')) B R (hearT t a s) (histP t a s P) A) := Lib.hid (by rw [hEE.2, hH]; exact ⟨A', cap', hO', HT2.out.trans hT' (fun _ h => .inl h), fun k hk => (hblk k hk).imp id (fun h => by omega)⟩)
                have HE0 := Lib.hid hEE.1
                have hS0 : z.drew.heap[w.heap.size]? = some (.cells #[.int .i64 a, .int .i64 s] 33 (0, 0)) := HH2.out
                have x41 : z.drew.cell? ⟨R, 4, none⟩ = some (.slice A P.length cap) := HO2.out.ref.c4
                have x42 : ((z.alloc (.cells #[.int .i64 a, .int .i64 s] 33)).drew).cell? ⟨R, 4, none⟩ = some (.slice A P.length cap) := (HO2.out.below (below_alloc1 z _)).ref.c4
                have HAL : Hid (((z.alloc (.cells #[.int .i64 a, .int .i64 s] 33)).drew).heap[w.heap.size]? = some (.cells #[.int .i64 a, .int .i64 s] 33 (0, 0))) := Lib.hid ((Below.heap_alloc _ _ _ (heap_lt hS0)).trans hS0)
                have hqR : w.heap.size ≠ R := Nat.ne_of_gt hRl
                have HQ : Hid (w'.heap[w.heap.size]? = some (.cells #[.int .i64 a, .int .i64 s] 33 (0, 0))) := Lib.hid ((hold _ hs2 (fun g => by have := (HO.out.lt _ g).2; omega)).trans HH2.out)
                clear hEE hH hInv hOk hO' hT' hblk HHE hold
                refine wp_region_held_drew (S := fun w' => w'.heap[w.heap.size]? = some (.cells #[.int .i64 a, .int .i64 s] 33 (0, 0))) (by kernel_rfl) (hS0) (fun hS => ?_)
                refine wpAnyH_take (i := 0) (v := ?vPb1) rfl (by kernel_rfl) (by kernel_rfl) (by kernel_rfl) (fun _ _ _ h => h) (Or.inl ⟨by rfl, ?hPb1⟩) hS ?rPb1
                case hPb1 =>
                  intro w1 hSw
                  clear hSw
                  go_simp
                  try with_reducible rfl
                (try go_frame)
                refine wpAnyH_take (i := 1) (v := ?vPb2) rfl (by kernel_rfl) (by kernel_rfl) (by kernel_rfl) (fun _ _ _ h => h) (Or.inl ⟨by rfl, ?hPb2⟩) hS ?rPb2
                case hPb2 =>
                  intro w1 hSw
                  clear hSw
                  go_simp
                  try with_reducible rfl
                (try go_frame)
                refine wpAnyH_take (i := 2) (v := ?vPb3) rfl (by kernel_rfl) (by kernel_rfl) (by kernel_rfl) (fun _ _ _ h => h) (Or.inl ⟨by rfl, ?hPb3⟩) hS ?rPb3
                case hPb3 =>
                  intro w1 hSw
                  clear hSw
                  go_simp
                  try with_reducible rfl
                (try go_frame)
                refine wpAnyH_take (i := 3) (v := ?vPb4) rfl (by kernel_rfl) (by kernel_rfl) (by kernel_rfl) (fun _ _ _ h => h) (Or.inl ⟨by rfl, ?hPb4⟩) hS ?rPb4
                case hPb4 =>
                  intro w1 hSw
                  clear hSw
                  go_simp
                  try with_reducible rfl
                (try go_frame)
                refine wpAnyH_take (i := 5) (v := ?vPb5) rfl (by kernel_rfl) (by kernel_rfl) (by kernel_rfl) (fun _ _ _ h => h) (Or.inl ⟨by rfl, ?hPb5⟩) hS ?rPb5
                case hPb5 =>
                  intro w1 hSw
                  have d1 : w1.cell? ⟨w.heap.size, 0, none⟩ = some (.int .i64 a) := cellOf hSw
                  have d2 : w1.cell? ⟨w.heap.size, 1, none⟩ = some (.int .i64 s) := cellOf hSw
                  clear hSw
                  go_simp
                  try with_reducible rfl
                (try go_frame)
                refine wpAnyH_ready (rs := [4, 6]) (by kernel_rfl) (by simp) (AllReadyH.cons rfl (fun K hK => ?aPb6) (AllReadyH.cons rfl (fun K hK => ?bPb6) AllReadyH.nil))
                case aPb6 =>
                  go_simp
                  refine hK.out _ _ (hS) (fun hS => ?_)
                  clear hK K
                  refine wpAnyH_ready (rs := [6]) (by kernel_rfl) (by simp) (AllReadyH.cons rfl (fun K hK => ?_) AllReadyH.nil)
                  go_simp
                  refine hK.out _ _ (HAL.out) (fun hS => ?_)
                  clear hK K
                  refine wpAnyH_ready (rs := [7]) (by kernel_rfl) (by simp) (AllReadyH.cons rfl (fun K hK => ?_) AllReadyH.nil)
                  rw [if_pos (by kernel_rfl)]
                  refine wp_run_append _ _ 22 rfl _ _ rfl rfl _ w' hrun ?_
                  refine hK.out _ _ HQ.out (fun hS => ?_)
                  clear hK K
                  refine wpAnyH_ready (rs := [8]) (by kernel_rfl) (by simp) (AllReadyH.cons rfl (fun K hK => ?_) AllReadyH.nil)
                  go_simp
                  refine hK.out _ _ (hS) (fun hS => ?_)
                  clear hK K
                  refine wpAnyH_ready (rs := [9]) (by kernel_rfl) (by simp) (AllReadyH.cons rfl (fun K hK => ?_) AllReadyH.nil)
                  go_simp
                  refine hK.out _ _ (hS) (fun hS => ?_)
                  clear hK K
                  refine wpAnyH_ready (rs := [10]) (by kernel_rfl) (by simp) (AllReadyH.cons rfl (fun K hK => ?_) AllReadyH.nil)
                  go_simp
                  refine hK.out _ _ ((Below.heap_setCell _ _ _ _ hqR).trans hS) (fun hS => ?_)
                  clear hK K
                  refine wpAnyH_done (by kernel_rfl) ?_ _
                  go_wp2_with fail
                  go_ret
                  exact ⟨by rw [HE0.out]; rfl, HFIN.out⟩
                case bPb6 =>
                  go_simp
                  refine hK.out _ _ (HAL.out) (fun hS => ?_)
                  clear hK K
                  refine wpAnyH_ready (rs := [4]) (by kernel_rfl) (by simp) (AllReadyH.cons rfl (fun K hK => ?_) AllReadyH.nil)
                  go_simp
                  refine hK.out _ _ (hS) (fun hS => ?_)
                  clear hK K
                  refine wpAnyH_ready (rs := [7]) (by kernel_rfl) (by simp) (AllReadyH.cons rfl (fun K hK => ?_) AllReadyH.nil)
                  rw [if_pos (by kernel_rfl)]
                  refine wp_run_append _ _ 22 rfl _ _ rfl rfl _ w' hrun ?_
                  refine hK.out _ _ HQ.out (fun hS => ?_)
                  clear hK K
                  refine wpAnyH_ready (rs := [8]) (by kernel_rfl) (by simp) (AllReadyH.cons rfl (fun K hK => ?_) AllReadyH.nil)
                  go_simp
                  refine hK.out _ _ (hS) (fun hS => ?_)
                  clear hK K
                  refine wpAnyH_ready (rs := [9]) (by kernel_rfl) (by simp) (AllReadyH.cons rfl (fun K hK => ?_) AllReadyH.nil)
                  go_simp
                  refine hK.out _ _ (hS) (fun hS => ?_)
                  clear hK K
                  refine wpAnyH_ready (rs := [10]) (by kernel_rfl) (by simp) (AllReadyH.cons rfl (fun K hK => ?_) AllReadyH.nil)
                  go_simp
                  refine hK.out _ _ ((Below.heap_setCell _ _ _ _ hqR).trans hS) (fun hS => ?_)
                  clear hK K
                  refine wpAnyH_done (by kernel_rfl) ?_ _
                  go_wp2_with fail
                  go_ret
                  exact ⟨by rw [HE0.out]; rfl, HFIN.out⟩
              | false =>
                have HN : Hid (lookT a u.es = none) := Lib.hid ((full_eq HADV.out.1 HADV.out.2 a).1 ⟨hk, hp⟩)
                have hcount := addrs_count u
                have l1 : addrsF (fitF P u.need u.win u.keep u.now true) P (P.length + 1) (-1) = addrsT u true := addrs_eq HADV.out.1 HADV.out.2 true (Nat.lt_succ_self _)
                have l2 : addrsF (fitF P u.need u.win u.keep u.now false) P (P.length + 1) (-1) = addrsT u false := addrs_eq HADV.out.1 HADV.out.2 false (Nat.lt_succ_self _)
                have hle := HADV.out.2.len
                obtain ⟨n1, hn1⟩ : ∃ n, n = (addrsT u true).length := ⟨_, rfl⟩
                obtain ⟨n2, hn2⟩ : ∃ n, n = (addrsT u false).length := ⟨_, rfl⟩
                rw [← hn1, ← hn2] at hcount
                have HL := Lib.hid (And.intro (And.intro l1 l2) (And.intro hn1 hn2))
                have HCO := Lib.hid hcount
                have b1 : n1 ≤ 64 := by omega
                have b2 : n2 ≤ 64 := by omega
                clear hk hp l1 l2 hn1 hn2 hcount hle
                go_wp2_with fail
                refine (refKnown18 HO2.out.ref HO2.out.refB).mono ?_
                rintro e w3 ⟨A3, c3, rfl, -, -, hb3⟩
                rw [HL.out.1.1, ← HL.out.2.1]
                have HO3 := Lib.hid (HO2.out.below hb3)
                have HT3 := Lib.hid (HT2.out.trans (Turn.ofBelow (O := RfB R A) hb3) (fun _ h => .inl h))
                have HH3 := Lib.hid ((hb3.block _ hs2).trans HH2.out)
                have hs3 := heap_lt HH3.out
                clear hb3
                go_wp2_with fail
                refine (refPend19 HO3.out.ref HO3.out.refB).mono ?_
                rintro e w4 ⟨A4, c4, rfl, -, -, hb4⟩
                rw [HL.out.1.2, ← HL.out.2.2]
                have HO4 := Lib.hid (HO3.out.below hb4)
                have HT4 := Lib.hid (HT3.out.trans (Turn.ofBelow (O := RfB R A) hb4) (fun _ h => .inl h))
                have HH4 := Lib.hid ((hb4.block _ hs3).trans HH3.out)
                have hs4 := heap_lt HH4.out
                clear hb4
                cases q6 : decide (64 ≤ (n1 : Int) + (n2 : Int)) with
                | true =>
                  have hcond : lookT a u.es = none ∧ 64 ≤ u.es.length := ⟨HN.out, by have := HCO.out; have := of_decide_eq_true q6; omega⟩
                  have hEE := HHE.out
                  rw [if_pos hcond, if_pos hcond] at hEE
                  have HEE := Lib.hid hEE
                  clear hEE hcond
                  go_wp2_with fail
                  go_ret
                  rw [HEE.out.1, HEE.out.2]
                  exact ⟨rfl, by
                    have : histP t a s P = P := by unfold histP; rw [HEE.out.1]; rfl
                    rw [this]
                    exact RfT.refl HO4.out HT4.out⟩
                | false =>
                  have HNN : Hid (¬ (lookT a u.es = none ∧ 64 ≤ u.es.length)) := Lib.hid (fun g => by have := HCO.out; have := of_decide_eq_false q6; omega)
                  clear HN
                  go_wp2_with fail
                  obtain ⟨z, hz⟩ : ∃ z, z = w4 := ⟨_, rfl⟩
                  rw [← hz] at HO4 HT4 HH4 hs4 ⊢
                  clear hz
                  have hEE := HHE.out
                  rw [if_neg HNN.out, if_neg HNN.out] at hEE
                  have hH : histP t a s P = P ++ [(a, s)] := by unfold histP; rw [hEE.1]; rfl
                  have hInv := InvT.heard HADV.out.1 HADV.out.2 HGA.out.1 HGA.out.2
                  have hOk := HADV.out.2.heard HGA.out.1 HGA.out.2 HNN.out
                  rw [HUN.out] at hInv hOk
                  have hBz : B ≤ z.heap.size := by omega
                  obtain ⟨A', cap', w', hrun, x4, xf, hO', hT', hblk, hold⟩ := HO4.out.push hl hBz a s (u' := heardT u a s) rfl rfl rfl rfl hInv hOk
                  have HFIN : Hid (RfT w (w'.setCell ⟨R, 4, none⟩ (.slice A' (P.length + 1) cap')) B R (hearT t a s) (histP t a s P) A) := Lib.hid (by rw [hEE.2, hH]; exact ⟨A', cap', hO', HT4.out.trans hT' (fun _ h => .inl h), fun k hk => (hblk k hk).imp id (fun h => by omega)⟩)
                  have HE0 := Lib.hid hEE.1
                  have hS0 : z.drew.heap[w.heap.size]? = some (.cells #[.int .i64 a, .int .i64 s] 33 (0, 0)) := HH4.out
                  have x41 : z.drew.cell? ⟨R, 4, none⟩ = some (.slice A P.length cap) := HO4.out.ref.c4
                  have x42 : ((z.alloc (.cells #[.int .i64 a, .int .i64 s] 33)).drew).cell? ⟨R, 4, none⟩ = some (.slice A P.length cap) := (HO4.out.below (below_alloc1 z _)).ref.c4
                  have HAL : Hid (((z.alloc (.cells #[.int .i64 a, .int .i64 s] 33)).drew).heap[w.heap.size]? = some (.cells #[.int .i64 a, .int .i64 s] 33 (0, 0))) := Lib.hid ((Below.heap_alloc _ _ _ (heap_lt hS0)).trans hS0)
                  have hqR : w.heap.size ≠ R := Nat.ne_of_gt hRl
                  have HQ : Hid (w'.heap[w.heap.size]? = some (.cells #[.int .i64 a, .int .i64 s] 33 (0, 0))) := Lib.hid ((hold _ hs4 (fun g => by have := (HO.out.lt _ g).2; omega)).trans HH4.out)
                  clear hEE hH hInv hOk hO' hT' hblk HHE hold
                  refine wp_region_held_drew (S := fun w' => w'.heap[w.heap.size]? = some (.cells #[.int .i64 a, .int .i64 s] 33 (0, 0))) (by kernel_rfl) (hS0) (fun hS => ?_)
                  refine wpAnyH_take (i := 0) (v := ?vPc1) rfl (by kernel_rfl) (by kernel_rfl) (by kernel_rfl) (fun _ _ _ h => h) (Or.inl ⟨by rfl, ?hPc1⟩) hS ?rPc1
                  case hPc1 =>
                    intro w1 hSw
                    clear hSw
                    go_simp
                    try with_reducible rfl
                  (try go_frame)
                  refine wpAnyH_take (i := 1) (v := ?vPc2) rfl (by kernel_rfl) (by kernel_rfl) (by kernel_rfl) (fun _ _ _ h => h) (Or.inl ⟨by rfl, ?hPc2⟩) hS ?rPc2
                  case hPc2 =>
                    intro w1 hSw
                    clear hSw
                    go_simp
                    try with_reducible rfl
                  (try go_frame)
                  refine wpAnyH_take (i := 2) (v := ?vPc3) rfl (by kernel_rfl) (by kernel_rfl) (by kernel_rfl) (fun _ _ _ h => h) (Or.inl ⟨by rfl, ?hPc3⟩) hS ?rPc3
                  case hPc3 =>
                    intro w1 hSw
                    clear hSw
                    go_simp
                    try with_reducible rfl
                  (try go_frame)
                  refine wpAnyH_take (i := 3) (v := ?vPc4) rfl (by kernel_rfl) (by kernel_rfl) (by kernel_rfl) (fun _ _ _ h => h) (Or.inl ⟨by rfl, ?hPc4⟩) hS ?rPc4
                  case hPc4 =>
                    intro w1 hSw
                    clear hSw
                    go_simp
                    try with_reducible rfl
                  (try go_frame)
                  refine wpAnyH_take (i := 5) (v := ?vPc5) rfl (by kernel_rfl) (by kernel_rfl) (by kernel_rfl) (fun _ _ _ h => h) (Or.inl ⟨by rfl, ?hPc5⟩) hS ?rPc5
                  case hPc5 =>
                    intro w1 hSw
                    have d1 : w1.cell? ⟨w.heap.size, 0, none⟩ = some (.int .i64 a) := cellOf hSw
                    have d2 : w1.cell? ⟨w.heap.size, 1, none⟩ = some (.int .i64 s) := cellOf hSw
                    clear hSw
                    go_simp
                    try with_reducible rfl
                  (try go_frame)
                  refine wpAnyH_ready (rs := [4, 6]) (by kernel_rfl) (by simp) (AllReadyH.cons rfl (fun K hK => ?aPc6) (AllReadyH.cons rfl (fun K hK => ?bPc6) AllReadyH.nil))
                  case aPc6 =>
                    go_simp
                    refine hK.out _ _ (hS) (fun hS => ?_)
                    clear hK K
                    refine wpAnyH_ready (rs := [6]) (by kernel_rfl) (by simp) (AllReadyH.cons rfl (fun K hK => ?_) AllReadyH.nil)
                    go_simp
                    refine hK.out _ _ (HAL.out) (fun hS => ?_)
                    clear hK K
                    refine wpAnyH_ready (rs := [7]) (by kernel_rfl) (by simp) (AllReadyH.cons rfl (fun K hK => ?_) AllReadyH.nil)
                    rw [if_pos (by kernel_rfl)]
                    refine wp_run_append _ _ 22 rfl _ _ rfl rfl _ w' hrun ?_
                    refine hK.out _ _ HQ.out (fun hS => ?_)
                    clear hK K
                    refine wpAnyH_ready (rs := [8]) (by kernel_rfl) (by simp) (AllReadyH.cons rfl (fun K hK => ?_) AllReadyH.nil)
                    go_simp
                    refine hK.out _ _ (hS) (fun hS => ?_)
                    clear hK K
                    refine wpAnyH_ready (rs := [9]) (by kernel_rfl) (by simp) (AllReadyH.cons rfl (fun K hK => ?_) AllReadyH.nil)
                    go_simp
                    refine hK.out _ _ (hS) (fun hS => ?_)
                    clear hK K
                    refine wpAnyH_ready (rs := [10]) (by kernel_rfl) (by simp) (AllReadyH.cons rfl (fun K hK => ?_) AllReadyH.nil)
                    go_simp
                    refine hK.out _ _ ((Below.heap_setCell _ _ _ _ hqR).trans hS) (fun hS => ?_)
                    clear hK K
                    refine wpAnyH_done (by kernel_rfl) ?_ _
                    go_wp2_with fail
                    go_ret
                    exact ⟨by rw [HE0.out]; rfl, HFIN.out⟩
                  case bPc6 =>
                    go_simp
                    refine hK.out _ _ (HAL.out) (fun hS => ?_)
                    clear hK K
                    refine wpAnyH_ready (rs := [4]) (by kernel_rfl) (by simp) (AllReadyH.cons rfl (fun K hK => ?_) AllReadyH.nil)
                    go_simp
                    refine hK.out _ _ (hS) (fun hS => ?_)
                    clear hK K
                    refine wpAnyH_ready (rs := [7]) (by kernel_rfl) (by simp) (AllReadyH.cons rfl (fun K hK => ?_) AllReadyH.nil)
                    rw [if_pos (by kernel_rfl)]
                    refine wp_run_append _ _ 22 rfl _ _ rfl rfl _ w' hrun ?_
                    refine hK.out _ _ HQ.out (fun hS => ?_)
                    clear hK K
                    refine wpAnyH_ready (rs := [8]) (by kernel_rfl) (by simp) (AllReadyH.cons rfl (fun K hK => ?_) AllReadyH.nil)
                    go_simp
                    refine hK.out _ _ (hS) (fun hS => ?_)
                    clear hK K
                    refine wpAnyH_ready (rs := [9]) (by kernel_rfl) (by simp) (AllReadyH.cons rfl (fun K hK => ?_) AllReadyH.nil)
                    go_simp
                    refine hK.out _ _ (hS) (fun hS => ?_)
                    clear hK K
                    refine wpAnyH_ready (rs := [10]) (by kernel_rfl) (by simp) (AllReadyH.cons rfl (fun K hK => ?_) AllReadyH.nil)
                    go_simp
                    refine hK.out _ _ ((Below.heap_setCell _ _ _ _ hqR).trans hS) (fun hS => ?_)
                    clear hK K
                    refine wpAnyH_done (by kernel_rfl) ?_ _
                    go_wp2_with fail
                    go_ret
                    exact ⟨by rw [HE0.out]; rfl, HFIN.out⟩
end Go.Proofs.YtkikokldijccnaaDoor
