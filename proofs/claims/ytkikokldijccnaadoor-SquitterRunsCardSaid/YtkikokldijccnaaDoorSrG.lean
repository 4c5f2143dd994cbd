/- squitter: the table and the reference side by side. -/
import Derived.Test.YtkikokldijccnaaDoorRows
import Derived.WalkKit
import Derived.WalkLawsBesides
import Derived.WalkSpells
import Derived.ProofKit
import Derived.Below
import Derived.Outline
import Derived.Lib.Hide
import Derived.Deep.RegionWith
import Derived.Deep.RegionHeld3
import Derived.Deep.DrawnRows
import Derived.StillTailTactics
import Derived.BigQuiet
import Derived.Deep.QuietTactic
import Derived.Deep.LoopGhost
import Derived.IntWalk
import Derived.BigQuiet
import Derived.Test.YtkikokldijccnaaDoorSrF
import Derived.Test.YtkikokldijccnaaDoorKE
namespace Go.Proofs.YtkikokldijccnaaDoor
open Go.RowKit Go.Maps
attribute [local go_sem ↓] Go.wp_at_zero Go.wp_at_succ
attribute [local go_sem] wrap_lit
set_option maxHeartbeats 1000000 in
theorem overT (A : Option Addr) (cap : Nat) (xs : List Int) (B : Nat) (T : TypeId) (w : World) (hA : Own .i64 w B A T xs) (hl : xs.length ≤ 1000000) :
    Calls Tryd.prog 22 #[.slice A xs.length cap] w fun e w' => e = .returned (.tuple #[]) ∧ Turn (fun k => 0 < xs.length ∧ A = some ⟨k, 0, none⟩) w w' := by
  go_enter Tryd.func22, Tryd.ntmps22
  go_wp2_with fail
  go_loopw [2] (fun i wr => ∃ k : Nat, k ≤ xs.length ∧ i = .int .i64 k ∧ Turn (fun k => 0 < xs.length ∧ A = some ⟨k, 0, none⟩) w wr ∧ (0 < xs.length → ∃ g cs, A = some ⟨g, 0, none⟩ ∧ wr.heap[g]? = some (.cells cs T (0, 0)) ∧ xs.length ≤ cs.size)) (fun i _ => xs.length - (intOf i).toNat)
  case atStart =>
    refine ⟨0, Nat.zero_le _, rfl, Turn.refl _ _, fun hn => ?_⟩
    obtain ⟨g, cs, e1, e2, e3, e4⟩ := hA hn
    have := (Array.getElem?_eq_some_iff.1 (e4 (xs.length - 1) (by omega))).1
    exact ⟨g, cs, e1, e3, by omega⟩
  case round =>
    obtain ⟨k, hk, rfl, hb, hg⟩ := hrel
    have HB := Lib.hid hb
    clear hb
    by_cases hlt : k < xs.length
    · obtain ⟨g, cs, rfl, h2, h3⟩ := hg (by omega)
      obtain ⟨⟨u, c0⟩, p0⟩ := cell_in h2 (i := k) (by omega)
      have Hg := Lib.hid hg; clear hg
      have hlI : (k : Int) < (xs.length : Int) := by omega
      go_wp2_with fail
      exact ⟨⟨k + 1, by omega, by go_num, HB.out.setCell (p := ⟨g, k, none⟩) (.inl ⟨by omega, rfl⟩) _, fun _ => ⟨g, _, rfl, setH h2, by simpa using h3⟩⟩, by simp [intOf]; omega⟩
    · obtain rfl : k = xs.length := by omega
      clear hg
      go_wp2_with fail
      go_end0
      exact ⟨rfl, HB.out⟩
/-- the table at H is t1, the reference's at R is t2, by the hearings P -/
def RunS (B : Nat) (w0 w : World) (H R : Nat) (t1 t2 : Ts) (P : List (Int × Int)) : Prop := ∃ F A cap, St1 B w0 w F H t1 ∧ RfO w B R t2 P A cap ∧ ∀ k, RfB R A k → F k
theorem RunS.below {B : Nat} {w0 w : World} {H R : Nat} {t1 t2 : Ts} {P : List (Int × Int)} {w' : World} (h : RunS B w0 w H R t1 t2 P) (hb : Below w.heap.size w w') : RunS B w0 w' H R t1 t2 P := by
  obtain ⟨F, A, cap, h1, h2, h3⟩ := h
  exact ⟨_, A, cap, h1.below hb, h2.below hb, fun k hk => .inl (h3 k hk)⟩
theorem RunS.bel {B : Nat} {w0 w : World} {H R : Nat} {t1 t2 : Ts} {P : List (Int × Int)} (h : RunS B w0 w H R t1 t2 P) : Below B w0 w := by
  obtain ⟨F, A, cap, h1, h2, h3⟩ := h
  exact h1.bel
theorem RunS.hB {B : Nat} {w0 w : World} {H R : Nat} {t1 t2 : Ts} {P : List (Int × Int)} (h : RunS B w0 w H R t1 t2 P) : B ≤ w.heap.size := by
  obtain ⟨F, A, cap, h1, h2, h3⟩ := h
  exact h1.hB
theorem RunS.time {B : Nat} {w0 w : World} {H R : Nat} {t1 t2 : Ts} {P : List (Int × Int)} (h : RunS B w0 w H R t1 t2 P) : R < w.heap.size ∧ w.cell? ⟨R, 3, none⟩ = some (.int .i64 t2.now) := by
  obtain ⟨F, A, cap, h1, h2, h3⟩ := h
  exact ⟨h2.ref.lt, h2.ref.c3⟩
theorem RunS.okt {B : Nat} {w0 w : World} {H R : Nat} {t1 t2 : Ts} {P : List (Int × Int)} (h : RunS B w0 w H R t1 t2 P) : Ok t1 := by
  obtain ⟨F, A, cap, h1, h2, h3⟩ := h
  exact h1.okt
theorem St1.turnF {B : Nat} {w0 w w' : World} {F X : Nat → Prop} {H : Nat} {t : Ts} (h : St1 B w0 w F H t) (hT : Turn X w w') (hX : ∀ k, X k → F k) : St1 B w0 w' (NewB w w' F) H t := by
  obtain ⟨O, h⟩ := h
  refine ⟨O, h.ok, h.tab.turn hT (fun k hk hx => (h.fr k (hX k hx)).2.2 hk), h.new, Turn.below h.bel h.hB hT (fun i hi => (h.fr i (hX i hi)).1), Nat.le_trans h.hB hT.size, fun k hk => ?_⟩
  rcases hk with hk | hk
  · exact ⟨(h.fr k hk).1, Nat.lt_of_lt_of_le (h.fr k hk).2.1 hT.size, (h.fr k hk).2.2⟩
  · exact ⟨Nat.le_trans h.hB hk.1, hk.2, fun g => by have := h.tab.lt k g; omega⟩
theorem RunS.turn {B : Nat} {w0 w w' : World} {H R : Nat} {t1 t' : Ts} {P' : List (Int × Int)} {F : Nat → Prop} {A : Option Addr} (h1 : St1 B w0 w F H t1) (h3 : ∀ k, RfB R A k → F k) (hT : RfT w w' B R t' P' A) : RunS B w0 w' H R t1 t' P' := by
  obtain ⟨A', cap', k1, k2, k3⟩ := hT
  refine ⟨_, A', cap', h1.turnF k2 h3, k1, fun k hk => ?_⟩
  rcases k3 k hk with g | g
  · exact .inl (h3 k g)
  · exact .inr ⟨g, (k1.lt k hk).2⟩
theorem refTickS {B : Nat} {w0 w : World} {H R : Nat} {t1 t2 : Ts} {P : List (Int × Int)} (h : RunS B w0 w H R t1 t2 P) (s : Int) : Calls Tryd.prog 11 #[.pointer (some ⟨R, 0, none⟩), .int .i64 s] w fun e w' => e = .returned (.int .i64 (tickE t2 s)) ∧ RunS B w0 w' H R t1 (tickT t2 s) P := by
  obtain ⟨F, A, cap, h1, h2, h3⟩ := h
  refine (refTick11 h2 s).mono ?_
  rintro e w' ⟨rfl, ht⟩
  exact ⟨rfl, RunS.turn h1 h3 ht⟩
theorem refHearS {B : Nat} {w0 w : World} {H R : Nat} {t1 t2 : Ts} {P : List (Int × Int)} (h : RunS B w0 w H R t1 t2 P) (hl : P.length < 1000) (a s : Int) : Calls Tryd.prog 12 #[.pointer (some ⟨R, 0, none⟩), .agg #[.int .i64 a, .int .i64 s]] w fun e w' => e = .returned (.int .i64 (hearE t2 a s)) ∧ RunS B w0 w' H R t1 (hearT t2 a s) (histP t2 a s P) := by
  obtain ⟨F, A, cap, h1, h2, h3⟩ := h
  refine (refHear12 h2 hl h1.hB a s).mono ?_
  rintro e w' ⟨rfl, ht⟩
  exact ⟨rfl, RunS.turn h1 h3 ht⟩
theorem stepS {B : Nat} {w0 w : World} {H R : Nat} {t1 t2 : Ts} {P : List (Int × Int)} (h : RunS B w0 w H R t1 t2 P) (a s : Int) : Calls Tryd.prog 13 #[.pointer (some ⟨H, 0, none⟩), .agg #[.int .i64 a, .int .i64 s]] w fun e w' => e = .returned (.int .i64 (stepE t1 a s)) ∧ RunS B w0 w' H R (stepT t1 a s) t2 P := by
  obtain ⟨F, A, cap, h1, h2, h3⟩ := h
  refine (stepB h1 a s).mono ?_
  rintro e w' ⟨rfl, k1, k2⟩
  exact ⟨rfl, F, A, cap, k1, h2.kept (fun k hk => k2 k (h3 k hk)), h3⟩
theorem nowS {B : Nat} {w0 w : World} {H R : Nat} {t1 t2 : Ts} {P : List (Int × Int)} (h : RunS B w0 w H R t1 t2 P) : Calls Tryd.prog 14 #[.pointer (some ⟨H, 0, none⟩)] w fun e w' => e = .returned (.int .i64 t1.now) ∧ w' = w := by
  obtain ⟨F, A, cap, h1, h2, h3⟩ := h
  exact nowB h1
theorem knownS {B : Nat} {w0 w : World} {H R : Nat} {t1 t2 : Ts} {P : List (Int × Int)} (h : RunS B w0 w H R t1 t2 P) : Calls Tryd.prog 15 #[.pointer (some ⟨H, 0, none⟩)] w (RowP w (addrsT t1 true)) := by
  obtain ⟨F, A, cap, ⟨O, h1⟩, h2, h3⟩ := h
  obtain ⟨mb, bk, gk, hT⟩ := h1.tab
  refine (known15 h1.ok hT).mono ?_
  rintro e w' ⟨A, cap, rfl, k1, k2, k3⟩
  exact ⟨A, cap, rfl, k1, k2, k3⟩
theorem pendS {B : Nat} {w0 w : World} {H R : Nat} {t1 t2 : Ts} {P : List (Int × Int)} (h : RunS B w0 w H R t1 t2 P) : Calls Tryd.prog 16 #[.pointer (some ⟨H, 0, none⟩)] w (RowP w (addrsT t1 false)) := by
  obtain ⟨F, A, cap, ⟨O, h1⟩, h2, h3⟩ := h
  obtain ⟨mb, bk, gk, hT⟩ := h1.tab
  refine (pend16 h1.ok hT).mono ?_
  rintro e w' ⟨A, cap, rfl, k1, k2, k3⟩
  exact ⟨A, cap, rfl, k1, k2, k3⟩
theorem refKnownS {B : Nat} {w0 w : World} {H R : Nat} {t1 t2 : Ts} {P : List (Int × Int)} (h : RunS B w0 w H R t1 t2 P) : Calls Tryd.prog 18 #[.pointer (some ⟨R, 0, none⟩)] w (RowP w (addrsT t2 true)) := by
  obtain ⟨F, A, cap, h1, h2, h3⟩ := h
  have T := refKnown18 h2.ref h2.refB
  rw [addrs_eq h2.inv h2.ok true (Nat.lt_succ_self _)] at T
  exact T
theorem refPendS {B : Nat} {w0 w : World} {H R : Nat} {t1 t2 : Ts} {P : List (Int × Int)} (h : RunS B w0 w H R t1 t2 P) : Calls Tryd.prog 19 #[.pointer (some ⟨R, 0, none⟩)] w (RowP w (addrsT t2 false)) := by
  obtain ⟨F, A, cap, h1, h2, h3⟩ := h
  have T := refPend19 h2.ref h2.refB
  rw [addrs_eq h2.inv h2.ok false (Nat.lt_succ_self _)] at T
  exact T
theorem saveS {K : Nat} {B : Nat} {w0 w : World} {H R : Nat} {t1 t2 : Ts} {P : List (Int × Int)} (E : Env K w0) (hK : K ≤ B) (h : RunS B w0 w H R t1 t2 P) : Calls Tryd.prog 20 #[.pointer (some ⟨H, 0, none⟩)] w fun e w' => e = .returned (.string (S (saveT t1))) ∧ Below w.heap.size w w' := by
  obtain ⟨F, A, cap, h1, h2, h3⟩ := h
  refine (saveB E hK h1).mono ?_
  rintro e w' ⟨rfl, -, hb⟩
  exact ⟨rfl, hb⟩
theorem refSaveS {B : Nat} {w0 w : World} {H R : Nat} {t1 t2 : Ts} {P : List (Int × Int)} (h : RunS B w0 w H R t1 t2 P) : Calls Tryd.prog 21 #[.pointer (some ⟨R, 0, none⟩)] w fun e w' => e = .returned (.string (S (saveT t2))) ∧ Below w.heap.size w w' := by
  obtain ⟨F, A, cap, h1, h2, h3⟩ := h
  exact refSave21 h2
theorem RunS.made {w w1 : World} {H : Nat} {t : Ts} {O : Nat → Prop} (h1 : TabO w1 H t O) (n1 : ∀ k, O k → w.heap.size ≤ k) (b1 : Below w.heap.size w w1) (k1 : Ok t) (hi : InvT t []) : RunS w.heap.size w (w1.alloc (.cells #[.int .i64 t.need, .int .i64 t.win, .int .i64 t.keep, .int .i64 t.now, .slice none 0 0] 31)) H w1.heap.size t t [] :=
  ⟨_, none, 0, (St1.made h1 n1 b1 k1).below (below_alloc1 w1 _), ⟨heap_alloc_new w1 _, World.ownsRow_nil _ _ _ _, b1.size, hi, k1, Nat.zero_le _⟩, fun k hk => by
    rcases hk with rfl | ⟨x, e, -⟩
    · exact .inr ⟨Nat.le_refl _, by rw [size_alloc]; exact Nat.lt_succ_self _⟩
    · cases e⟩
/-- the reference's hearings behind an operation -/
def stepP2 (t : Ts) (a s : Int) (P : List (Int × Int)) : List (Int × Int) := if a = -1 then P else histP t a s P
theorem stepP2_len (t : Ts) (a s : Int) (P : List (Int × Int)) : (stepP2 t a s P).length ≤ P.length + 1 := by
  unfold stepP2 histP
  split
  · omega
  · split
    · simp
    · omega
theorem step_tick {t : Ts} {a : Int} (h : a = -1) (s : Int) (P : List (Int × Int)) : stepE t a s = tickE t s ∧ stepT t a s = tickT t s ∧ stepP2 t a s P = P := by
  unfold stepE stepT stepP2; rw [if_pos h, if_pos h, if_pos h]; exact ⟨rfl, rfl, rfl⟩
theorem step_hear {t : Ts} {a : Int} (h : ¬ a = -1) (s : Int) (P : List (Int × Int)) : stepE t a s = hearE t a s ∧ stepT t a s = hearT t a s ∧ stepP2 t a s P = histP t a s P := by
  unfold stepE stepT stepP2; rw [if_neg h, if_neg h, if_neg h]; exact ⟨rfl, rfl, rfl⟩
theorem addrs_len {t : Ts} (h : Ok t) (b : Bool) : (addrsT t b).length ≤ 64 := by
  have h1 := h.len
  have h2 : (addrsT t b).length ≤ t.es.length := by unfold addrsT; rw [List.length_map]; exact List.length_filter_le _ _
  omega
end Go.Proofs.YtkikokldijccnaaDoor
