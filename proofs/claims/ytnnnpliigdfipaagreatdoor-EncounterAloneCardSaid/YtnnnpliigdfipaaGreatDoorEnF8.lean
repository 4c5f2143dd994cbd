/- EncounterAlone: the walk. -/
import Derived.Test.YtnnnpliigdfipaaGreatDoorRows
import Derived.WalkKit
import Derived.WalkLawsBesides
import Derived.WalkSpells
import Derived.ProofKit
import Derived.Below
import Derived.Outline
import Derived.Lib.Hide
import Derived.Deep.RegionWith
import Derived.Deep.RegionHeld3
import Derived.Deep.DrawnRows
import Derived.StillTailTactics
import Derived.BigQuiet
import Derived.Deep.QuietTactic
import Derived.Deep.LoopGhost
import Derived.IntWalk
import Derived.Lib.MinMax
import Derived.Deep.CutBlock
import Derived.Deep.DeepCutAuto
import Derived.Test.YtnnnpliigdfipaaGreatDoorEnDB
import Derived.Test.YtnnnpliigdfipaaGreatDoorEnE
import Derived.Test.YtnnnpliigdfipaaGreatDoorEnG8
import Derived.Test.YtnnnpliigdfipaaGreatDoorEnF7
import Derived.Test.YtnnnpliigdfipaaGreatDoorEnHC
namespace Go.Proofs.YtnnnpliigdfipaaGreatDoor
open Go.RowKit
attribute [local go_sem ↓] Go.wp_at_zero Go.wp_at_succ
attribute [local go_sem] wrap_lit
theorem is_path {w : World} {g : Nat} {c c' : Cr} {N m : Nat} (h : PathG w g c N) (hm : m ≤ N) (he : ∀ j, j ≤ m → flyN c j = flyN c' j) : Is .i64 w w.heap.size (some ⟨g, 0, none⟩) (flat (pathL c' m)) := fun _ =>
  ⟨g, 0, rfl, h.1, fun j hj => by
    rw [flat2_len, pathL_len] at hj
    rw [Nat.zero_add]
    obtain ⟨i, hi⟩ : ∃ i, i = j / 2 := ⟨_, rfl⟩
    have hi' : i ≤ m := by omega
    obtain ⟨e1, e2⟩ := nth_path (c := c') hi'
    obtain ⟨h1, h2⟩ := h.2 i (by omega)
    rw [he i hi'] at h1 h2
    rcases (by omega : j = i * 2 ∨ j = i * 2 + 1) with e | e
    · rw [e, e1]; exact h1
    · rw [e, e2]; exact h2⟩
theorem PS.last_in {w : World} {n0 : Nat} {v : Value} {cs : List Cr} {lvs : List Value} {Bl : Nat} {c : Cr} {m : Nat} (h : PS w n0 v cs lvs Bl) (hm : cs[m]? = some c) : ∃ g cap, v = .slice (some ⟨g, 0, none⟩) cs.length cap ∧ cs.length ≤ cap ∧ n0 ≤ g ∧ g < w.heap.size ∧ InCr w w.heap.size (some ⟨g, m * 13, none⟩) [c] := by
  have hl := (List.getElem?_eq_some_iff.1 hm).1
  obtain ⟨A, cap, rfl, hcap, hin⟩ := h.inCr
  obtain ⟨b, off, rfl, hb, hc⟩ := hin (by omega)
  obtain ⟨A', cap', e, -, h2⟩ := ownsRow_form h.row
  injection e with e1 e2 e3
  subst e1
  obtain ⟨g, e, hg, hlt, -⟩ := h2 (by omega)
  injection e with e
  injection e with e1 e2
  subst e1 e2
  refine ⟨b, cap, rfl, hcap, hg, hlt, fun _ => ⟨b, m * 13, rfl, hb, fun j d hj => ?_⟩⟩
  have hj0 : j = 0 := by have := (List.getElem?_eq_some_iff.1 hj).1; simpa using this
  subst hj0
  simp at hj
  subst hj
  have := hc m c hm
  rw [Nat.zero_add] at this
  simpa using this
/-- one leg more at the last aircraft; other blocks are as they were -/
def LegR (B g5 cap5 : Nat) (cs : List Cr) (U wx : World) : Prop := (∃ lvs Bl, PS wx B (.slice (some ⟨g5, 0, none⟩) cs.length cap5) cs lvs Bl) ∧ Below B U wx ∧ ∀ (k : Nat) (v : Array Value) (T : TypeId) (f : Nat × Nat), U.heap[k]? = some (.cells v T f) → T ≠ 63 → T ≠ 54 → wx.heap[k]? = U.heap[k]?
theorem legR_of {U w2 : World} {B g5 cap5 g' cap' : Nat} {cs init : List Cr} {lvs linit : List Value} {Bl : Nat} {c : Cr} {LA : Option Addr} {lcap : Nat} {ya yb : Int} {ob : Obj} (hcs : cs = init ++ [c]) (hlv : lvs = linit ++ [.slice LA c.lg.length lcap]) (hB : B ≤ U.heap.size)
    (h : PS U B (.slice (some ⟨g5, 0, none⟩) cs.length cap5) cs lvs Bl) (hown : w2.ownsRow Bl 54 2 (.slice (some ⟨g', 0, none⟩) (c.lg.length + 1) cap') (c.lg.length + 1) ((flat c.lg).map (Value.int .i64) ++ [.int .i64 ya, .int .i64 yb])) (hg : (U.drew.alloc ob).grownBy w2 (Value.slice LA c.lg.length lcap).ownBlock) :
    LegR B g5 cap5 (init ++ [c.leg (ya, yb)]) U (w2.setCell ⟨g5, init.length * 13 + 8, none⟩ (.slice (some ⟨g', 0, none⟩) (c.lg.length + 1) cap')) := by
  have gdr : U.grownBy (U.drew.alloc ob) none := ⟨rfl, rfl, rfl, (World.grownBy_alloc U.drew ob none).size, (World.grownBy_alloc U.drew ob none).block⟩
  have h1 := h.grown gdr (foreign_none _)
  have hBl := q1le h hcs hlv
  subst hcs hlv
  rw [List.length_append, List.length_singleton] at h1
  obtain ⟨gq, eq, h2⟩ := PS.leg (x := (ya, yb)) h1 hown hg
  injection eq with eq
  injection eq with eq
  subst eq
  have hrow := h1.row
  rw [List.length_append, List.length_singleton] at hrow
  obtain ⟨hg5, -, cur, hcur⟩ := ownsRow_own hrow (r := g5) rfl
  have hlen : linit.length = init.length := by have := h.len; simpa using this
  obtain ⟨Bq, q1, q2, q3⟩ := h1.legs init.length c (.slice LA c.lg.length lcap) (by simp) (by rw [← hlen]; simp)
  have hbl : ∀ r, (Value.slice LA c.lg.length lcap).ownBlock = some r → B ≤ r ∧ ∃ cur, (U.drew.alloc ob).heap[r]? = some (.cells cur 54 (0, 0)) := fun r hr => by
    obtain ⟨a1, -, a3⟩ := ownsRow_own q2 hr
    exact ⟨by omega, a3⟩
  refine ⟨⟨linit ++ [.slice (some ⟨g', 0, none⟩) (c.lg.length + 1) cap'], Bl, ?_⟩, ?_, fun k v T f hk hT1 hT2 => ?_⟩
  · rw [List.length_append, List.length_singleton]
    exact h2
  · have b1 : Below B U (U.drew.alloc ob) := (Below.refl _ _).grown gdr hB (fun r e => by cases e)
    exact ((b1.grown hg (by simp; omega) (fun r e => (hbl r e).1))).setCell (p := ⟨g5, init.length * 13 + 8, none⟩) hg5 _
  · have hlt := heap_lt hk
    have hk1 : (U.drew.alloc ob).heap[k]? = some (.cells v T f) := (gdr.block k hlt (by simp)).trans hk
    have hne : some k ≠ (Value.slice LA c.lg.length lcap).ownBlock := fun e => by
      obtain ⟨-, cur, h3⟩ := hbl k e.symm
      rw [hk1] at h3
      injection h3 with h3
      injection h3 with _ h4 _
      exact hT2 h4
    have hne5 : k ≠ g5 := fun e => by
      subst e
      rw [hk1] at hcur
      injection hcur with h3
      injection h3 with _ h4 _
      exact hT1 h4
    exact (set_far _ _ _ _ _ hne5).trans ((hg.block k (by simp; omega) hne).trans (gdr.block k hlt (by simp)))
theorem path_only (x : En) (c : Cr) (A : Option Addr) (cap : Nat) (w : World) (hc : InCr w w.heap.size A [c]) (hcap : 1 ≤ cap) : Calls Tryz.prog 22 #[.agg #[.int .i64 x.cy, .int .i64 x.gr, .slice A 1 cap], .int .i64 0] w fun e w' => ∃ PA pcap, e = .returned (.tuple #[.slice PA (pathR (onlyE x c) 0).1.length pcap, .int .i64 (pathR (onlyE x c) 0).2]) ∧ (pathR (onlyE x c) 0).1.length ≤ pcap ∧ Own .i64 w' w.heap.size PA 42 (flat (pathR (onlyE x c) 0).1) ∧ Below w.heap.size w w' :=
  path22c (onlyE x c) A cap 0 w hc hcap
theorem check_only (x : En) (c : Cr) (A : Option Addr) (cap : Nat) (w : World) (hc : InCr w w.heap.size A [c]) (hcap : 1 ≤ cap) : Calls Tryz.prog 19 #[.agg #[.int .i64 x.cy, .int .i64 x.gr, .slice A 1 cap]] w fun e w' => e = .returned (.int .i64 (chE (onlyE x c))) ∧ Below w.heap.size w w' :=
  check19 (onlyE x c) A cap w hc hcap
set_option maxRecDepth 100000 in
set_option maxHeartbeats 40000000 in
theorem alone8 (x : En) (A : Option Addr) (cap : Nat) (ya yb k : Int) (w : World) (E : Env 8 w) (h8 : 8 ≤ w.heap.size) (hc : InCr w w.heap.size A x.cs) (hcap : x.cs.length ≤ cap) (hN : x.cs.length ≤ maxLen) :
    Calls Tryz.prog 8 #[.agg #[.int .i64 x.cy, .int .i64 x.gr, .slice A x.cs.length cap], .agg #[.int .i64 ya, .int .i64 yb], .int .i64 k] w fun e w' => e = .returned (.bool true) ∧ Below w.heap.size w w' := by
  have Ew := Lib.hid E
  have Iw := Lib.hid hc
  clear E hc
  have LG := Lib.hid (fun w' hc => long10 x A cap w' hc hN)
  have HNL := Lib.hid hN
  clear hN
  go_enter Tryz.func8, Tryz.ntmps8
  go_wp2_with fail
  obtain ⟨w0, hw0⟩ : ∃ w0, w0 = (w.alloc (.cells #[.int .i64 x.cy, .int .i64 x.gr, .slice A x.cs.length cap] 24)).alloc (.cells #[.int .i64 ya, .int .i64 yb] 54) := ⟨_, rfl⟩
  have bw0 : Below w.heap.size w w0 := by rw [hw0]; exact ((Below.refl _ _).alloc (Nat.le_refl _) _).alloc (by simp) _
  have Xw0 := Lib.hid (show w0.heap[w.heap.size]? = some (.cells #[.int .i64 x.cy, .int .i64 x.gr, .slice A x.cs.length cap] 24 (0, 0)) by rw [hw0]; exact (Below.heap_alloc _ _ _ (by simp)).trans (heap_alloc_new _ _))
  have Yw0 := Lib.hid (show w0.heap[w.heap.size + 1]? = some (.cells #[.int .i64 ya, .int .i64 yb] 54 (0, 0)) by rw [hw0]; exact heap_alloc_at _ _ _ (by simp))
  have Bw0 : Hid (Below w.heap.size w w0) := Lib.hid ((bw0))
  have mw0 : w.heap.size ≤ w0.heap.size := (bw0).size
  have Ew0 := Lib.hid (Ew.out.below ((bw0).mono (by omega)))
  have Iw0 := Lib.hid ((Iw.out.below (bw0)).mono (bw0).size)
  clear Ew Iw
  rw [← hw0]
  clear hw0 bw0
  have Xc0w0 : w0.cell? ⟨w.heap.size, 0, none⟩ = some (.int .i64 x.cy) := by simp [World.cell?, Xw0.out]
  have Xc1w0 : w0.cell? ⟨w.heap.size, 1, none⟩ = some (.int .i64 x.gr) := by simp [World.cell?, Xw0.out]
  have Xc2w0 : w0.cell? ⟨w.heap.size, 2, none⟩ = some (.slice A x.cs.length cap) := by simp [World.cell?, Xw0.out]
  have Yc0w0 : w0.cell? ⟨w.heap.size + 1, 0, none⟩ = some (.int .i64 ya) := by simp [World.cell?, Yw0.out]
  have Yc1w0 : w0.cell? ⟨w.heap.size + 1, 1, none⟩ = some (.int .i64 yb) := by simp [World.cell?, Yw0.out]
  refine (LG.out w0 Iw0.out).mono ?_
  rintro e w1 ⟨rfl, hw1⟩
  have Bw1 := Lib.hid (Bw0.out.trans ((hw1).mono mw0))
  have mw1 : w.heap.size ≤ w1.heap.size := Nat.le_trans mw0 (hw1).size
  have Ew1 := Lib.hid (Ew0.out.below ((hw1).mono (by omega)))
  have Iw1 := Lib.hid ((Iw0.out.below (hw1)).mono (hw1).size)
  have Xw1 := Lib.hid (((hw1).block _ (heap_lt Xw0.out)).trans Xw0.out)
  have Yw1 := Lib.hid (((hw1).block _ (heap_lt Yw0.out)).trans Yw0.out)
  clear Bw0 mw0 Ew0 Iw0 Xw0 Yw0 Xc0w0 Xc1w0 Xc2w0 Yc0w0 Yc1w0
  have Xc0w1 : w1.cell? ⟨w.heap.size, 0, none⟩ = some (.int .i64 x.cy) := by simp [World.cell?, Xw1.out]
  have Xc1w1 : w1.cell? ⟨w.heap.size, 1, none⟩ = some (.int .i64 x.gr) := by simp [World.cell?, Xw1.out]
  have Xc2w1 : w1.cell? ⟨w.heap.size, 2, none⟩ = some (.slice A x.cs.length cap) := by simp [World.cell?, Xw1.out]
  have Yc0w1 : w1.cell? ⟨w.heap.size + 1, 0, none⟩ = some (.int .i64 ya) := by simp [World.cell?, Yw1.out]
  have Yc1w1 : w1.cell? ⟨w.heap.size + 1, 1, none⟩ = some (.int .i64 yb) := by simp [World.cell?, Yw1.out]
  clear hw1
  by_cases hlg : lgB x = true
  · go_wp2_with fail
    refine (awake11 8 w1 Ew1.out (by omega)).mono ?_
    rintro e v1 ⟨rfl, hv1⟩
    have Bv1 := Lib.hid (Bw1.out.trans ((hv1).mono mw1))
    have mv1 : w.heap.size ≤ v1.heap.size := Nat.le_trans mw1 (hv1).size
    have Ev1 := Lib.hid (Ew1.out.below ((hv1).mono (by omega)))
    have Iv1 := Lib.hid ((Iw1.out.below (hv1)).mono (hv1).size)
    have Xv1 := Lib.hid (((hv1).block _ (heap_lt Xw1.out)).trans Xw1.out)
    have Yv1 := Lib.hid (((hv1).block _ (heap_lt Yw1.out)).trans Yw1.out)
    clear Bw1 mw1 Ew1 Iw1 Xw1 Yw1 Xc0w1 Xc1w1 Xc2w1 Yc0w1 Yc1w1
    have Xc0v1 : v1.cell? ⟨w.heap.size, 0, none⟩ = some (.int .i64 x.cy) := by simp [World.cell?, Xv1.out]
    have Xc1v1 : v1.cell? ⟨w.heap.size, 1, none⟩ = some (.int .i64 x.gr) := by simp [World.cell?, Xv1.out]
    have Xc2v1 : v1.cell? ⟨w.heap.size, 2, none⟩ = some (.slice A x.cs.length cap) := by simp [World.cell?, Xv1.out]
    have Yc0v1 : v1.cell? ⟨w.heap.size + 1, 0, none⟩ = some (.int .i64 ya) := by simp [World.cell?, Yv1.out]
    have Yc1v1 : v1.cell? ⟨w.heap.size + 1, 1, none⟩ = some (.int .i64 yb) := by simp [World.cell?, Yv1.out]
    clear hv1
    go_wp2_with fail
    go_ret
    exact ⟨rfl, Bv1.out⟩
  have hlg' : lgB x = false := by cases h : lgB x <;> simp_all
  clear hlg
  go_wp2_with fail
  refine (check19 x A cap w1 Iw1.out hcap).mono ?_
  rintro e w2 ⟨rfl, hw2⟩
  have Bw2 := Lib.hid (Bw1.out.trans ((hw2).mono mw1))
  have mw2 : w.heap.size ≤ w2.heap.size := Nat.le_trans mw1 (hw2).size
  have Ew2 := Lib.hid (Ew1.out.below ((hw2).mono (by omega)))
  have Iw2 := Lib.hid ((Iw1.out.below (hw2)).mono (hw2).size)
  have Xw2 := Lib.hid (((hw2).block _ (heap_lt Xw1.out)).trans Xw1.out)
  have Yw2 := Lib.hid (((hw2).block _ (heap_lt Yw1.out)).trans Yw1.out)
  clear Bw1 mw1 Ew1 Iw1 Xw1 Yw1 Xc0w1 Xc1w1 Xc2w1 Yc0w1 Yc1w1
  have Xc0w2 : w2.cell? ⟨w.heap.size, 0, none⟩ = some (.int .i64 x.cy) := by simp [World.cell?, Xw2.out]
  have Xc1w2 : w2.cell? ⟨w.heap.size, 1, none⟩ = some (.int .i64 x.gr) := by simp [World.cell?, Xw2.out]
  have Xc2w2 : w2.cell? ⟨w.heap.size, 2, none⟩ = some (.slice A x.cs.length cap) := by simp [World.cell?, Xw2.out]
  have Yc0w2 : w2.cell? ⟨w.heap.size + 1, 0, none⟩ = some (.int .i64 ya) := by simp [World.cell?, Yw2.out]
  have Yc1w2 : w2.cell? ⟨w.heap.size + 1, 1, none⟩ = some (.int .i64 yb) := by simp [World.cell?, Yw2.out]
  clear hw2
  by_cases hch : ¬ chE x = 0
  · have hcb : (chE x != 0) = true := by simpa using hch
    clear hch
    go_wp2_with fail
    refine (awake11 8 w2 Ew2.out (by omega)).mono ?_
    rintro e v2 ⟨rfl, hv2⟩
    have Bv2 := Lib.hid (Bw2.out.trans ((hv2).mono mw2))
    have mv2 : w.heap.size ≤ v2.heap.size := Nat.le_trans mw2 (hv2).size
    have Ev2 := Lib.hid (Ew2.out.below ((hv2).mono (by omega)))
    have Iv2 := Lib.hid ((Iw2.out.below (hv2)).mono (hv2).size)
    have Xv2 := Lib.hid (((hv2).block _ (heap_lt Xw2.out)).trans Xw2.out)
    have Yv2 := Lib.hid (((hv2).block _ (heap_lt Yw2.out)).trans Yw2.out)
    clear Bw2 mw2 Ew2 Iw2 Xw2 Yw2 Xc0w2 Xc1w2 Xc2w2 Yc0w2 Yc1w2
    have Xc0v2 : v2.cell? ⟨w.heap.size, 0, none⟩ = some (.int .i64 x.cy) := by simp [World.cell?, Xv2.out]
    have Xc1v2 : v2.cell? ⟨w.heap.size, 1, none⟩ = some (.int .i64 x.gr) := by simp [World.cell?, Xv2.out]
    have Xc2v2 : v2.cell? ⟨w.heap.size, 2, none⟩ = some (.slice A x.cs.length cap) := by simp [World.cell?, Xv2.out]
    have Yc0v2 : v2.cell? ⟨w.heap.size + 1, 0, none⟩ = some (.int .i64 ya) := by simp [World.cell?, Yv2.out]
    have Yc1v2 : v2.cell? ⟨w.heap.size + 1, 1, none⟩ = some (.int .i64 yb) := by simp [World.cell?, Yv2.out]
    clear hv2
    go_wp2_with fail
    go_ret
    exact ⟨rfl, Bv2.out⟩
  have hch := Classical.not_not.1 hch
  have hcb : (chE x != 0) = false := by simp [hch]
  have HCH := Lib.hid hch
  go_wp2_with fail
  refine (awake11 8 w2 Ew2.out (by omega)).mono ?_
  rintro e w3 ⟨rfl, hw3⟩
  have Bw3 := Lib.hid (Bw2.out.trans ((hw3).mono mw2))
  have mw3 : w.heap.size ≤ w3.heap.size := Nat.le_trans mw2 (hw3).size
  have Ew3 := Lib.hid (Ew2.out.below ((hw3).mono (by omega)))
  have Iw3 := Lib.hid ((Iw2.out.below (hw3)).mono (hw3).size)
  have Xw3 := Lib.hid (((hw3).block _ (heap_lt Xw2.out)).trans Xw2.out)
  have Yw3 := Lib.hid (((hw3).block _ (heap_lt Yw2.out)).trans Yw2.out)
  clear Bw2 mw2 Ew2 Iw2 Xw2 Yw2 Xc0w2 Xc1w2 Xc2w2 Yc0w2 Yc1w2
  have Xc0w3 : w3.cell? ⟨w.heap.size, 0, none⟩ = some (.int .i64 x.cy) := by simp [World.cell?, Xw3.out]
  have Xc1w3 : w3.cell? ⟨w.heap.size, 1, none⟩ = some (.int .i64 x.gr) := by simp [World.cell?, Xw3.out]
  have Xc2w3 : w3.cell? ⟨w.heap.size, 2, none⟩ = some (.slice A x.cs.length cap) := by simp [World.cell?, Xw3.out]
  have Yc0w3 : w3.cell? ⟨w.heap.size + 1, 0, none⟩ = some (.int .i64 ya) := by simp [World.cell?, Yw3.out]
  have Yc1w3 : w3.cell? ⟨w.heap.size + 1, 1, none⟩ = some (.int .i64 yb) := by simp [World.cell?, Yw3.out]
  clear hw3
  have OK := chE_ok hch
  obtain ⟨N, hN⟩ : ∃ N : Nat, x.cy = N := ⟨x.cy.toNat, by omega⟩
  have hN1 : 1 ≤ N ∧ N ≤ 120 := by omega
  obtain ⟨n0, hn0⟩ : ∃ n0 : Nat, x.cs.length = n0 + 1 := ⟨x.cs.length - 1, by omega⟩
  have hn6 : x.cs.length ≤ 6 := OK.2.2.2.1
  have hnl : IntKind.i64.wrap ((x.cs.length : Int) - 1) = (n0 : Int) := by rw [hn0]; rw [IntWalk.i64_in _ (by omega)]; omega
  have hnl2 : (x.cs.length : Int) - 1 = (n0 : Int) := by omega
  obtain ⟨c, hcj⟩ : ∃ c, x.cs[n0]? = some c := ⟨_, List.getElem?_eq_getElem (by omega)⟩
  have hcm := List.mem_of_getElem? hcj
  have CRC := Lib.hid (cr_ok hcj OK.2.2.2.2).2
  have GD := Lib.hid (good_of OK.1.1 OK.1.2 CRC.out)
  have HLEN : Hid (∀ c ∈ x.cs, c.lg.length ≤ 1000) := Lib.hid (fun d hd => by have := (crE_ok (allE_ok x.cs [] OK.2.2.2.2 d hd).2).2.2.2.2.2.2.1; omega)
  have h0 : numE x [(n0 : Int)] = 0 := numE_ok x [(n0 : Int)] hch (fun j hj => by obtain rfl : j = 0 := (by simpa using hj); exact ⟨by simp [nth], by simp [nth]; omega⟩)
  have PC : pathR x n0 = (pathL c N, 0) := by unfold pathR; rw [if_neg (fun h => h h0), crAt_n hcj, hN]; rfl
  have PO : pathR (onlyE x c) 0 = (pathL c N, 0) := by rw [only_path, if_neg (by rw [only_ok hch hcm]; decide), hN]; rfl
  have WH : wheR x n0 k = if inB k 0 x.cy = false then (⟨0, 0, 0⟩, 8) else (posAt c k.toNat, 0) := by unfold wheR; rw [PC, if_neg (by simp), crAt_n hcj]
  have JC := Lib.hid hcj
  have HN := Lib.hid hN
  have HN0 := Lib.hid hn0
  have HPO := Lib.hid PO
  have HWH := Lib.hid WH
  have HCM := Lib.hid hcm
  clear hcj hcm OK h0 hN hn0 hch PO WH
  have PP := path22c x A cap n0 w3 Iw3.out hcap
  rw [PC] at PP
  clear PC
  go_wp2_with fail
  refine (PP).mono ?_
  rintro e w4 ⟨PA, pcap, rfl, hpc, hown, hw4⟩
  have Bw4 := Lib.hid (Bw3.out.trans ((hw4).mono mw3))
  have mw4 : w.heap.size ≤ w4.heap.size := Nat.le_trans mw3 (hw4).size
  have Ew4 := Lib.hid (Ew3.out.below ((hw4).mono (by omega)))
  have Iw4 := Lib.hid ((Iw3.out.below (hw4)).mono (hw4).size)
  have Xw4 := Lib.hid (((hw4).block _ (heap_lt Xw3.out)).trans Xw3.out)
  have Yw4 := Lib.hid (((hw4).block _ (heap_lt Yw3.out)).trans Yw3.out)
  clear Bw3 mw3 Ew3 Iw3 Xw3 Yw3 Xc0w3 Xc1w3 Xc2w3 Yc0w3 Yc1w3
  have Xc0w4 : w4.cell? ⟨w.heap.size, 0, none⟩ = some (.int .i64 x.cy) := by simp [World.cell?, Xw4.out]
  have Xc1w4 : w4.cell? ⟨w.heap.size, 1, none⟩ = some (.int .i64 x.gr) := by simp [World.cell?, Xw4.out]
  have Xc2w4 : w4.cell? ⟨w.heap.size, 2, none⟩ = some (.slice A x.cs.length cap) := by simp [World.cell?, Xw4.out]
  have Yc0w4 : w4.cell? ⟨w.heap.size + 1, 0, none⟩ = some (.int .i64 ya) := by simp [World.cell?, Yw4.out]
  have Yc1w4 : w4.cell? ⟨w.heap.size + 1, 1, none⟩ = some (.int .i64 yb) := by simp [World.cell?, Yw4.out]
  clear hw4
  obtain ⟨g, rfl, hg, zg, hp⟩ := Own.pathV hown
  clear hown
  have Pw4 : Hid (PathG w4 g c N) := Lib.hid ⟨zg, hp⟩
  have hg4 := zg
  have hpN : N + 1 ≤ pcap := by simpa [pathL_len] using hpc
  have hsY4 : w.heap.size + 1 < w4.heap.size := heap_lt Yw4.out
  clear hp zg PP hpc
  rw [show (pathL c N, (0 : Int)).1.length = N + 1 from pathL_len _ _]
  go_wp2_with fail
  refine (own12 x A cap w4 Iw4.out (by omega) HLEN.out).mono ?_
  rintro e w5 ⟨⟨v, lvs, Bl, rfl, hps, hBl5⟩, hw5⟩
  have Bw5 := Lib.hid (Bw4.out.trans ((hw5).mono mw4))
  have mw5 : w.heap.size ≤ w5.heap.size := Nat.le_trans mw4 (hw5).size
  have Ew5 := Lib.hid (Ew4.out.below ((hw5).mono (by omega)))
  have Iw5 := Lib.hid ((Iw4.out.below (hw5)).mono (hw5).size)
  have Xw5 := Lib.hid (((hw5).block _ (heap_lt Xw4.out)).trans Xw4.out)
  have Yw5 := Lib.hid (((hw5).block _ (heap_lt Yw4.out)).trans Yw4.out)
  have Pw5 := Lib.hid (Pw4.out.below (hw5))
  clear Bw4 mw4 Ew4 Iw4 Xw4 Yw4 Pw4 Xc0w4 Xc1w4 Xc2w4 Yc0w4 Yc1w4
  have Xc0w5 : w5.cell? ⟨w.heap.size, 0, none⟩ = some (.int .i64 x.cy) := by simp [World.cell?, Xw5.out]
  have Xc1w5 : w5.cell? ⟨w.heap.size, 1, none⟩ = some (.int .i64 x.gr) := by simp [World.cell?, Xw5.out]
  have Xc2w5 : w5.cell? ⟨w.heap.size, 2, none⟩ = some (.slice A x.cs.length cap) := by simp [World.cell?, Xw5.out]
  have Yc0w5 : w5.cell? ⟨w.heap.size + 1, 0, none⟩ = some (.int .i64 ya) := by simp [World.cell?, Yw5.out]
  have Yc1w5 : w5.cell? ⟨w.heap.size + 1, 1, none⟩ = some (.int .i64 yb) := by simp [World.cell?, Yw5.out]
  clear hw5
  obtain ⟨g5, cap5, rfl, hcap5, hg5, hl5, hin5⟩ := hps.last_in JC.out
  have Qw5 := Lib.hid hps
  have Jw5 := Lib.hid hin5
  clear hps hin5
  have hl1 : x.cs.length - n0 = 1 := by omega
  go_wp2_with fail
  clear hl1
  obtain ⟨w6, hw6⟩ : ∃ w6, w6 = w5.alloc (.cells #[.int .i64 x.cy, .int .i64 x.gr, .slice (some ⟨g5, n0 * 13, none⟩) 1 (cap5 - n0)] 24) := ⟨_, rfl⟩
  have bw6 : Below w5.heap.size w5 w6 := by rw [hw6]; exact (Below.refl _ _).alloc (Nat.le_refl _) _
  have nw6 : w6.heap[w5.heap.size]? = some (.cells #[.int .i64 x.cy, .int .i64 x.gr, .slice (some ⟨g5, n0 * 13, none⟩) 1 (cap5 - n0)] 24 (0, 0)) := by rw [hw6]; exact heap_alloc_new _ _
  have Bw6 := Lib.hid (Bw5.out.trans ((bw6).mono mw5))
  have mw6 : w.heap.size ≤ w6.heap.size := Nat.le_trans mw5 (bw6).size
  have Ew6 := Lib.hid (Ew5.out.below ((bw6).mono (by omega)))
  have Iw6 := Lib.hid ((Iw5.out.below (bw6)).mono (bw6).size)
  have Xw6 := Lib.hid (((bw6).block _ (heap_lt Xw5.out)).trans Xw5.out)
  have Yw6 := Lib.hid (((bw6).block _ (heap_lt Yw5.out)).trans Yw5.out)
  have Pw6 := Lib.hid (Pw5.out.below (bw6))
  have Qw6 := Lib.hid (Qw5.out.below (bw6))
  have Jw6 := Lib.hid ((Jw5.out.below (bw6)).mono (bw6).size)
  clear Bw5 mw5 Ew5 Iw5 Xw5 Yw5 Pw5 Qw5 Jw5 Xc0w5 Xc1w5 Xc2w5 Yc0w5 Yc1w5
  have Xc0w6 : w6.cell? ⟨w.heap.size, 0, none⟩ = some (.int .i64 x.cy) := by simp [World.cell?, Xw6.out]
  have Xc1w6 : w6.cell? ⟨w.heap.size, 1, none⟩ = some (.int .i64 x.gr) := by simp [World.cell?, Xw6.out]
  have Xc2w6 : w6.cell? ⟨w.heap.size, 2, none⟩ = some (.slice A x.cs.length cap) := by simp [World.cell?, Xw6.out]
  have Yc0w6 : w6.cell? ⟨w.heap.size + 1, 0, none⟩ = some (.int .i64 ya) := by simp [World.cell?, Yw6.out]
  have Yc1w6 : w6.cell? ⟨w.heap.size + 1, 1, none⟩ = some (.int .i64 yb) := by simp [World.cell?, Yw6.out]
  rw [← hw6]
  clear hw6 bw6
  have Ow6 := Lib.hid nw6
  clear nw6
  have Oc0w6 : w6.cell? ⟨w5.heap.size, 0, none⟩ = some (.int .i64 x.cy) := by simp [World.cell?, Ow6.out]
  have Oc1w6 : w6.cell? ⟨w5.heap.size, 1, none⟩ = some (.int .i64 x.gr) := by simp [World.cell?, Ow6.out]
  have Oc2w6 : w6.cell? ⟨w5.heap.size, 2, none⟩ = some (.slice (some ⟨g5, n0 * 13, none⟩) 1 (cap5 - n0)) := by simp [World.cell?, Ow6.out]
  have PP := path_only x c _ (cap5 - n0) w6 Jw6.out (by omega)
  rw [HPO.out] at PP
  refine (PP).mono ?_
  rintro e w7 ⟨PA, pcap7, rfl, -, hown, hw7⟩
  have Bw7 := Lib.hid (Bw6.out.trans ((hw7).mono mw6))
  have mw7 : w.heap.size ≤ w7.heap.size := Nat.le_trans mw6 (hw7).size
  have Ew7 := Lib.hid (Ew6.out.below ((hw7).mono (by omega)))
  have Iw7 := Lib.hid ((Iw6.out.below (hw7)).mono (hw7).size)
  have Xw7 := Lib.hid (((hw7).block _ (heap_lt Xw6.out)).trans Xw6.out)
  have Yw7 := Lib.hid (((hw7).block _ (heap_lt Yw6.out)).trans Yw6.out)
  have Pw7 := Lib.hid (Pw6.out.below (hw7))
  have Qw7 := Lib.hid (Qw6.out.below (hw7))
  have Jw7 := Lib.hid ((Jw6.out.below (hw7)).mono (hw7).size)
  have Ow7 := Lib.hid (((hw7).block _ (heap_lt Ow6.out)).trans Ow6.out)
  clear Bw6 mw6 Ew6 Iw6 Xw6 Yw6 Pw6 Qw6 Jw6 Ow6 Xc0w6 Xc1w6 Xc2w6 Yc0w6 Yc1w6 Oc0w6 Oc1w6 Oc2w6
  have Xc0w7 : w7.cell? ⟨w.heap.size, 0, none⟩ = some (.int .i64 x.cy) := by simp [World.cell?, Xw7.out]
  have Xc1w7 : w7.cell? ⟨w.heap.size, 1, none⟩ = some (.int .i64 x.gr) := by simp [World.cell?, Xw7.out]
  have Xc2w7 : w7.cell? ⟨w.heap.size, 2, none⟩ = some (.slice A x.cs.length cap) := by simp [World.cell?, Xw7.out]
  have Yc0w7 : w7.cell? ⟨w.heap.size + 1, 0, none⟩ = some (.int .i64 ya) := by simp [World.cell?, Yw7.out]
  have Yc1w7 : w7.cell? ⟨w.heap.size + 1, 1, none⟩ = some (.int .i64 yb) := by simp [World.cell?, Yw7.out]
  have Oc0w7 : w7.cell? ⟨w5.heap.size, 0, none⟩ = some (.int .i64 x.cy) := by simp [World.cell?, Ow7.out]
  have Oc1w7 : w7.cell? ⟨w5.heap.size, 1, none⟩ = some (.int .i64 x.gr) := by simp [World.cell?, Ow7.out]
  have Oc2w7 : w7.cell? ⟨w5.heap.size, 2, none⟩ = some (.slice (some ⟨g5, n0 * 13, none⟩) 1 (cap5 - n0)) := by simp [World.cell?, Ow7.out]
  clear hw7
  obtain ⟨g7, rfl, hg7, zg, hp⟩ := Own.pathV hown
  clear hown
  have Rw7 : Hid (PathG w7 g7 c N) := Lib.hid ⟨zg, hp⟩
  clear hp zg PP
  rw [show (pathL c N, (0 : Int)).1.length = N + 1 from pathL_len _ _]
  have PP := where26 x A cap n0 k w7 Iw7.out hcap
  rw [HWH.out] at PP
  obtain ⟨pz, ez, hz⟩ : ∃ pz ez, (if inB k 0 x.cy = false then ((⟨0, 0, 0⟩ : V3), (8 : Int)) else (posAt c k.toNat, 0)) = (pz, ez) := ⟨_, _, rfl⟩
  rw [hz] at PP
  have HZ := Lib.hid hz
  clear hz HWH
  go_wp2_with fail
  refine (PP).mono ?_
  rintro e w8 ⟨rfl, hw8⟩
  have Bw8 := Lib.hid (Bw7.out.trans ((hw8).mono mw7))
  have mw8 : w.heap.size ≤ w8.heap.size := Nat.le_trans mw7 (hw8).size
  have Ew8 := Lib.hid (Ew7.out.below ((hw8).mono (by omega)))
  have Iw8 := Lib.hid ((Iw7.out.below (hw8)).mono (hw8).size)
  have Xw8 := Lib.hid (((hw8).block _ (heap_lt Xw7.out)).trans Xw7.out)
  have Yw8 := Lib.hid (((hw8).block _ (heap_lt Yw7.out)).trans Yw7.out)
  have Pw8 := Lib.hid (Pw7.out.below (hw8))
  have Qw8 := Lib.hid (Qw7.out.below (hw8))
  have Jw8 := Lib.hid ((Jw7.out.below (hw8)).mono (hw8).size)
  have Ow8 := Lib.hid (((hw8).block _ (heap_lt Ow7.out)).trans Ow7.out)
  have Rw8 := Lib.hid (Rw7.out.below (hw8))
  clear Bw7 mw7 Ew7 Iw7 Xw7 Yw7 Pw7 Qw7 Jw7 Ow7 Rw7 Xc0w7 Xc1w7 Xc2w7 Yc0w7 Yc1w7 Oc0w7 Oc1w7 Oc2w7
  have Xc0w8 : w8.cell? ⟨w.heap.size, 0, none⟩ = some (.int .i64 x.cy) := by simp [World.cell?, Xw8.out]
  have Xc1w8 : w8.cell? ⟨w.heap.size, 1, none⟩ = some (.int .i64 x.gr) := by simp [World.cell?, Xw8.out]
  have Xc2w8 : w8.cell? ⟨w.heap.size, 2, none⟩ = some (.slice A x.cs.length cap) := by simp [World.cell?, Xw8.out]
  have Yc0w8 : w8.cell? ⟨w.heap.size + 1, 0, none⟩ = some (.int .i64 ya) := by simp [World.cell?, Yw8.out]
  have Yc1w8 : w8.cell? ⟨w.heap.size + 1, 1, none⟩ = some (.int .i64 yb) := by simp [World.cell?, Yw8.out]
  have Oc0w8 : w8.cell? ⟨w5.heap.size, 0, none⟩ = some (.int .i64 x.cy) := by simp [World.cell?, Ow8.out]
  have Oc1w8 : w8.cell? ⟨w5.heap.size, 1, none⟩ = some (.int .i64 x.gr) := by simp [World.cell?, Ow8.out]
  have Oc2w8 : w8.cell? ⟨w5.heap.size, 2, none⟩ = some (.slice (some ⟨g5, n0 * 13, none⟩) 1 (cap5 - n0)) := by simp [World.cell?, Ow8.out]
  clear hw8
  clear PP
  have Xa0 : ∀ ob, (w8.alloc ob).cell? ⟨w.heap.size, 0, none⟩ = some (.int .i64 x.cy) := fun ob => (World.cell?_alloc_lt _ _ _ (heap_lt Xw8.out)).trans Xc0w8
  have Xa1 : ∀ ob, (w8.alloc ob).cell? ⟨w.heap.size, 1, none⟩ = some (.int .i64 x.gr) := fun ob => (World.cell?_alloc_lt _ _ _ (heap_lt Xw8.out)).trans Xc1w8
  have Xa2 : ∀ ob, (w8.alloc ob).cell? ⟨w.heap.size, 2, none⟩ = some (.slice A x.cs.length cap) := fun ob => (World.cell?_alloc_lt _ _ _ (heap_lt Xw8.out)).trans Xc2w8
  have Ya0 : ∀ ob, (w8.alloc ob).cell? ⟨w.heap.size + 1, 0, none⟩ = some (.int .i64 ya) := fun ob => (World.cell?_alloc_lt _ _ _ (heap_lt Yw8.out)).trans Yc0w8
  have Ya1 : ∀ ob, (w8.alloc ob).cell? ⟨w.heap.size + 1, 1, none⟩ = some (.int .i64 yb) := fun ob => (World.cell?_alloc_lt _ _ _ (heap_lt Yw8.out)).trans Yc1w8
  have Oa0 : ∀ ob, (w8.alloc ob).cell? ⟨w5.heap.size, 0, none⟩ = some (.int .i64 x.cy) := fun ob => (World.cell?_alloc_lt _ _ _ (heap_lt Ow8.out)).trans Oc0w8
  have Oa1 : ∀ ob, (w8.alloc ob).cell? ⟨w5.heap.size, 1, none⟩ = some (.int .i64 x.gr) := fun ob => (World.cell?_alloc_lt _ _ _ (heap_lt Ow8.out)).trans Oc1w8
  have Oa2 : ∀ ob, (w8.alloc ob).cell? ⟨w5.heap.size, 2, none⟩ = some (.slice (some ⟨g5, n0 * 13, none⟩) 1 (cap5 - n0)) := fun ob => (World.cell?_alloc_lt _ _ _ (heap_lt Ow8.out)).trans Oc2w8
  have hq : (((N : Int) + 1) != (x.cy + 1)) = false := by rw [HN.out]; simp
  have hcyb : 1 ≤ x.cy ∧ x.cy ≤ 120 := by have := HN.out; omega
  go_wp2_with fail
  obtain ⟨w9, hw9⟩ : ∃ w9, w9 = w8.alloc (.cells #[.int .i64 pz.x, .int .i64 pz.y, .int .i64 pz.z] 46) := ⟨_, rfl⟩
  have bw9 : Below w8.heap.size w8 w9 := by rw [hw9]; exact (Below.refl _ _).alloc (Nat.le_refl _) _
  have nw9 : w9.heap[w8.heap.size]? = some (.cells #[.int .i64 pz.x, .int .i64 pz.y, .int .i64 pz.z] 46 (0, 0)) := by rw [hw9]; exact heap_alloc_new _ _
  have Bw9 := Lib.hid (Bw8.out.trans ((bw9).mono mw8))
  have mw9 : w.heap.size ≤ w9.heap.size := Nat.le_trans mw8 (bw9).size
  have Ew9 := Lib.hid (Ew8.out.below ((bw9).mono (by omega)))
  have Iw9 := Lib.hid ((Iw8.out.below (bw9)).mono (bw9).size)
  have Xw9 := Lib.hid (((bw9).block _ (heap_lt Xw8.out)).trans Xw8.out)
  have Yw9 := Lib.hid (((bw9).block _ (heap_lt Yw8.out)).trans Yw8.out)
  have Pw9 := Lib.hid (Pw8.out.below (bw9))
  have Qw9 := Lib.hid (Qw8.out.below (bw9))
  have Jw9 := Lib.hid ((Jw8.out.below (bw9)).mono (bw9).size)
  have Ow9 := Lib.hid (((bw9).block _ (heap_lt Ow8.out)).trans Ow8.out)
  have Rw9 := Lib.hid (Rw8.out.below (bw9))
  clear Bw8 mw8 Ew8 Iw8 Xw8 Yw8 Pw8 Qw8 Jw8 Ow8 Rw8 Xc0w8 Xc1w8 Xc2w8 Yc0w8 Yc1w8 Oc0w8 Oc1w8 Oc2w8
  have Xc0w9 : w9.cell? ⟨w.heap.size, 0, none⟩ = some (.int .i64 x.cy) := by simp [World.cell?, Xw9.out]
  have Xc1w9 : w9.cell? ⟨w.heap.size, 1, none⟩ = some (.int .i64 x.gr) := by simp [World.cell?, Xw9.out]
  have Xc2w9 : w9.cell? ⟨w.heap.size, 2, none⟩ = some (.slice A x.cs.length cap) := by simp [World.cell?, Xw9.out]
  have Yc0w9 : w9.cell? ⟨w.heap.size + 1, 0, none⟩ = some (.int .i64 ya) := by simp [World.cell?, Yw9.out]
  have Yc1w9 : w9.cell? ⟨w.heap.size + 1, 1, none⟩ = some (.int .i64 yb) := by simp [World.cell?, Yw9.out]
  have Oc0w9 : w9.cell? ⟨w5.heap.size, 0, none⟩ = some (.int .i64 x.cy) := by simp [World.cell?, Ow9.out]
  have Oc1w9 : w9.cell? ⟨w5.heap.size, 1, none⟩ = some (.int .i64 x.gr) := by simp [World.cell?, Ow9.out]
  have Oc2w9 : w9.cell? ⟨w5.heap.size, 2, none⟩ = some (.slice (some ⟨g5, n0 * 13, none⟩) 1 (cap5 - n0)) := by simp [World.cell?, Ow9.out]
  rw [← hw9]
  clear hw9 bw9 Xa0 Xa1 Xa2 Ya0 Ya1 Oa0 Oa1 Oa2
  have Zw9 := Lib.hid nw9
  clear nw9
  have Zc0w9 : w9.cell? ⟨w8.heap.size, 0, none⟩ = some (.int .i64 pz.x) := by simp [World.cell?, Zw9.out]
  have Zc1w9 : w9.cell? ⟨w8.heap.size, 1, none⟩ = some (.int .i64 pz.y) := by simp [World.cell?, Zw9.out]
  have Zc2w9 : w9.cell? ⟨w8.heap.size, 2, none⟩ = some (.int .i64 pz.z) := by simp [World.cell?, Zw9.out]
  have EP := planes23 (some ⟨g, 0, none⟩) (some ⟨g7, 0, none⟩) pcap pcap7 (pathL c N) w9 (is_path Pw9.out (Nat.le_refl _) (fun _ _ => rfl)) (is_path Rw9.out (Nat.le_refl _) (fun _ _ => rfl)) (by rw [pathL_len]; omega)
  rw [pathL_len] at EP
  have HEP := Lib.hid EP
  clear EP
  refine (HEP.out).mono ?_
  rintro e w10 ⟨rfl, hw10⟩
  have Bw10 := Lib.hid (Bw9.out.trans ((hw10).mono mw9))
  have mw10 : w.heap.size ≤ w10.heap.size := Nat.le_trans mw9 (hw10).size
  have Ew10 := Lib.hid (Ew9.out.below ((hw10).mono (by omega)))
  have Iw10 := Lib.hid ((Iw9.out.below (hw10)).mono (hw10).size)
  have Xw10 := Lib.hid (((hw10).block _ (heap_lt Xw9.out)).trans Xw9.out)
  have Yw10 := Lib.hid (((hw10).block _ (heap_lt Yw9.out)).trans Yw9.out)
  have Pw10 := Lib.hid (Pw9.out.below (hw10))
  have Qw10 := Lib.hid (Qw9.out.below (hw10))
  have Jw10 := Lib.hid ((Jw9.out.below (hw10)).mono (hw10).size)
  have Ow10 := Lib.hid (((hw10).block _ (heap_lt Ow9.out)).trans Ow9.out)
  have Rw10 := Lib.hid (Rw9.out.below (hw10))
  have Zw10 := Lib.hid (((hw10).block _ (heap_lt Zw9.out)).trans Zw9.out)
  clear Bw9 mw9 Ew9 Iw9 Xw9 Yw9 Pw9 Qw9 Jw9 Ow9 Rw9 Zw9 Xc0w9 Xc1w9 Xc2w9 Yc0w9 Yc1w9 Oc0w9 Oc1w9 Oc2w9 Zc0w9 Zc1w9 Zc2w9
  have Xc0w10 : w10.cell? ⟨w.heap.size, 0, none⟩ = some (.int .i64 x.cy) := by simp [World.cell?, Xw10.out]
  have Xc1w10 : w10.cell? ⟨w.heap.size, 1, none⟩ = some (.int .i64 x.gr) := by simp [World.cell?, Xw10.out]
  have Xc2w10 : w10.cell? ⟨w.heap.size, 2, none⟩ = some (.slice A x.cs.length cap) := by simp [World.cell?, Xw10.out]
  have Yc0w10 : w10.cell? ⟨w.heap.size + 1, 0, none⟩ = some (.int .i64 ya) := by simp [World.cell?, Yw10.out]
  have Yc1w10 : w10.cell? ⟨w.heap.size + 1, 1, none⟩ = some (.int .i64 yb) := by simp [World.cell?, Yw10.out]
  have Oc0w10 : w10.cell? ⟨w5.heap.size, 0, none⟩ = some (.int .i64 x.cy) := by simp [World.cell?, Ow10.out]
  have Oc1w10 : w10.cell? ⟨w5.heap.size, 1, none⟩ = some (.int .i64 x.gr) := by simp [World.cell?, Ow10.out]
  have Oc2w10 : w10.cell? ⟨w5.heap.size, 2, none⟩ = some (.slice (some ⟨g5, n0 * 13, none⟩) 1 (cap5 - n0)) := by simp [World.cell?, Ow10.out]
  have Zc0w10 : w10.cell? ⟨w8.heap.size, 0, none⟩ = some (.int .i64 pz.x) := by simp [World.cell?, Zw10.out]
  have Zc1w10 : w10.cell? ⟨w8.heap.size, 1, none⟩ = some (.int .i64 pz.y) := by simp [World.cell?, Zw10.out]
  have Zc2w10 : w10.cell? ⟨w8.heap.size, 2, none⟩ = some (.int .i64 pz.z) := by simp [World.cell?, Zw10.out]
  clear hw10
  clear HEP
  go_upto_if 81 with (fail)
  go_cut [] (fun wx => Below w10.heap.size w10 wx)
  case first =>
    have hz := HZ.out
    by_cases hk : inB k 0 x.cy = true
    · rw [if_neg (by rw [hk]; decide)] at hz
      obtain ⟨rfl, rfl⟩ := Prod.mk.inj hz
      clear hz
      obtain ⟨k0, k1⟩ := inB_iff hk
      obtain ⟨m, rfl⟩ : ∃ m : Nat, k = m := ⟨k.toNat, by omega⟩
      have hmN : m ≤ N := by have := HN.out; omega
      clear hk
      have z0 : w10.cell? ⟨w8.heap.size, 0, none⟩ = some (.int .i64 (c.p.x + (m : Int) * c.v.x)) := Zc0w10
      have z1 : w10.cell? ⟨w8.heap.size, 1, none⟩ = some (.int .i64 (c.p.y + (m : Int) * c.v.y)) := Zc1w10
      have z2 : w10.cell? ⟨w8.heap.size, 2, none⟩ = some (.int .i64 (flyN c m).1) := Zc2w10
      have pm := (Pw10.out.2 m hmN).1
      clear Zc0w10 Zc1w10 Zc2w10
      obtain ⟨cb, off, rfl, hcb, hcr⟩ := Iw10.out (by omega)
      obtain ⟨LA, lcap, hat, -⟩ := hcr n0 c JC.out
      clear hcr
      obtain ⟨c0, c1, c2, c3, c4, c5, c6, c7, c8, c9, c10, c11, c12⟩ := hat
      have hltI : (n0 : Int) < (x.cs.length : Int) := by omega
      obtain ⟨hp, hv, -⟩ := crE_ok CRC.out
      unfold okP at hp
      unfold okV at hv
      obtain ⟨m1, m2⟩ := mv_bd k0 (by omega) hv.1 hv.2.1
      obtain ⟨m3, m4⟩ := mv_bd k0 (by omega) hv.2.2.1 hv.2.2.2.1
      have q1 : IntKind.i64.wrap ((m : Int) * c.v.x) = (m : Int) * c.v.x := IntWalk.i64_in _ (by omega)
      have q2 : IntKind.i64.wrap ((m : Int) * c.v.y) = (m : Int) * c.v.y := IntWalk.i64_in _ (by omega)
      have q3 : IntKind.i64.wrap (c.p.x + (m : Int) * c.v.x) = c.p.x + (m : Int) * c.v.x := IntWalk.i64_in _ (by omega)
      have q4 : IntKind.i64.wrap (c.p.y + (m : Int) * c.v.y) = c.p.y + (m : Int) * c.v.y := IntWalk.i64_in _ (by omega)
      clear hp hv m1 m2 m3 m4
      have b1 : decide ((m : Int) < 0) = false := decide_eq_false (by omega)
      have b2 : decide (x.cy < (m : Int)) = false := decide_eq_false (by omega)
      go_upto_region 13 with fail
      obtain ⟨w11, hw11⟩ : ∃ w11, w11 = w10.alloc (.cells #[.int .i64 c.ad, .int .i64 c.p.x, .int .i64 c.p.y, .int .i64 c.p.z, .int .i64 c.v.x, .int .i64 c.v.y, .int .i64 c.v.z, .int .i64 c.pu, .slice LA c.lg.length lcap, .int .u8 c.mo, .int .i64 c.de, .int .i64 c.pp, .int .i64 c.mi] 63) := ⟨_, rfl⟩
      have b11 : Below w10.heap.size w10 w11 := by rw [hw11]; exact (Below.refl _ _).alloc (Nat.le_refl _) _
      have zg := Pw10.out.1
      have sX := heap_lt Xw10.out
      have sZ := heap_lt Zw10.out
      have xc := (b11.cell (p := ⟨w.heap.size, 0, none⟩) sX).trans Xc0w10
      have y0 := (b11.cell (p := ⟨w8.heap.size, 0, none⟩) sZ).trans z0
      have y1 := (b11.cell (p := ⟨w8.heap.size, 1, none⟩) sZ).trans z1
      have y2 := (b11.cell (p := ⟨w8.heap.size, 2, none⟩) sZ).trans z2
      have ym := (b11.cell (p := ⟨g, m * 2, none⟩) zg).trans pm
      have d0 : w11.cell? ⟨w10.heap.size, 0, none⟩ = some (.int .i64 c.ad) := by rw [hw11]; simp
      have d1 : w11.cell? ⟨w10.heap.size, 1, none⟩ = some (.int .i64 c.p.x) := by rw [hw11]; simp
      have d2 : w11.cell? ⟨w10.heap.size, 2, none⟩ = some (.int .i64 c.p.y) := by rw [hw11]; simp
      have d3 : w11.cell? ⟨w10.heap.size, 3, none⟩ = some (.int .i64 c.p.z) := by rw [hw11]; simp
      have d4 : w11.cell? ⟨w10.heap.size, 4, none⟩ = some (.int .i64 c.v.x) := by rw [hw11]; simp
      have d5 : w11.cell? ⟨w10.heap.size, 5, none⟩ = some (.int .i64 c.v.y) := by rw [hw11]; simp
      have d6 : w11.cell? ⟨w10.heap.size, 6, none⟩ = some (.int .i64 c.v.z) := by rw [hw11]; simp
      have d7 : w11.cell? ⟨w10.heap.size, 7, none⟩ = some (.int .i64 c.pu) := by rw [hw11]; simp
      have d8 : w11.cell? ⟨w10.heap.size, 8, none⟩ = some (.slice LA c.lg.length lcap) := by rw [hw11]; simp
      have d9 : w11.cell? ⟨w10.heap.size, 9, none⟩ = some (.int .u8 c.mo) := by rw [hw11]; simp
      have d10 : w11.cell? ⟨w10.heap.size, 10, none⟩ = some (.int .i64 c.de) := by rw [hw11]; simp
      have d11 : w11.cell? ⟨w10.heap.size, 11, none⟩ = some (.int .i64 c.pp) := by rw [hw11]; simp
      have d12 : w11.cell? ⟨w10.heap.size, 12, none⟩ = some (.int .i64 c.mi) := by rw [hw11]; simp
      rw [← hw11]
      clear hw11 c0 c1 c2 c3 c4 c5 c6 c7 c8 c9 c10 c11 c12 z0 z1 z2 pm
      have i2 : (m : Int) < (N : Int) + 1 := by omega
      go_quiet (fail)
      go_wp2_with fail
      go_meet
      case rel => exact below_drewN b11 _
    · rw [if_pos ((Bool.eq_false_or_eq_true _).resolve_left hk)] at hz
      obtain ⟨rfl, rfl⟩ := Prod.mk.inj hz
      clear hz
      have hk2 : ¬ (0 ≤ k ∧ k ≤ x.cy) := fun h => hk (inB_t h.1 h.2)
      by_cases k0 : 0 ≤ k
      · have k1 : ¬ k ≤ x.cy := fun h => hk2 ⟨k0, h⟩
        clear hk hk2
        go_wp2_with fail
        go_meet
        case rel => exact Below.refl _ _
      · clear hk hk2
        go_wp2_with fail
        go_meet
        case rel => exact Below.refl _ _
  case rest =>
    obtain ⟨wa, hwa⟩ : ∃ wa, wa = wc := ⟨_, rfl⟩
    subst hwa
    have Bwa := Lib.hid (Bw10.out.trans ((hcut).mono mw10))
    have mwa : w.heap.size ≤ wa.heap.size := Nat.le_trans mw10 (hcut).size
    have Ewa := Lib.hid (Ew10.out.below ((hcut).mono (by omega)))
    have Iwa := Lib.hid ((Iw10.out.below (hcut)).mono (hcut).size)
    have Xwa := Lib.hid (((hcut).block _ (heap_lt Xw10.out)).trans Xw10.out)
    have Ywa := Lib.hid (((hcut).block _ (heap_lt Yw10.out)).trans Yw10.out)
    have Pwa := Lib.hid (Pw10.out.below (hcut))
    have Qwa := Lib.hid (Qw10.out.below (hcut))
    have Jwa := Lib.hid ((Jw10.out.below (hcut)).mono (hcut).size)
    have Owa := Lib.hid (((hcut).block _ (heap_lt Ow10.out)).trans Ow10.out)
    have Rwa := Lib.hid (Rw10.out.below (hcut))
    have Zwa := Lib.hid (((hcut).block _ (heap_lt Zw10.out)).trans Zw10.out)
    clear Bw10 mw10 Ew10 Iw10 Xw10 Yw10 Pw10 Qw10 Jw10 Ow10 Rw10 Zw10 Xc0w10 Xc1w10 Xc2w10 Yc0w10 Yc1w10 Oc0w10 Oc1w10 Oc2w10 Zc0w10 Zc1w10 Zc2w10
    have Xc0wa : wa.cell? ⟨w.heap.size, 0, none⟩ = some (.int .i64 x.cy) := by simp [World.cell?, Xwa.out]
    have Xc1wa : wa.cell? ⟨w.heap.size, 1, none⟩ = some (.int .i64 x.gr) := by simp [World.cell?, Xwa.out]
    have Xc2wa : wa.cell? ⟨w.heap.size, 2, none⟩ = some (.slice A x.cs.length cap) := by simp [World.cell?, Xwa.out]
    have Yc0wa : wa.cell? ⟨w.heap.size + 1, 0, none⟩ = some (.int .i64 ya) := by simp [World.cell?, Ywa.out]
    have Yc1wa : wa.cell? ⟨w.heap.size + 1, 1, none⟩ = some (.int .i64 yb) := by simp [World.cell?, Ywa.out]
    have Oc0wa : wa.cell? ⟨w5.heap.size, 0, none⟩ = some (.int .i64 x.cy) := by simp [World.cell?, Owa.out]
    have Oc1wa : wa.cell? ⟨w5.heap.size, 1, none⟩ = some (.int .i64 x.gr) := by simp [World.cell?, Owa.out]
    have Oc2wa : wa.cell? ⟨w5.heap.size, 2, none⟩ = some (.slice (some ⟨g5, n0 * 13, none⟩) 1 (cap5 - n0)) := by simp [World.cell?, Owa.out]
    have Zc0wa : wa.cell? ⟨w8.heap.size, 0, none⟩ = some (.int .i64 pz.x) := by simp [World.cell?, Zwa.out]
    have Zc1wa : wa.cell? ⟨w8.heap.size, 1, none⟩ = some (.int .i64 pz.y) := by simp [World.cell?, Zwa.out]
    have Zc2wa : wa.cell? ⟨w8.heap.size, 2, none⟩ = some (.int .i64 pz.z) := by simp [World.cell?, Zwa.out]
    clear hcut
    go_upto_region 18 with fail
    go_cut [] (fun wx => LegR w4.heap.size g5 cap5 (x.cs.take n0 ++ [c.leg (ya, yb)]) wa wx)
    case first =>
      obtain ⟨gc, init, cl, linit, LA, lcap, e, -, hcs, hlv, hc8, hfr, hrowL⟩ := Qwa.out.last (by omega)
      injection e with e
      injection e with e
      subst e
      have hil : init.length = n0 := by have h := HN0.out; rw [hcs] at h; simpa using h
      have hcl : cl = c := by have h := JC.out; rw [hcs, ← hil] at h; simpa using h
      subst hcl
      have hti : x.cs.take n0 = init := by rw [hcs, ← hil]; simp
      have HTI := Lib.hid hti
      clear hti
      rw [hil] at hc8
      have HQ := Lib.hid (show PS wa w4.heap.size (.slice (some ⟨g5, 0, none⟩) x.cs.length cap5) x.cs lvs Bl from Qwa.out)
      have HIL := Lib.hid hil
      have HCS := Lib.hid hcs
      have HLV := Lib.hid hlv
      have HRL : Hid (∀ ob, (wa.drew.alloc ob).ownsRow Bl 54 2 (.slice LA cl.lg.length lcap) cl.lg.length ((flat cl.lg).map (Value.int .i64))) := Lib.hid (fun ob => World.ownsRow.alloc (w := wa.drew) hrowL ob)
      have hgc : g5 < wa.heap.size := (Qwa.out.row.lt g5 rfl).2
      have hlg16 : cl.lg.length ≤ 1000 := HLEN.out cl HCM.out
      have hYd : wa.drew.heap[w.heap.size + 1]? = some (.cells #[.int .i64 ya, .int .i64 yb] 54 (0, 0)) := Ywa.out
      have hc8a : ∀ ob, (wa.drew.alloc ob).cell? ⟨g5, n0 * 13 + 8, none⟩ = some (.slice LA cl.lg.length lcap) := fun ob => (World.cell?_alloc_lt _ _ _ (show g5 < wa.heap.size from hgc)).trans hc8
      have hc8b : ∀ ob, (wa.alloc ob).drew.cell? ⟨g5, n0 * 13 + 8, none⟩ = some (.slice LA cl.lg.length lcap) := fun ob => hc8a ob
      have hc8c : ∀ ob, (wa.alloc ob).cell? ⟨g5, n0 * 13 + 8, none⟩ = some (.slice LA cl.lg.length lcap) := fun ob => hc8a ob
      have hc8d : wa.drew.cell? ⟨g5, n0 * 13 + 8, none⟩ = some (.slice LA cl.lg.length lcap) := hc8
      have HFR := Lib.hid hfr
      have HYd := Lib.hid hYd
      have B4 : Hid (w4.heap.size ≤ wa.heap.size) := Lib.hid (by omega)
      clear hil hcs hlv hrowL hfr
      have hgB : w4.heap.size ≤ g5 := (HQ.out.row.lt g5 rfl).1
      have hO5 := heap_lt Owa.out
      obtain ⟨i1, hi1, hj0, hj1, hj2⟩ := info_parts Leg_info
      refine wp_region_held_drew (S := fun w' => w'.heap[w.heap.size + 1]? = some (.cells #[.int .i64 ya, .int .i64 yb] 54 (0, 0))) (by kernel_rfl) HYd.out (fun hS => ?_)
      refine wpAnyH_take (i := 0) (v := ?v0) rfl (by kernel_rfl) (by kernel_rfl) (by kernel_rfl) (fun _ _ _ h => h) (Or.inl ⟨by rfl, ?h0⟩) hS ?r0
      case h0 =>
        intro w1 hSw
        have y0 : w1.cell? ⟨w.heap.size + 1, 0, none⟩ = some (.int .i64 ya) := by simp [World.cell?, hSw]
        have y1 : w1.cell? ⟨w.heap.size + 1, 1, none⟩ = some (.int .i64 yb) := by simp [World.cell?, hSw]
        clear hSw
        go_simp
        try with_reducible rfl
      (try simp only [Act.put])
      refine wpAnyH_take (i := 1) (v := ?v1) rfl (by kernel_rfl) (by kernel_rfl) (by kernel_rfl) (fun _ _ _ h => h) (Or.inl ⟨by rfl, ?h1⟩) hS ?r1
      case h1 =>
        intro w1 hSw
        have y0 : w1.cell? ⟨w.heap.size + 1, 0, none⟩ = some (.int .i64 ya) := by simp [World.cell?, hSw]
        have y1 : w1.cell? ⟨w.heap.size + 1, 1, none⟩ = some (.int .i64 yb) := by simp [World.cell?, hSw]
        clear hSw
        go_simp
        try with_reducible rfl
      (try simp only [Act.put])
      refine wpAnyH_take (i := 2) (v := ?v2) rfl (by kernel_rfl) (by kernel_rfl) (by kernel_rfl) (fun _ _ _ h => h) (Or.inl ⟨by rfl, ?h2⟩) hS ?r2
      case h2 =>
        intro w1 hSw
        have y0 : w1.cell? ⟨w.heap.size + 1, 0, none⟩ = some (.int .i64 ya) := by simp [World.cell?, hSw]
        have y1 : w1.cell? ⟨w.heap.size + 1, 1, none⟩ = some (.int .i64 yb) := by simp [World.cell?, hSw]
        clear hSw
        go_simp
        try with_reducible rfl
      (try simp only [Act.put])
      refine wpAnyH_take (i := 3) (v := ?v3) rfl (by kernel_rfl) (by kernel_rfl) (by kernel_rfl) (fun _ _ _ h => h) (Or.inl ⟨by rfl, ?h3⟩) hS ?r3
      case h3 =>
        intro w1 hSw
        have y0 : w1.cell? ⟨w.heap.size + 1, 0, none⟩ = some (.int .i64 ya) := by simp [World.cell?, hSw]
        have y1 : w1.cell? ⟨w.heap.size + 1, 1, none⟩ = some (.int .i64 yb) := by simp [World.cell?, hSw]
        clear hSw
        go_simp
        try with_reducible rfl
      (try simp only [Act.put])
      refine wpAnyH_take (i := 5) (v := ?v5) rfl (by kernel_rfl) (by kernel_rfl) (by kernel_rfl) (fun _ _ _ h => h) (Or.inl ⟨by rfl, ?h5⟩) hS ?r5
      case h5 =>
        intro w1 hSw
        have y0 : w1.cell? ⟨w.heap.size + 1, 0, none⟩ = some (.int .i64 ya) := by simp [World.cell?, hSw]
        have y1 : w1.cell? ⟨w.heap.size + 1, 1, none⟩ = some (.int .i64 yb) := by simp [World.cell?, hSw]
        clear hSw
        go_simp
        try with_reducible rfl
      (try simp only [Act.put])
      refine wpAnyH_ready (rs := [4, 6]) (by kernel_rfl) (by simp) (AllReadyH.cons rfl (fun K hK => ?first1) (AllReadyH.cons rfl (fun K hK => ?second1) AllReadyH.nil))
      case first1 =>
        go_simp
        refine hK.out _ _ hS (fun _ => ?_)
        clear hK K
        refine wpAnyH_ready (rs := [6]) (by kernel_rfl) (by simp) (AllReadyH.cons rfl (fun K hK => ?_) AllReadyH.nil)
        go_simp
        refine hK.out _ _ ((Below.heap_alloc wa.drew _ _ (heap_lt HYd.out)).trans HYd.out) (fun hS => ?_)
        clear hK K
        refine wpAnyH_ready (rs := [7]) (by kernel_rfl) (by simp) (AllReadyH.cons rfl (fun K hK => ?_) AllReadyH.nil)
        rw [if_pos (by kernel_rfl)]
        refine wp_append_own _ _ _ 52 rfl Bl 54 i1 _ 2 16 Tryz.underlying52 hi1 hj0 hj1 hj2 rfl (by decide) (.slice LA cl.lg.length lcap) cl.lg.length _ rfl (HRL.out (.cells #[.int .i64 ya, .int .i64 yb] 54)) ⟨wa.heap.size, 0, none⟩ 1 1 [.int .i64 ya, .int .i64 yb] rfl rfl (World.news_of_block (cs := #[.int .i64 ya, .int .i64 yb]) (heap_alloc_new wa.drew _)) (by simp [Value.oneCell']) (by unfold maxLen; omega) (by omega) (by simp; omega) ?_
        intro v' w2 hown' hgrow _
        obtain ⟨g', cap', rfl⟩ := ownsRow_succ hown'
        have hBl4 := q1le HQ.out HCS.out HLV.out
        have sb : w2.heap[w.heap.size + 1]? = some (.cells #[.int .i64 ya, .int .i64 yb] 54 (0, 0)) := (hgrow.block _ (by simp; omega) (fun e => by have := ((HRL.out (.cells #[.int .i64 ya, .int .i64 yb] 54)).lt _ e.symm).1; omega)).trans ((Below.heap_alloc wa.drew _ _ (heap_lt HYd.out)).trans HYd.out)
        have hrw := (HQ.out.grown (w' := wa.drew.alloc (.cells #[.int .i64 ya, .int .i64 yb] 54)) (row := none) ⟨rfl, rfl, rfl, (World.grownBy_alloc wa.drew _ none).size, (World.grownBy_alloc wa.drew _ none).block⟩ (foreign_none _)).row
        have hgcne : some g5 ≠ (Value.slice LA cl.lg.length lcap).ownBlock := own_ne hrw (HRL.out (.cells #[.int .i64 ya, .int .i64 yb] 54)) (by decide) rfl
        have e_gc : w2.heap[g5]? = wa.heap[g5]? := (hgrow.block _ (by simp; omega) hgcne).trans (Below.heap_alloc wa.drew _ _ (show g5 < wa.heap.size from hgc))
        have y8 : w2.cell? ⟨g5, n0 * 13 + 8, none⟩ = some (.slice LA cl.lg.length lcap) := (World.cell?_of_block e_gc).trans hc8
        have yf : ∀ i, w2.frozen? ⟨g5, i, none⟩ = false := fun i => (World.frozen?_of_block e_gc).trans (HFR.out i)
        have HLR := Lib.hid (legR_of (ya := ya) HCS.out HLV.out B4.out HQ.out hown' hgrow)
        rw [HIL.out] at HLR
        clear hown' hgrow hrw hgcne e_gc
        refine hK.out _ _ sb (fun hS => ?_)
        clear hK K
        refine wpAnyH_ready (rs := [8]) (by kernel_rfl) (by simp) (AllReadyH.cons rfl (fun K hK => ?_) AllReadyH.nil)
        go_simp
        refine hK.out _ _ hS (fun hS => ?_)
        clear hK K
        refine wpAnyH_ready (rs := [9]) (by kernel_rfl) (by simp) (AllReadyH.cons rfl (fun K hK => ?_) AllReadyH.nil)
        go_simp
        refine hK.out _ _ hS (fun hS => ?_)
        clear hK K
        refine wpAnyH_ready (rs := [10]) (by kernel_rfl) (by simp) (AllReadyH.cons rfl (fun K hK => ?_) AllReadyH.nil)
        go_simp
        refine hK.out _ _ ((set_far _ _ _ _ _ (by omega)).trans sb) (fun _ => ?_)
        clear hK K
        refine wpAnyH_done (by kernel_rfl) ?_ _
        go_wp2_with fail
        go_meet
        case rel => exact (by rw [HTI.out]; exact HLR.out)
      case second1 =>
        go_simp
        refine hK.out _ _ ((Below.heap_alloc wa.drew _ _ (heap_lt HYd.out)).trans HYd.out) (fun hS => ?_)
        clear hK K
        refine wpAnyH_ready (rs := [4]) (by kernel_rfl) (by simp) (AllReadyH.cons rfl (fun K hK => ?_) AllReadyH.nil)
        go_simp
        refine hK.out _ _ hS (fun hS => ?_)
        clear hK K
        refine wpAnyH_ready (rs := [7]) (by kernel_rfl) (by simp) (AllReadyH.cons rfl (fun K hK => ?_) AllReadyH.nil)
        rw [if_pos (by kernel_rfl)]
        refine wp_append_own _ _ _ 52 rfl Bl 54 i1 _ 2 16 Tryz.underlying52 hi1 hj0 hj1 hj2 rfl (by decide) (.slice LA cl.lg.length lcap) cl.lg.length _ rfl (HRL.out (.cells #[.int .i64 ya, .int .i64 yb] 54)) ⟨wa.heap.size, 0, none⟩ 1 1 [.int .i64 ya, .int .i64 yb] rfl rfl (World.news_of_block (cs := #[.int .i64 ya, .int .i64 yb]) (heap_alloc_new wa.drew _)) (by simp [Value.oneCell']) (by unfold maxLen; omega) (by omega) (by simp; omega) ?_
        intro v' w2 hown' hgrow _
        obtain ⟨g', cap', rfl⟩ := ownsRow_succ hown'
        have hBl4 := q1le HQ.out HCS.out HLV.out
        have sb : w2.heap[w.heap.size + 1]? = some (.cells #[.int .i64 ya, .int .i64 yb] 54 (0, 0)) := (hgrow.block _ (by simp; omega) (fun e => by have := ((HRL.out (.cells #[.int .i64 ya, .int .i64 yb] 54)).lt _ e.symm).1; omega)).trans ((Below.heap_alloc wa.drew _ _ (heap_lt HYd.out)).trans HYd.out)
        have hrw := (HQ.out.grown (w' := wa.drew.alloc (.cells #[.int .i64 ya, .int .i64 yb] 54)) (row := none) ⟨rfl, rfl, rfl, (World.grownBy_alloc wa.drew _ none).size, (World.grownBy_alloc wa.drew _ none).block⟩ (foreign_none _)).row
        have hgcne : some g5 ≠ (Value.slice LA cl.lg.length lcap).ownBlock := own_ne hrw (HRL.out (.cells #[.int .i64 ya, .int .i64 yb] 54)) (by decide) rfl
        have e_gc : w2.heap[g5]? = wa.heap[g5]? := (hgrow.block _ (by simp; omega) hgcne).trans (Below.heap_alloc wa.drew _ _ (show g5 < wa.heap.size from hgc))
        have y8 : w2.cell? ⟨g5, n0 * 13 + 8, none⟩ = some (.slice LA cl.lg.length lcap) := (World.cell?_of_block e_gc).trans hc8
        have yf : ∀ i, w2.frozen? ⟨g5, i, none⟩ = false := fun i => (World.frozen?_of_block e_gc).trans (HFR.out i)
        have HLR := Lib.hid (legR_of (ya := ya) HCS.out HLV.out B4.out HQ.out hown' hgrow)
        rw [HIL.out] at HLR
        clear hown' hgrow hrw hgcne e_gc
        refine hK.out _ _ sb (fun hS => ?_)
        clear hK K
        refine wpAnyH_ready (rs := [8]) (by kernel_rfl) (by simp) (AllReadyH.cons rfl (fun K hK => ?_) AllReadyH.nil)
        go_simp
        refine hK.out _ _ hS (fun hS => ?_)
        clear hK K
        refine wpAnyH_ready (rs := [9]) (by kernel_rfl) (by simp) (AllReadyH.cons rfl (fun K hK => ?_) AllReadyH.nil)
        go_simp
        refine hK.out _ _ hS (fun hS => ?_)
        clear hK K
        refine wpAnyH_ready (rs := [10]) (by kernel_rfl) (by simp) (AllReadyH.cons rfl (fun K hK => ?_) AllReadyH.nil)
        go_simp
        refine hK.out _ _ ((set_far _ _ _ _ _ (by omega)).trans sb) (fun _ => ?_)
        clear hK K
        refine wpAnyH_done (by kernel_rfl) ?_ _
        go_wp2_with fail
        go_meet
        case rel => exact (by rw [HTI.out]; exact HLR.out)
    case rest =>
      obtain ⟨wb, hwb⟩ : ∃ wb, wb = wc := ⟨_, rfl⟩
      subst hwb
      obtain ⟨⟨lvs2, Bl2, hps2⟩, hbB, hkeep⟩ := hcut
      have hlen2 : (x.cs.take n0 ++ [c.leg (ya, yb)]).length = x.cs.length := by have := HN0.out; simp; omega
      have hl3 : (x.cs.take n0).length = n0 := by have := HN0.out; rw [List.length_take]; omega
      obtain ⟨g5b, cap5b, e, -, -, -, hin2⟩ := hps2.last_in (m := n0) (c := c.leg (ya, yb)) (by rw [List.getElem?_append_right (by omega), hl3, Nat.sub_self]; rfl)
      rw [hlen2] at e
      injection e with e1 e2 e3
      injection e1 with e1
      injection e1 with e1 e4
      subst e1 e3
      have Jwb := Lib.hid hin2
      have Owb := Lib.hid ((hkeep _ _ _ _ Owa.out (by decide) (by decide)).trans Owa.out)
      have Ywb := Lib.hid ((hbB.block _ hsY4).trans Ywa.out)
      have Pwb : Hid (PathG wb g c N) := Lib.hid ⟨Nat.lt_of_lt_of_le Pwa.out.1 hbB.size, Pwa.out.2.below hbB hg4⟩
      have Bwb := Lib.hid (Bwa.out.trans (hbB.mono (by omega)))
      have mwb : w.heap.size ≤ wb.heap.size := Nat.le_trans mwa hbB.size
      clear hin2 hps2 hkeep hlen2 hbB e2 e4 Jwa Owa Ywa Pwa Bwa mwa Xwa Iwa Ewa Rwa Zwa Qwa Xc0wa Xc1wa Xc2wa Yc0wa Yc1wa Oc0wa Oc1wa Oc2wa Zc0wa Zc1wa Zc2wa
      have Yc0wb : wb.cell? ⟨w.heap.size + 1, 0, none⟩ = some (.int .i64 ya) := by simp [World.cell?, Ywb.out]
      have Yc1wb : wb.cell? ⟨w.heap.size + 1, 1, none⟩ = some (.int .i64 yb) := by simp [World.cell?, Ywb.out]
      have Oc0wb : wb.cell? ⟨w5.heap.size, 0, none⟩ = some (.int .i64 x.cy) := by simp [World.cell?, Owb.out]
      have Oc1wb : wb.cell? ⟨w5.heap.size, 1, none⟩ = some (.int .i64 x.gr) := by simp [World.cell?, Owb.out]
      have Oc2wb : wb.cell? ⟨w5.heap.size, 2, none⟩ = some (.slice (some ⟨g5, n0 * 13, none⟩) 1 (cap5 - n0)) := by simp [World.cell?, Owb.out]
      have PP := path_only x (c.leg (ya, yb)) _ (cap5 - n0) wb Jwb.out (by omega)
      rw [only_path] at PP
      go_wp2_with fail
      by_cases hce : chE (onlyE x (c.leg (ya, yb))) = 0
      · rw [if_neg (fun h => h hce)] at PP
        obtain ⟨ya0, ya1⟩ := alone_leg hce
        clear hce
        have hNx := HN.out
        rw [show x.cy.toNat = N by omega] at PP
        clear hNx
        obtain ⟨m, rfl⟩ : ∃ m : Nat, ya = m := ⟨ya.toNat, by omega⟩
        have ya0 : (0 : Int) ≤ (m : Int) := ya0
        have hmN : m + 1 ≤ N := by have := HN.out; have : (m : Int) ≤ x.cy - 1 := ya1; omega
        clear ya1
        refine (PP).mono ?_
        rintro e wd ⟨PA, pcd, rfl, hpcd, hown, hwd⟩
        have Bwd := Lib.hid (Bwb.out.trans ((hwd).mono mwb))
        have mwd : w.heap.size ≤ wd.heap.size := Nat.le_trans mwb (hwd).size
        have Jwd := Lib.hid ((Jwb.out.below (hwd)).mono (hwd).size)
        have Owd := Lib.hid (((hwd).block _ (heap_lt Owb.out)).trans Owb.out)
        have Ywd := Lib.hid (((hwd).block _ (heap_lt Ywb.out)).trans Ywb.out)
        have Pwd := Lib.hid (Pwb.out.below (hwd))
        clear Bwb mwb Jwb Owb Ywb Pwb Yc0wb Yc1wb Oc0wb Oc1wb Oc2wb
        have Yc0wd : wd.cell? ⟨w.heap.size + 1, 0, none⟩ = some (.int .i64 (m : Int)) := by simp [World.cell?, Ywd.out]
        have Yc1wd : wd.cell? ⟨w.heap.size + 1, 1, none⟩ = some (.int .i64 yb) := by simp [World.cell?, Ywd.out]
        have Oc0wd : wd.cell? ⟨w5.heap.size, 0, none⟩ = some (.int .i64 x.cy) := by simp [World.cell?, Owd.out]
        have Oc1wd : wd.cell? ⟨w5.heap.size, 1, none⟩ = some (.int .i64 x.gr) := by simp [World.cell?, Owd.out]
        have Oc2wd : wd.cell? ⟨w5.heap.size, 2, none⟩ = some (.slice (some ⟨g5, n0 * 13, none⟩) 1 (cap5 - n0)) := by simp [World.cell?, Owd.out]
        clear hwd
        obtain ⟨gd, rfl, hgd, zg, hp⟩ := Own.pathV hown
        clear hown
        have Rwd : Hid (PathG wd gd (c.leg ((m : Int), yb)) N) := Lib.hid ⟨zg, hp⟩
        have hpN2 : N + 1 ≤ pcd := by simpa [pathL_len] using hpcd
        clear hp zg PP hpcd
        rw [show (pathL (c.leg ((m : Int), yb)) N, (0 : Int)).1.length = N + 1 from pathL_len _ _]
        have EP := planes23 (some ⟨gd, 0, none⟩) (some ⟨g, 0, none⟩) pcd pcap (pathL c m) wd.drew (is_path (w := wd) Rwd.out (by omega) (fun j hj => flyN_leg c _ j (by show (j : Int) ≤ (m : Int); omega))) (is_path (w := wd) Pwd.out (by omega) (fun _ _ => rfl)) (by rw [pathL_len]; omega)
        rw [pathL_len] at EP
        have HEP := Lib.hid EP
        clear EP
        have b1 : decide (m < N + 1) = true := decide_eq_true (by omega)
        have b2 : decide ((m : Int) < (N : Int) + 1) = true := decide_eq_true (by omega)
        have b3 : (m : Int) < (N : Int) + 1 := by omega
        have w1 : IntKind.i64.wrap ((m : Int) + 1) = (m : Int) + 1 := IntWalk.i64_in _ (by omega)
        have t1 : ((m : Int) + 1).toNat = m + 1 := by omega
        have s1 : m + 1 ≤ pcd := by omega
        have s2 : m + 1 ≤ pcap := by omega
        have s3 : (0 : Int) ≤ (m : Int) + 1 := by omega
        have s4 : (m : Int) + 1 ≤ (pcd : Int) := by omega
        have s5 : (m : Int) + 1 ≤ (pcap : Int) := by omega
        go_wp2_with fail
        refine still_drew 28 (by kernel_rfl) (by kernel_rfl) ?_
        simp only [List.take_succ_cons, List.take_zero, List.drop_succ_cons, List.drop_zero]
        repeat still_step
        refine wpStill_nil ?_
        go_wp2_with fail
        refine (HEP.out).mono ?_
        rintro e we ⟨rfl, hwe⟩
        go_wp2_with fail
        go_ret
        exact ⟨rfl, Bwd.out.drew.trans (hwe.mono mwd)⟩
      · have hcb2 : (chE (onlyE x (c.leg (ya, yb))) != 0) = true := by simpa using hce
        rw [if_pos hce] at PP
        have hc1 : 1 ≤ cap5 - n0 := by omega
        have CO : Hid (∀ w' : World, InCr w' w'.heap.size (some ⟨g5, n0 * 13, none⟩) [c.leg (ya, yb)] → Calls Tryz.prog 19 #[.agg #[.int .i64 x.cy, .int .i64 x.gr, .slice (some ⟨g5, n0 * 13, none⟩) 1 (cap5 - n0)]] w' fun e w2 => e = .returned (.int .i64 (chE (onlyE x (c.leg (ya, yb))))) ∧ Below w'.heap.size w' w2) := Lib.hid (fun w' h => check_only x (c.leg (ya, yb)) _ (cap5 - n0) w' h hc1)
        obtain ⟨ee, hee⟩ : ∃ ee, ee = chE (onlyE x (c.leg (ya, yb))) := ⟨_, rfl⟩
        rw [← hee] at PP CO hcb2
        clear hee hce
        refine (PP).mono ?_
        rintro e wd ⟨PA, pcd, rfl, -, -, hwd⟩
        have Bwd := Lib.hid (Bwb.out.trans ((hwd).mono mwb))
        have mwd : w.heap.size ≤ wd.heap.size := Nat.le_trans mwb (hwd).size
        have Jwd := Lib.hid ((Jwb.out.below (hwd)).mono (hwd).size)
        have Owd := Lib.hid (((hwd).block _ (heap_lt Owb.out)).trans Owb.out)
        have Ywd := Lib.hid (((hwd).block _ (heap_lt Ywb.out)).trans Ywb.out)
        have Pwd := Lib.hid (Pwb.out.below (hwd))
        clear Bwb mwb Jwb Owb Ywb Pwb Yc0wb Yc1wb Oc0wb Oc1wb Oc2wb
        have Yc0wd : wd.cell? ⟨w.heap.size + 1, 0, none⟩ = some (.int .i64 ya) := by simp [World.cell?, Ywd.out]
        have Yc1wd : wd.cell? ⟨w.heap.size + 1, 1, none⟩ = some (.int .i64 yb) := by simp [World.cell?, Ywd.out]
        have Oc0wd : wd.cell? ⟨w5.heap.size, 0, none⟩ = some (.int .i64 x.cy) := by simp [World.cell?, Owd.out]
        have Oc1wd : wd.cell? ⟨w5.heap.size, 1, none⟩ = some (.int .i64 x.gr) := by simp [World.cell?, Owd.out]
        have Oc2wd : wd.cell? ⟨w5.heap.size, 2, none⟩ = some (.slice (some ⟨g5, n0 * 13, none⟩) 1 (cap5 - n0)) := by simp [World.cell?, Owd.out]
        clear hwd
        clear PP
        go_wp2_with fail
        refine (CO.out _ Jwd.out).mono ?_
        rintro e we ⟨rfl, hwe⟩
        have Bwe := Lib.hid (Bwd.out.trans ((hwe).mono mwd))
        have mwe : w.heap.size ≤ we.heap.size := Nat.le_trans mwd (hwe).size
        have Jwe := Lib.hid ((Jwd.out.below (hwe)).mono (hwe).size)
        have Owe := Lib.hid (((hwe).block _ (heap_lt Owd.out)).trans Owd.out)
        have Ywe := Lib.hid (((hwe).block _ (heap_lt Ywd.out)).trans Ywd.out)
        have Pwe := Lib.hid (Pwd.out.below (hwe))
        clear Bwd mwd Jwd Owd Ywd Pwd Yc0wd Yc1wd Oc0wd Oc1wd Oc2wd
        have Yc0we : we.cell? ⟨w.heap.size + 1, 0, none⟩ = some (.int .i64 ya) := by simp [World.cell?, Ywe.out]
        have Yc1we : we.cell? ⟨w.heap.size + 1, 1, none⟩ = some (.int .i64 yb) := by simp [World.cell?, Ywe.out]
        have Oc0we : we.cell? ⟨w5.heap.size, 0, none⟩ = some (.int .i64 x.cy) := by simp [World.cell?, Owe.out]
        have Oc1we : we.cell? ⟨w5.heap.size, 1, none⟩ = some (.int .i64 x.gr) := by simp [World.cell?, Owe.out]
        have Oc2we : we.cell? ⟨w5.heap.size, 2, none⟩ = some (.slice (some ⟨g5, n0 * 13, none⟩) 1 (cap5 - n0)) := by simp [World.cell?, Owe.out]
        clear hwe
        go_wp2_with fail
        go_ret
        exact ⟨ret_bool (by simp), Bwe.out⟩
end Go.Proofs.YtnnnpliigdfipaaGreatDoor
