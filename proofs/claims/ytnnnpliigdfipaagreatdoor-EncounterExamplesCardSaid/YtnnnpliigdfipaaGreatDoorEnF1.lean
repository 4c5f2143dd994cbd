/- EncounterRoundTrip: the walk. -/
import Derived.Test.YtnnnpliigdfipaaGreatDoorRows
import Derived.WalkKit
import Derived.WalkLawsBesides
import Derived.WalkSpells
import Derived.ProofKit
import Derived.Below
import Derived.Outline
import Derived.Lib.Hide
import Derived.Deep.RegionWith
import Derived.Deep.RegionHeld3
import Derived.Deep.DrawnRows
import Derived.StillTailTactics
import Derived.BigQuiet
import Derived.Deep.QuietTactic
import Derived.Deep.LoopGhost
import Derived.IntWalk
import Derived.Lib.MinMax
import Derived.Test.YtnnnpliigdfipaaGreatDoorEnDB
import Derived.Test.YtnnnpliigdfipaaGreatDoorEnDC
import Derived.Test.YtnnnpliigdfipaaGreatDoorEnE
namespace Go.Proofs.YtnnnpliigdfipaaGreatDoor
open Go.RowKit
attribute [local go_sem ↓] Go.wp_at_zero Go.wp_at_succ
attribute [local go_sem] wrap_lit
theorem addL_mo : ∀ (cs : List Cr) (l : Int × Int), (∀ c ∈ cs, 0 ≤ c.mo) → ∀ c ∈ addL cs l, 0 ≤ c.mo
  | [], _, _ => fun c h => by simp [addL] at h
  | [c], l, h => fun d hd => by
    simp only [addL, List.mem_singleton] at hd
    subst hd
    exact h c (by simp)
  | c :: d :: r, l, h => fun e he => by
    rw [addL] at he
    rcases List.mem_cons.1 he with rfl | he
    · exact h _ (by simp)
    · exact addL_mo (d :: r) l (fun c hc => h c (List.mem_cons_of_mem _ hc)) e he
theorem stepE_mo {x y : En} {b : Bool} {ws : List Tx} (h : stepE x b ws = some y) (hx : ∀ c ∈ x.cs, 0 ≤ c.mo) : ∀ c ∈ y.cs, 0 ≤ c.mo := by
  unfold stepE at h
  split at h
  · split at h
    · obtain rfl := Option.some.inj h; exact hx
    · cases h
  · split at h
    · rename_i c hc
      obtain rfl := Option.some.inj h
      intro d hd
      rcases List.mem_append.1 hd with hd | hd
      · exact hx d hd
      · rw [List.mem_singleton.1 hd]; exact ((crO_iff _ _).1 hc).2.2.1.1
    · split at h
      · cases h
      · split at h
        · obtain rfl := Option.some.inj h; exact addL_mo _ _ hx
        · cases h
theorem goL_mo : ∀ (ls : List Tx) (x y : En) (n last : Nat), goL x n ls = .inr (y, last) → (∀ c ∈ x.cs, 0 ≤ c.mo) → ∀ c ∈ y.cs, 0 ≤ c.mo
  | [], x, y, n, last, h, _ => by simp [goL] at h
  | [l], x, y, n, last, h, hx => by
    unfold goL at h
    split at h
    · injection h with h; obtain ⟨rfl, -⟩ := Prod.mk.inj h; exact hx
    · cases h
  | l :: m :: r, x, y, n, last, h, hx => by
    unfold goL at h
    split at h
    · rename_i z hz; exact goL_mo (m :: r) z y (n + 1) last h (stepE_mo hz hx)
    · cases h
theorem paE_mo {t : Tx} {y : En} {n : Int} (h : paE t = (y, n, 0)) : ∀ c ∈ y.cs, 0 ≤ c.mo := by
  unfold paE at h
  split at h
  · obtain ⟨rfl, -⟩ := Prod.mk.inj h; intro c hc; simp [En.zero] at hc
  · split at h
    · obtain ⟨rfl, -⟩ := Prod.mk.inj h; intro c hc; simp [En.zero] at hc
    · rename_i z last hz
      split at h
      · obtain ⟨rfl, -⟩ := Prod.mk.inj h; intro c hc; simp [En.zero] at hc
      · split at h
        · obtain ⟨rfl, -⟩ := Prod.mk.inj h; intro c hc; simp [En.zero] at hc
        · obtain ⟨rfl, -⟩ := Prod.mk.inj h; exact goL_mo _ _ _ _ _ hz (fun c hc => by simp [En.zero] at hc)
theorem lg_bd {x : En} (h : lgB x = false) : x.cs.length ≤ 12 ∧ ∀ c ∈ x.cs, c.lg.length ≤ 30 := by
  unfold lgB at h
  have h' := of_decide_eq_false h
  refine ⟨?_, fun c hc => ?_⟩
  · rcases Nat.lt_or_ge 12 x.cs.length with g | g
    · exact absurd (.inr g) h'
    · exact g
  · rcases Nat.lt_or_ge 30 c.lg.length with g | g
    · exact absurd (.inl ⟨c, hc, g⟩) h'
    · exact g
theorem paE_bd {t : Tx} : (paE t).1.cs.length ≤ 6 ∧ ∀ c ∈ (paE t).1.cs, c.lg.length ≤ 16 ∧ 0 ≤ c.mo := by
  obtain ⟨y, n, f, hp⟩ : ∃ y n f, paE t = (y, n, f) := ⟨_, _, _, rfl⟩
  rw [hp]
  by_cases hf : f = 0
  · subst hf
    obtain ⟨-, hc, -⟩ := paE_ok hp
    obtain ⟨g1, g2, g3, g4, g5⟩ := chE_ok hc
    have ha := allE_ok y.cs [] g5
    exact ⟨g4, fun c hcm => ⟨(crE_ok (ha c hcm).2).2.2.2.2.2.2.1, paE_mo hp c hcm⟩⟩
  · have := paE_bad hp hf
    subst this
    exact ⟨by simp [En.zero], fun c hc => by simp [En.zero] at hc⟩
set_option maxRecDepth 100000 in
set_option maxHeartbeats 4000000 in
theorem roundtrip6 (x : En) (A : Option Addr) (cap : Nat) (t : Tx) (w : World) (E : Env 8 w) (h8 : 8 ≤ w.heap.size) (hc : InCr w w.heap.size A x.cs) (hcap : x.cs.length ≤ cap) (hN : x.cs.length ≤ maxLen) (hmo : ∀ c ∈ x.cs, 0 ≤ c.mo) :
    Calls Tryz.prog 6 #[.agg #[.int .i64 x.cy, .int .i64 x.gr, .slice A x.cs.length cap], .string (S t)] w fun e w' => e = .returned (.bool true) ∧ Below w.heap.size w w' := by
  have Ew := Lib.hid E
  have Iw := Lib.hid hc
  have HMO := Lib.hid hmo
  clear E hc hmo
  go_enter Tryz.func6, Tryz.ntmps6
  have LG := Lib.hid (fun w' hc => long10 x A cap w' hc hN)
  clear hN
  go_wp2_with fail
  obtain ⟨w0, hw0⟩ : ∃ w0, w0 = w.alloc (.cells #[.int .i64 x.cy, .int .i64 x.gr, .slice A x.cs.length cap] 24) := ⟨_, rfl⟩
  have bw0 : Below w.heap.size w w0 := by rw [hw0]; exact (Below.refl _ _).alloc (Nat.le_refl _) _
  have nw0 : w0.heap[w.heap.size]? = some (.cells #[.int .i64 x.cy, .int .i64 x.gr, .slice A x.cs.length cap] 24 (0, 0)) := by rw [hw0]; exact heap_alloc_new _ _
  have Bw0 : Hid (Below w.heap.size w w0) := Lib.hid ((bw0))
  have mw0 : w.heap.size ≤ w0.heap.size := (bw0).size
  have Ew0 := Lib.hid (Ew.out.below ((bw0).mono (by omega)))
  have Iw0 := Lib.hid ((Iw.out.below (bw0)).mono (bw0).size)
  clear Ew Iw
  rw [← hw0]
  clear hw0 bw0
  have Xw0 := Lib.hid nw0
  clear nw0
  have Xc0w0 : w0.cell? ⟨w.heap.size, 0, none⟩ = some (.int .i64 x.cy) := by simp [World.cell?, Xw0.out]
  have Xc1w0 : w0.cell? ⟨w.heap.size, 1, none⟩ = some (.int .i64 x.gr) := by simp [World.cell?, Xw0.out]
  have Xc2w0 : w0.cell? ⟨w.heap.size, 2, none⟩ = some (.slice A x.cs.length cap) := by simp [World.cell?, Xw0.out]
  refine (LG.out w0 Iw0.out).mono ?_
  rintro e w1 ⟨rfl, hw1⟩
  have Bw1 := Lib.hid (Bw0.out.trans ((hw1).mono mw0))
  have mw1 : w.heap.size ≤ w1.heap.size := Nat.le_trans mw0 (hw1).size
  have Ew1 := Lib.hid (Ew0.out.below ((hw1).mono (by omega)))
  have Iw1 := Lib.hid ((Iw0.out.below (hw1)).mono (hw1).size)
  have Xw1 := Lib.hid (((hw1).block _ (heap_lt Xw0.out)).trans Xw0.out)
  clear Bw0 mw0 Ew0 Iw0 Xw0 Xc0w0 Xc1w0 Xc2w0
  have Xc0w1 : w1.cell? ⟨w.heap.size, 0, none⟩ = some (.int .i64 x.cy) := by simp [World.cell?, Xw1.out]
  have Xc1w1 : w1.cell? ⟨w.heap.size, 1, none⟩ = some (.int .i64 x.gr) := by simp [World.cell?, Xw1.out]
  have Xc2w1 : w1.cell? ⟨w.heap.size, 2, none⟩ = some (.slice A x.cs.length cap) := by simp [World.cell?, Xw1.out]
  clear hw1
  by_cases hlg : lgB x = true
  · go_wp2_with fail
    refine (awake11 8 w1 Ew1.out (by omega)).mono ?_
    rintro e v1 ⟨rfl, hv1⟩
    have Bv1 := Lib.hid (Bw1.out.trans ((hv1).mono mw1))
    have mv1 : w.heap.size ≤ v1.heap.size := Nat.le_trans mw1 (hv1).size
    have Ev1 := Lib.hid (Ew1.out.below ((hv1).mono (by omega)))
    have Iv1 := Lib.hid ((Iw1.out.below (hv1)).mono (hv1).size)
    have Xv1 := Lib.hid (((hv1).block _ (heap_lt Xw1.out)).trans Xw1.out)
    clear Bw1 mw1 Ew1 Iw1 Xw1 Xc0w1 Xc1w1 Xc2w1
    have Xc0v1 : v1.cell? ⟨w.heap.size, 0, none⟩ = some (.int .i64 x.cy) := by simp [World.cell?, Xv1.out]
    have Xc1v1 : v1.cell? ⟨w.heap.size, 1, none⟩ = some (.int .i64 x.gr) := by simp [World.cell?, Xv1.out]
    have Xc2v1 : v1.cell? ⟨w.heap.size, 2, none⟩ = some (.slice A x.cs.length cap) := by simp [World.cell?, Xv1.out]
    clear hv1
    go_wp2_with fail
    go_ret
    exact ⟨rfl, Bv1.out⟩
  have hlg' : lgB x = false := by cases h : lgB x <;> simp_all
  obtain ⟨hn12, hl30⟩ := lg_bd hlg'
  have HL30 := Lib.hid hl30
  clear hlg hl30
  by_cases h6 : 6000 < t.length
  · have h6I : (6000 : Int) < (t.length : Int) := by omega
    go_wp2_with fail
    refine (awake11 8 w1 Ew1.out (by omega)).mono ?_
    rintro e v1 ⟨rfl, hv1⟩
    have Bv1 := Lib.hid (Bw1.out.trans ((hv1).mono mw1))
    have mv1 : w.heap.size ≤ v1.heap.size := Nat.le_trans mw1 (hv1).size
    have Ev1 := Lib.hid (Ew1.out.below ((hv1).mono (by omega)))
    have Iv1 := Lib.hid ((Iw1.out.below (hv1)).mono (hv1).size)
    have Xv1 := Lib.hid (((hv1).block _ (heap_lt Xw1.out)).trans Xw1.out)
    clear Bw1 mw1 Ew1 Iw1 Xw1 Xc0w1 Xc1w1 Xc2w1
    have Xc0v1 : v1.cell? ⟨w.heap.size, 0, none⟩ = some (.int .i64 x.cy) := by simp [World.cell?, Xv1.out]
    have Xc1v1 : v1.cell? ⟨w.heap.size, 1, none⟩ = some (.int .i64 x.gr) := by simp [World.cell?, Xv1.out]
    have Xc2v1 : v1.cell? ⟨w.heap.size, 2, none⟩ = some (.slice A x.cs.length cap) := by simp [World.cell?, Xv1.out]
    clear hv1
    go_wp2_with fail
    go_ret
    exact ⟨rfl, Bv1.out⟩
  have h6I : ¬ (6000 : Int) < (t.length : Int) := by omega
  go_wp2_with fail
  refine (awake11 8 w1 Ew1.out (by omega)).mono ?_
  rintro e w2 ⟨rfl, hw2⟩
  have Bw2 := Lib.hid (Bw1.out.trans ((hw2).mono mw1))
  have mw2 : w.heap.size ≤ w2.heap.size := Nat.le_trans mw1 (hw2).size
  have Ew2 := Lib.hid (Ew1.out.below ((hw2).mono (by omega)))
  have Iw2 := Lib.hid ((Iw1.out.below (hw2)).mono (hw2).size)
  have Xw2 := Lib.hid (((hw2).block _ (heap_lt Xw1.out)).trans Xw1.out)
  clear Bw1 mw1 Ew1 Iw1 Xw1 Xc0w1 Xc1w1 Xc2w1
  have Xc0w2 : w2.cell? ⟨w.heap.size, 0, none⟩ = some (.int .i64 x.cy) := by simp [World.cell?, Xw2.out]
  have Xc1w2 : w2.cell? ⟨w.heap.size, 1, none⟩ = some (.int .i64 x.gr) := by simp [World.cell?, Xw2.out]
  have Xc2w2 : w2.cell? ⟨w.heap.size, 2, none⟩ = some (.slice A x.cs.length cap) := by simp [World.cell?, Xw2.out]
  clear hw2
  go_wp2_with fail
  have FM := Lib.hid (fun w' E hK hc => format13 8 x A cap w' E hK hc hcap HMO.out)
  by_cases hch : chE x = 0
  · have hfo : foE x = (txE x, 0) := by unfold foE; rw [if_neg (fun h => h hch)]
    rw [hfo] at FM
    have HPX := Lib.hid (paE_tx hch HMO.out)
    have hln := txE_len hch
    clear hfo hch
    refine (FM.out w2 Ew2.out (by omega) Iw2.out).mono ?_
    rintro e w3 ⟨rfl, hw3⟩
    have Bw3 := Lib.hid (Bw2.out.trans ((hw3).mono mw2))
    have mw3 : w.heap.size ≤ w3.heap.size := Nat.le_trans mw2 (hw3).size
    have Ew3 := Lib.hid (Ew2.out.below ((hw3).mono (by omega)))
    have Iw3 := Lib.hid ((Iw2.out.below (hw3)).mono (hw3).size)
    have Xw3 := Lib.hid (((hw3).block _ (heap_lt Xw2.out)).trans Xw2.out)
    clear Bw2 mw2 Ew2 Iw2 Xw2 Xc0w2 Xc1w2 Xc2w2
    have Xc0w3 : w3.cell? ⟨w.heap.size, 0, none⟩ = some (.int .i64 x.cy) := by simp [World.cell?, Xw3.out]
    have Xc1w3 : w3.cell? ⟨w.heap.size, 1, none⟩ = some (.int .i64 x.gr) := by simp [World.cell?, Xw3.out]
    have Xc2w3 : w3.cell? ⟨w.heap.size, 2, none⟩ = some (.slice A x.cs.length cap) := by simp [World.cell?, Xw3.out]
    clear hw3
    go_wp2_with fail
    refine (parse16 8 (txE x) (by omega) w3 Ew3.out (by omega)).mono ?_
    rintro e w4 ⟨v, lvs, Bl, rfl, hps, hb⟩
    rw [HPX.out] at hps
    rw [HPX.out]
    simp only at hps ⊢
    obtain ⟨CA0, ccap0, rfl, hcc0, hin⟩ := hps.inCr
    clear hps
    have Bw4 := Lib.hid (Bw3.out.trans ((hb).mono mw3))
    have mw4 : w.heap.size ≤ w4.heap.size := Nat.le_trans mw3 (hb).size
    have Ew4 := Lib.hid (Ew3.out.below ((hb).mono (by omega)))
    have Iw4 := Lib.hid ((Iw3.out.below (hb)).mono (hb).size)
    have Xw4 := Lib.hid (((hb).block _ (heap_lt Xw3.out)).trans Xw3.out)
    clear Bw3 mw3 Ew3 Iw3 Xw3 Xc0w3 Xc1w3 Xc2w3
    have Xc0w4 : w4.cell? ⟨w.heap.size, 0, none⟩ = some (.int .i64 x.cy) := by simp [World.cell?, Xw4.out]
    have Xc1w4 : w4.cell? ⟨w.heap.size, 1, none⟩ = some (.int .i64 x.gr) := by simp [World.cell?, Xw4.out]
    have Xc2w4 : w4.cell? ⟨w.heap.size, 2, none⟩ = some (.slice A x.cs.length cap) := by simp [World.cell?, Xw4.out]
    have Gw4 := Lib.hid hin
    clear hb hin
    have Xa0 : ∀ ob, (w4.alloc ob).cell? ⟨w.heap.size, 0, none⟩ = some (.int .i64 x.cy) := fun ob => (World.cell?_alloc_lt _ _ _ (heap_lt Xw4.out)).trans Xc0w4
    have Xa1 : ∀ ob, (w4.alloc ob).cell? ⟨w.heap.size, 1, none⟩ = some (.int .i64 x.gr) := fun ob => (World.cell?_alloc_lt _ _ _ (heap_lt Xw4.out)).trans Xc1w4
    have Xa2 : ∀ ob, (w4.alloc ob).cell? ⟨w.heap.size, 2, none⟩ = some (.slice A x.cs.length cap) := fun ob => (World.cell?_alloc_lt _ _ _ (heap_lt Xw4.out)).trans Xc2w4
    go_wp2_with fail
    obtain ⟨w5, hw5⟩ : ∃ w5, w5 = w4.alloc (.cells #[.int .i64 x.cy, .int .i64 x.gr, .slice CA0 x.cs.length ccap0] 24) := ⟨_, rfl⟩
    have bw5 : Below w4.heap.size w4 w5 := by rw [hw5]; exact (Below.refl _ _).alloc (Nat.le_refl _) _
    have nw5 : w5.heap[w4.heap.size]? = some (.cells #[.int .i64 x.cy, .int .i64 x.gr, .slice CA0 x.cs.length ccap0] 24 (0, 0)) := by rw [hw5]; exact heap_alloc_new _ _
    have Bw5 := Lib.hid (Bw4.out.trans ((bw5).mono mw4))
    have mw5 : w.heap.size ≤ w5.heap.size := Nat.le_trans mw4 (bw5).size
    have Ew5 := Lib.hid (Ew4.out.below ((bw5).mono (by omega)))
    have Iw5 := Lib.hid ((Iw4.out.below (bw5)).mono (bw5).size)
    have Xw5 := Lib.hid (((bw5).block _ (heap_lt Xw4.out)).trans Xw4.out)
    have Gw5 := Lib.hid ((Gw4.out.below (bw5)).mono (bw5).size)
    clear Bw4 mw4 Ew4 Iw4 Xw4 Gw4 Xc0w4 Xc1w4 Xc2w4
    have Xc0w5 : w5.cell? ⟨w.heap.size, 0, none⟩ = some (.int .i64 x.cy) := by simp [World.cell?, Xw5.out]
    have Xc1w5 : w5.cell? ⟨w.heap.size, 1, none⟩ = some (.int .i64 x.gr) := by simp [World.cell?, Xw5.out]
    have Xc2w5 : w5.cell? ⟨w.heap.size, 2, none⟩ = some (.slice A x.cs.length cap) := by simp [World.cell?, Xw5.out]
    rw [← hw5]
    clear hw5 bw5 Xa0 Xa1 Xa2
    clear nw5
    refine (same17 x A CA0 cap ccap0 w5 Iw5.out Gw5.out (by omega) (fun c hc => Nat.le_trans (HL30.out c hc) (by decide))).mono ?_
    rintro e w6 ⟨rfl, hw6⟩
    have Bw6 := Lib.hid (Bw5.out.trans ((hw6).mono mw5))
    have mw6 : w.heap.size ≤ w6.heap.size := Nat.le_trans mw5 (hw6).size
    have Ew6 := Lib.hid (Ew5.out.below ((hw6).mono (by omega)))
    have Iw6 := Lib.hid ((Iw5.out.below (hw6)).mono (hw6).size)
    have Xw6 := Lib.hid (((hw6).block _ (heap_lt Xw5.out)).trans Xw5.out)
    have Gw6 := Lib.hid ((Gw5.out.below (hw6)).mono (hw6).size)
    clear Bw5 mw5 Ew5 Iw5 Xw5 Gw5 Xc0w5 Xc1w5 Xc2w5
    have Xc0w6 : w6.cell? ⟨w.heap.size, 0, none⟩ = some (.int .i64 x.cy) := by simp [World.cell?, Xw6.out]
    have Xc1w6 : w6.cell? ⟨w.heap.size, 1, none⟩ = some (.int .i64 x.gr) := by simp [World.cell?, Xw6.out]
    have Xc2w6 : w6.cell? ⟨w.heap.size, 2, none⟩ = some (.slice A x.cs.length cap) := by simp [World.cell?, Xw6.out]
    clear hw6
    go_wp2_with fail
    obtain ⟨y, n, f, hp⟩ : ∃ y n f, paE t = (y, n, f) := ⟨_, _, _, rfl⟩
    have PB1 := Lib.hid (paE_bd (t := t))
    have HP := Lib.hid hp
    clear hp
    refine (parse16 8 t (by omega) w6 Ew6.out (by omega)).mono ?_
    rintro e u1 ⟨v, lvs, Bl, rfl, hps, hb⟩
    rw [HP.out] at hps PB1
    rw [HP.out]
    simp only at hps PB1 ⊢
    obtain ⟨CA, ccap, rfl, hcc, hin⟩ := hps.inCr
    clear hps
    have Bu1 := Lib.hid (Bw6.out.trans ((hb).mono mw6))
    have mu1 : w.heap.size ≤ u1.heap.size := Nat.le_trans mw6 (hb).size
    have Eu1 := Lib.hid (Ew6.out.below ((hb).mono (by omega)))
    have Iu1 := Lib.hid ((Iw6.out.below (hb)).mono (hb).size)
    have Xu1 := Lib.hid (((hb).block _ (heap_lt Xw6.out)).trans Xw6.out)
    have Gu1 := Lib.hid ((Gw6.out.below (hb)).mono (hb).size)
    clear Bw6 mw6 Ew6 Iw6 Xw6 Gw6 Xc0w6 Xc1w6 Xc2w6
    have Xc0u1 : u1.cell? ⟨w.heap.size, 0, none⟩ = some (.int .i64 x.cy) := by simp [World.cell?, Xu1.out]
    have Xc1u1 : u1.cell? ⟨w.heap.size, 1, none⟩ = some (.int .i64 x.gr) := by simp [World.cell?, Xu1.out]
    have Xc2u1 : u1.cell? ⟨w.heap.size, 2, none⟩ = some (.slice A x.cs.length cap) := by simp [World.cell?, Xu1.out]
    have Ju1 := Lib.hid hin
    clear hb hin
    have Xa0 : ∀ ob, (u1.alloc ob).cell? ⟨w.heap.size, 0, none⟩ = some (.int .i64 x.cy) := fun ob => (World.cell?_alloc_lt _ _ _ (heap_lt Xu1.out)).trans Xc0u1
    have Xa1 : ∀ ob, (u1.alloc ob).cell? ⟨w.heap.size, 1, none⟩ = some (.int .i64 x.gr) := fun ob => (World.cell?_alloc_lt _ _ _ (heap_lt Xu1.out)).trans Xc1u1
    have Xa2 : ∀ ob, (u1.alloc ob).cell? ⟨w.heap.size, 2, none⟩ = some (.slice A x.cs.length cap) := fun ob => (World.cell?_alloc_lt _ _ _ (heap_lt Xu1.out)).trans Xc2u1
    by_cases hf : f = 0
    · subst hf
      obtain ⟨rfl, hcy, hty⟩ := paE_ok HP.out
      have hfy : foE y = (t, 0) := by unfold foE; rw [if_neg (fun h => h hcy), hty]
      have FY := Lib.hid (fun w' E hK hc => format13 8 y CA ccap w' E hK hc hcc (fun c hc => (PB1.out.2 c hc).2))
      rw [hfy] at FY
      have HCY := Lib.hid hcy
      clear hfy hty hcy
      go_wp2_with fail
      obtain ⟨u2, hu2⟩ : ∃ u2, u2 = u1.alloc (.cells #[.int .i64 y.cy, .int .i64 y.gr, .slice CA y.cs.length ccap] 24) := ⟨_, rfl⟩
      have bu2 : Below u1.heap.size u1 u2 := by rw [hu2]; exact (Below.refl _ _).alloc (Nat.le_refl _) _
      have nu2 : u2.heap[u1.heap.size]? = some (.cells #[.int .i64 y.cy, .int .i64 y.gr, .slice CA y.cs.length ccap] 24 (0, 0)) := by rw [hu2]; exact heap_alloc_new _ _
      have Bu2 := Lib.hid (Bu1.out.trans ((bu2).mono mu1))
      have mu2 : w.heap.size ≤ u2.heap.size := Nat.le_trans mu1 (bu2).size
      have Eu2 := Lib.hid (Eu1.out.below ((bu2).mono (by omega)))
      have Iu2 := Lib.hid ((Iu1.out.below (bu2)).mono (bu2).size)
      have Xu2 := Lib.hid (((bu2).block _ (heap_lt Xu1.out)).trans Xu1.out)
      have Gu2 := Lib.hid ((Gu1.out.below (bu2)).mono (bu2).size)
      have Ju2 := Lib.hid ((Ju1.out.below (bu2)).mono (bu2).size)
      clear Bu1 mu1 Eu1 Iu1 Xu1 Gu1 Ju1 Xc0u1 Xc1u1 Xc2u1
      have Xc0u2 : u2.cell? ⟨w.heap.size, 0, none⟩ = some (.int .i64 x.cy) := by simp [World.cell?, Xu2.out]
      have Xc1u2 : u2.cell? ⟨w.heap.size, 1, none⟩ = some (.int .i64 x.gr) := by simp [World.cell?, Xu2.out]
      have Xc2u2 : u2.cell? ⟨w.heap.size, 2, none⟩ = some (.slice A x.cs.length cap) := by simp [World.cell?, Xu2.out]
      rw [← hu2]
      clear hu2 bu2 Xa0 Xa1 Xa2
      have Yu2 := Lib.hid nu2
      clear nu2
      have Yc0u2 : u2.cell? ⟨u1.heap.size, 0, none⟩ = some (.int .i64 y.cy) := by simp [World.cell?, Yu2.out]
      have Yc1u2 : u2.cell? ⟨u1.heap.size, 1, none⟩ = some (.int .i64 y.gr) := by simp [World.cell?, Yu2.out]
      have Yc2u2 : u2.cell? ⟨u1.heap.size, 2, none⟩ = some (.slice CA y.cs.length ccap) := by simp [World.cell?, Yu2.out]
      refine (FY.out u2 Eu2.out (by omega) Ju2.out).mono ?_
      rintro e u3 ⟨rfl, hu3⟩
      have Bu3 := Lib.hid (Bu2.out.trans ((hu3).mono mu2))
      have mu3 : w.heap.size ≤ u3.heap.size := Nat.le_trans mu2 (hu3).size
      have Eu3 := Lib.hid (Eu2.out.below ((hu3).mono (by omega)))
      have Iu3 := Lib.hid ((Iu2.out.below (hu3)).mono (hu3).size)
      have Xu3 := Lib.hid (((hu3).block _ (heap_lt Xu2.out)).trans Xu2.out)
      have Gu3 := Lib.hid ((Gu2.out.below (hu3)).mono (hu3).size)
      have Ju3 := Lib.hid ((Ju2.out.below (hu3)).mono (hu3).size)
      have Yu3 := Lib.hid (((hu3).block _ (heap_lt Yu2.out)).trans Yu2.out)
      clear Bu2 mu2 Eu2 Iu2 Xu2 Gu2 Ju2 Yu2 Xc0u2 Xc1u2 Xc2u2 Yc0u2 Yc1u2 Yc2u2
      have Xc0u3 : u3.cell? ⟨w.heap.size, 0, none⟩ = some (.int .i64 x.cy) := by simp [World.cell?, Xu3.out]
      have Xc1u3 : u3.cell? ⟨w.heap.size, 1, none⟩ = some (.int .i64 x.gr) := by simp [World.cell?, Xu3.out]
      have Xc2u3 : u3.cell? ⟨w.heap.size, 2, none⟩ = some (.slice A x.cs.length cap) := by simp [World.cell?, Xu3.out]
      have Yc0u3 : u3.cell? ⟨u1.heap.size, 0, none⟩ = some (.int .i64 y.cy) := by simp [World.cell?, Yu3.out]
      have Yc1u3 : u3.cell? ⟨u1.heap.size, 1, none⟩ = some (.int .i64 y.gr) := by simp [World.cell?, Yu3.out]
      have Yc2u3 : u3.cell? ⟨u1.heap.size, 2, none⟩ = some (.slice CA y.cs.length ccap) := by simp [World.cell?, Yu3.out]
      clear hu3
      go_wp2_with fail
      have CK := Lib.hid (check19 y CA ccap u3 Ju3.out hcc)
      rw [HCY.out] at CK
      refine (CK.out).mono ?_
      rintro e u4 ⟨rfl, hu4⟩
      have Bu4 := Lib.hid (Bu3.out.trans ((hu4).mono mu3))
      have mu4 : w.heap.size ≤ u4.heap.size := Nat.le_trans mu3 (hu4).size
      have Eu4 := Lib.hid (Eu3.out.below ((hu4).mono (by omega)))
      have Iu4 := Lib.hid ((Iu3.out.below (hu4)).mono (hu4).size)
      have Xu4 := Lib.hid (((hu4).block _ (heap_lt Xu3.out)).trans Xu3.out)
      have Gu4 := Lib.hid ((Gu3.out.below (hu4)).mono (hu4).size)
      have Ju4 := Lib.hid ((Ju3.out.below (hu4)).mono (hu4).size)
      have Yu4 := Lib.hid (((hu4).block _ (heap_lt Yu3.out)).trans Yu3.out)
      clear Bu3 mu3 Eu3 Iu3 Xu3 Gu3 Ju3 Yu3 Xc0u3 Xc1u3 Xc2u3 Yc0u3 Yc1u3 Yc2u3
      have Xc0u4 : u4.cell? ⟨w.heap.size, 0, none⟩ = some (.int .i64 x.cy) := by simp [World.cell?, Xu4.out]
      have Xc1u4 : u4.cell? ⟨w.heap.size, 1, none⟩ = some (.int .i64 x.gr) := by simp [World.cell?, Xu4.out]
      have Xc2u4 : u4.cell? ⟨w.heap.size, 2, none⟩ = some (.slice A x.cs.length cap) := by simp [World.cell?, Xu4.out]
      have Yc0u4 : u4.cell? ⟨u1.heap.size, 0, none⟩ = some (.int .i64 y.cy) := by simp [World.cell?, Yu4.out]
      have Yc1u4 : u4.cell? ⟨u1.heap.size, 1, none⟩ = some (.int .i64 y.gr) := by simp [World.cell?, Yu4.out]
      have Yc2u4 : u4.cell? ⟨u1.heap.size, 2, none⟩ = some (.slice CA y.cs.length ccap) := by simp [World.cell?, Yu4.out]
      clear hu4
      go_wp2_with fail
      go_ret
      exact ⟨rfl, Bu4.out⟩
    · have hz := paE_bad HP.out hf
      subst hz
      go_wp2_with fail
      obtain ⟨u2, hu2⟩ : ∃ u2, u2 = u1.alloc (.cells #[.int .i64 En.zero.cy, .int .i64 En.zero.gr, .slice CA En.zero.cs.length ccap] 24) := ⟨_, rfl⟩
      have bu2 : Below u1.heap.size u1 u2 := by rw [hu2]; exact (Below.refl _ _).alloc (Nat.le_refl _) _
      have nu2 : u2.heap[u1.heap.size]? = some (.cells #[.int .i64 En.zero.cy, .int .i64 En.zero.gr, .slice CA En.zero.cs.length ccap] 24 (0, 0)) := by rw [hu2]; exact heap_alloc_new _ _
      have Bu2 := Lib.hid (Bu1.out.trans ((bu2).mono mu1))
      have mu2 : w.heap.size ≤ u2.heap.size := Nat.le_trans mu1 (bu2).size
      have Eu2 := Lib.hid (Eu1.out.below ((bu2).mono (by omega)))
      have Iu2 := Lib.hid ((Iu1.out.below (bu2)).mono (bu2).size)
      have Xu2 := Lib.hid (((bu2).block _ (heap_lt Xu1.out)).trans Xu1.out)
      have Gu2 := Lib.hid ((Gu1.out.below (bu2)).mono (bu2).size)
      have Ju2 := Lib.hid ((Ju1.out.below (bu2)).mono (bu2).size)
      clear Bu1 mu1 Eu1 Iu1 Xu1 Gu1 Ju1 Xc0u1 Xc1u1 Xc2u1
      have Xc0u2 : u2.cell? ⟨w.heap.size, 0, none⟩ = some (.int .i64 x.cy) := by simp [World.cell?, Xu2.out]
      have Xc1u2 : u2.cell? ⟨w.heap.size, 1, none⟩ = some (.int .i64 x.gr) := by simp [World.cell?, Xu2.out]
      have Xc2u2 : u2.cell? ⟨w.heap.size, 2, none⟩ = some (.slice A x.cs.length cap) := by simp [World.cell?, Xu2.out]
      rw [← hu2]
      clear hu2 bu2 Xa0 Xa1 Xa2
      have Yu2 := Lib.hid nu2
      clear nu2
      have Yc0u2 : u2.cell? ⟨u1.heap.size, 0, none⟩ = some (.int .i64 En.zero.cy) := by simp [World.cell?, Yu2.out]
      have Yc1u2 : u2.cell? ⟨u1.heap.size, 1, none⟩ = some (.int .i64 En.zero.gr) := by simp [World.cell?, Yu2.out]
      have Yc2u2 : u2.cell? ⟨u1.heap.size, 2, none⟩ = some (.slice CA En.zero.cs.length ccap) := by simp [World.cell?, Yu2.out]
      refine (same17 En.zero CA none ccap 0 u2 Ju2.out (fun h => absurd h (by decide)) (by decide) (fun c h => by cases h)).mono ?_
      rintro e u3 ⟨rfl, hu3⟩
      have Bu3 := Lib.hid (Bu2.out.trans ((hu3).mono mu2))
      have mu3 : w.heap.size ≤ u3.heap.size := Nat.le_trans mu2 (hu3).size
      have Eu3 := Lib.hid (Eu2.out.below ((hu3).mono (by omega)))
      have Iu3 := Lib.hid ((Iu2.out.below (hu3)).mono (hu3).size)
      have Xu3 := Lib.hid (((hu3).block _ (heap_lt Xu2.out)).trans Xu2.out)
      have Gu3 := Lib.hid ((Gu2.out.below (hu3)).mono (hu3).size)
      have Ju3 := Lib.hid ((Ju2.out.below (hu3)).mono (hu3).size)
      have Yu3 := Lib.hid (((hu3).block _ (heap_lt Yu2.out)).trans Yu2.out)
      clear Bu2 mu2 Eu2 Iu2 Xu2 Gu2 Ju2 Yu2 Xc0u2 Xc1u2 Xc2u2 Yc0u2 Yc1u2 Yc2u2
      have Xc0u3 : u3.cell? ⟨w.heap.size, 0, none⟩ = some (.int .i64 x.cy) := by simp [World.cell?, Xu3.out]
      have Xc1u3 : u3.cell? ⟨w.heap.size, 1, none⟩ = some (.int .i64 x.gr) := by simp [World.cell?, Xu3.out]
      have Xc2u3 : u3.cell? ⟨w.heap.size, 2, none⟩ = some (.slice A x.cs.length cap) := by simp [World.cell?, Xu3.out]
      have Yc0u3 : u3.cell? ⟨u1.heap.size, 0, none⟩ = some (.int .i64 En.zero.cy) := by simp [World.cell?, Yu3.out]
      have Yc1u3 : u3.cell? ⟨u1.heap.size, 1, none⟩ = some (.int .i64 En.zero.gr) := by simp [World.cell?, Yu3.out]
      have Yc2u3 : u3.cell? ⟨u1.heap.size, 2, none⟩ = some (.slice CA En.zero.cs.length ccap) := by simp [World.cell?, Yu3.out]
      clear hu3
      go_wp2_with fail
      go_ret
      exact ⟨rfl, Bu3.out⟩
  · have hfo : foE x = ([], chE x) := by unfold foE; rw [if_pos hch]
    rw [hfo] at FM
    clear hfo
    refine (FM.out w2 Ew2.out (by omega) Iw2.out).mono ?_
    rintro e w3 ⟨rfl, hw3⟩
    have Bw3 := Lib.hid (Bw2.out.trans ((hw3).mono mw2))
    have mw3 : w.heap.size ≤ w3.heap.size := Nat.le_trans mw2 (hw3).size
    have Ew3 := Lib.hid (Ew2.out.below ((hw3).mono (by omega)))
    have Iw3 := Lib.hid ((Iw2.out.below (hw3)).mono (hw3).size)
    have Xw3 := Lib.hid (((hw3).block _ (heap_lt Xw2.out)).trans Xw2.out)
    clear Bw2 mw2 Ew2 Iw2 Xw2 Xc0w2 Xc1w2 Xc2w2
    have Xc0w3 : w3.cell? ⟨w.heap.size, 0, none⟩ = some (.int .i64 x.cy) := by simp [World.cell?, Xw3.out]
    have Xc1w3 : w3.cell? ⟨w.heap.size, 1, none⟩ = some (.int .i64 x.gr) := by simp [World.cell?, Xw3.out]
    have Xc2w3 : w3.cell? ⟨w.heap.size, 2, none⟩ = some (.slice A x.cs.length cap) := by simp [World.cell?, Xw3.out]
    clear hw3
    go_wp2_with fail
    refine (check19 x A cap w3 Iw3.out hcap).mono ?_
    rintro e w4 ⟨rfl, hw4⟩
    have Bw4 := Lib.hid (Bw3.out.trans ((hw4).mono mw3))
    have mw4 : w.heap.size ≤ w4.heap.size := Nat.le_trans mw3 (hw4).size
    have Ew4 := Lib.hid (Ew3.out.below ((hw4).mono (by omega)))
    have Iw4 := Lib.hid ((Iw3.out.below (hw4)).mono (hw4).size)
    have Xw4 := Lib.hid (((hw4).block _ (heap_lt Xw3.out)).trans Xw3.out)
    clear Bw3 mw3 Ew3 Iw3 Xw3 Xc0w3 Xc1w3 Xc2w3
    have Xc0w4 : w4.cell? ⟨w.heap.size, 0, none⟩ = some (.int .i64 x.cy) := by simp [World.cell?, Xw4.out]
    have Xc1w4 : w4.cell? ⟨w.heap.size, 1, none⟩ = some (.int .i64 x.gr) := by simp [World.cell?, Xw4.out]
    have Xc2w4 : w4.cell? ⟨w.heap.size, 2, none⟩ = some (.slice A x.cs.length cap) := by simp [World.cell?, Xw4.out]
    clear hw4
    go_wp2_with fail
    obtain ⟨y, n, f, hp⟩ : ∃ y n f, paE t = (y, n, f) := ⟨_, _, _, rfl⟩
    have PB1 := Lib.hid (paE_bd (t := t))
    have HP := Lib.hid hp
    clear hp
    refine (parse16 8 t (by omega) w4 Ew4.out (by omega)).mono ?_
    rintro e u1 ⟨v, lvs, Bl, rfl, hps, hb⟩
    rw [HP.out] at hps PB1
    rw [HP.out]
    simp only at hps PB1 ⊢
    obtain ⟨CA, ccap, rfl, hcc, hin⟩ := hps.inCr
    clear hps
    have Bu1 := Lib.hid (Bw4.out.trans ((hb).mono mw4))
    have mu1 : w.heap.size ≤ u1.heap.size := Nat.le_trans mw4 (hb).size
    have Eu1 := Lib.hid (Ew4.out.below ((hb).mono (by omega)))
    have Iu1 := Lib.hid ((Iw4.out.below (hb)).mono (hb).size)
    have Xu1 := Lib.hid (((hb).block _ (heap_lt Xw4.out)).trans Xw4.out)
    clear Bw4 mw4 Ew4 Iw4 Xw4 Xc0w4 Xc1w4 Xc2w4
    have Xc0u1 : u1.cell? ⟨w.heap.size, 0, none⟩ = some (.int .i64 x.cy) := by simp [World.cell?, Xu1.out]
    have Xc1u1 : u1.cell? ⟨w.heap.size, 1, none⟩ = some (.int .i64 x.gr) := by simp [World.cell?, Xu1.out]
    have Xc2u1 : u1.cell? ⟨w.heap.size, 2, none⟩ = some (.slice A x.cs.length cap) := by simp [World.cell?, Xu1.out]
    have Ju1 := Lib.hid hin
    clear hb hin
    have Xa0 : ∀ ob, (u1.alloc ob).cell? ⟨w.heap.size, 0, none⟩ = some (.int .i64 x.cy) := fun ob => (World.cell?_alloc_lt _ _ _ (heap_lt Xu1.out)).trans Xc0u1
    have Xa1 : ∀ ob, (u1.alloc ob).cell? ⟨w.heap.size, 1, none⟩ = some (.int .i64 x.gr) := fun ob => (World.cell?_alloc_lt _ _ _ (heap_lt Xu1.out)).trans Xc1u1
    have Xa2 : ∀ ob, (u1.alloc ob).cell? ⟨w.heap.size, 2, none⟩ = some (.slice A x.cs.length cap) := fun ob => (World.cell?_alloc_lt _ _ _ (heap_lt Xu1.out)).trans Xc2u1
    by_cases hf : f = 0
    · subst hf
      obtain ⟨rfl, hcy, hty⟩ := paE_ok HP.out
      have hfy : foE y = (t, 0) := by unfold foE; rw [if_neg (fun h => h hcy), hty]
      have FY := Lib.hid (fun w' E hK hc => format13 8 y CA ccap w' E hK hc hcc (fun c hc => (PB1.out.2 c hc).2))
      rw [hfy] at FY
      have HCY := Lib.hid hcy
      clear hfy hty hcy
      go_wp2_with fail
      obtain ⟨u2, hu2⟩ : ∃ u2, u2 = u1.alloc (.cells #[.int .i64 y.cy, .int .i64 y.gr, .slice CA y.cs.length ccap] 24) := ⟨_, rfl⟩
      have bu2 : Below u1.heap.size u1 u2 := by rw [hu2]; exact (Below.refl _ _).alloc (Nat.le_refl _) _
      have nu2 : u2.heap[u1.heap.size]? = some (.cells #[.int .i64 y.cy, .int .i64 y.gr, .slice CA y.cs.length ccap] 24 (0, 0)) := by rw [hu2]; exact heap_alloc_new _ _
      have Bu2 := Lib.hid (Bu1.out.trans ((bu2).mono mu1))
      have mu2 : w.heap.size ≤ u2.heap.size := Nat.le_trans mu1 (bu2).size
      have Eu2 := Lib.hid (Eu1.out.below ((bu2).mono (by omega)))
      have Iu2 := Lib.hid ((Iu1.out.below (bu2)).mono (bu2).size)
      have Xu2 := Lib.hid (((bu2).block _ (heap_lt Xu1.out)).trans Xu1.out)
      have Ju2 := Lib.hid ((Ju1.out.below (bu2)).mono (bu2).size)
      clear Bu1 mu1 Eu1 Iu1 Xu1 Ju1 Xc0u1 Xc1u1 Xc2u1
      have Xc0u2 : u2.cell? ⟨w.heap.size, 0, none⟩ = some (.int .i64 x.cy) := by simp [World.cell?, Xu2.out]
      have Xc1u2 : u2.cell? ⟨w.heap.size, 1, none⟩ = some (.int .i64 x.gr) := by simp [World.cell?, Xu2.out]
      have Xc2u2 : u2.cell? ⟨w.heap.size, 2, none⟩ = some (.slice A x.cs.length cap) := by simp [World.cell?, Xu2.out]
      rw [← hu2]
      clear hu2 bu2 Xa0 Xa1 Xa2
      have Yu2 := Lib.hid nu2
      clear nu2
      have Yc0u2 : u2.cell? ⟨u1.heap.size, 0, none⟩ = some (.int .i64 y.cy) := by simp [World.cell?, Yu2.out]
      have Yc1u2 : u2.cell? ⟨u1.heap.size, 1, none⟩ = some (.int .i64 y.gr) := by simp [World.cell?, Yu2.out]
      have Yc2u2 : u2.cell? ⟨u1.heap.size, 2, none⟩ = some (.slice CA y.cs.length ccap) := by simp [World.cell?, Yu2.out]
      refine (FY.out u2 Eu2.out (by omega) Ju2.out).mono ?_
      rintro e u3 ⟨rfl, hu3⟩
      have Bu3 := Lib.hid (Bu2.out.trans ((hu3).mono mu2))
      have mu3 : w.heap.size ≤ u3.heap.size := Nat.le_trans mu2 (hu3).size
      have Eu3 := Lib.hid (Eu2.out.below ((hu3).mono (by omega)))
      have Iu3 := Lib.hid ((Iu2.out.below (hu3)).mono (hu3).size)
      have Xu3 := Lib.hid (((hu3).block _ (heap_lt Xu2.out)).trans Xu2.out)
      have Ju3 := Lib.hid ((Ju2.out.below (hu3)).mono (hu3).size)
      have Yu3 := Lib.hid (((hu3).block _ (heap_lt Yu2.out)).trans Yu2.out)
      clear Bu2 mu2 Eu2 Iu2 Xu2 Ju2 Yu2 Xc0u2 Xc1u2 Xc2u2 Yc0u2 Yc1u2 Yc2u2
      have Xc0u3 : u3.cell? ⟨w.heap.size, 0, none⟩ = some (.int .i64 x.cy) := by simp [World.cell?, Xu3.out]
      have Xc1u3 : u3.cell? ⟨w.heap.size, 1, none⟩ = some (.int .i64 x.gr) := by simp [World.cell?, Xu3.out]
      have Xc2u3 : u3.cell? ⟨w.heap.size, 2, none⟩ = some (.slice A x.cs.length cap) := by simp [World.cell?, Xu3.out]
      have Yc0u3 : u3.cell? ⟨u1.heap.size, 0, none⟩ = some (.int .i64 y.cy) := by simp [World.cell?, Yu3.out]
      have Yc1u3 : u3.cell? ⟨u1.heap.size, 1, none⟩ = some (.int .i64 y.gr) := by simp [World.cell?, Yu3.out]
      have Yc2u3 : u3.cell? ⟨u1.heap.size, 2, none⟩ = some (.slice CA y.cs.length ccap) := by simp [World.cell?, Yu3.out]
      clear hu3
      go_wp2_with fail
      have CK := Lib.hid (check19 y CA ccap u3 Ju3.out hcc)
      rw [HCY.out] at CK
      refine (CK.out).mono ?_
      rintro e u4 ⟨rfl, hu4⟩
      have Bu4 := Lib.hid (Bu3.out.trans ((hu4).mono mu3))
      have mu4 : w.heap.size ≤ u4.heap.size := Nat.le_trans mu3 (hu4).size
      have Eu4 := Lib.hid (Eu3.out.below ((hu4).mono (by omega)))
      have Iu4 := Lib.hid ((Iu3.out.below (hu4)).mono (hu4).size)
      have Xu4 := Lib.hid (((hu4).block _ (heap_lt Xu3.out)).trans Xu3.out)
      have Ju4 := Lib.hid ((Ju3.out.below (hu4)).mono (hu4).size)
      have Yu4 := Lib.hid (((hu4).block _ (heap_lt Yu3.out)).trans Yu3.out)
      clear Bu3 mu3 Eu3 Iu3 Xu3 Ju3 Yu3 Xc0u3 Xc1u3 Xc2u3 Yc0u3 Yc1u3 Yc2u3
      have Xc0u4 : u4.cell? ⟨w.heap.size, 0, none⟩ = some (.int .i64 x.cy) := by simp [World.cell?, Xu4.out]
      have Xc1u4 : u4.cell? ⟨w.heap.size, 1, none⟩ = some (.int .i64 x.gr) := by simp [World.cell?, Xu4.out]
      have Xc2u4 : u4.cell? ⟨w.heap.size, 2, none⟩ = some (.slice A x.cs.length cap) := by simp [World.cell?, Xu4.out]
      have Yc0u4 : u4.cell? ⟨u1.heap.size, 0, none⟩ = some (.int .i64 y.cy) := by simp [World.cell?, Yu4.out]
      have Yc1u4 : u4.cell? ⟨u1.heap.size, 1, none⟩ = some (.int .i64 y.gr) := by simp [World.cell?, Yu4.out]
      have Yc2u4 : u4.cell? ⟨u1.heap.size, 2, none⟩ = some (.slice CA y.cs.length ccap) := by simp [World.cell?, Yu4.out]
      clear hu4
      go_wp2_with fail
      go_ret
      exact ⟨rfl, Bu4.out⟩
    · have hz := paE_bad HP.out hf
      subst hz
      go_wp2_with fail
      obtain ⟨u2, hu2⟩ : ∃ u2, u2 = u1.alloc (.cells #[.int .i64 En.zero.cy, .int .i64 En.zero.gr, .slice CA En.zero.cs.length ccap] 24) := ⟨_, rfl⟩
      have bu2 : Below u1.heap.size u1 u2 := by rw [hu2]; exact (Below.refl _ _).alloc (Nat.le_refl _) _
      have nu2 : u2.heap[u1.heap.size]? = some (.cells #[.int .i64 En.zero.cy, .int .i64 En.zero.gr, .slice CA En.zero.cs.length ccap] 24 (0, 0)) := by rw [hu2]; exact heap_alloc_new _ _
      have Bu2 := Lib.hid (Bu1.out.trans ((bu2).mono mu1))
      have mu2 : w.heap.size ≤ u2.heap.size := Nat.le_trans mu1 (bu2).size
      have Eu2 := Lib.hid (Eu1.out.below ((bu2).mono (by omega)))
      have Iu2 := Lib.hid ((Iu1.out.below (bu2)).mono (bu2).size)
      have Xu2 := Lib.hid (((bu2).block _ (heap_lt Xu1.out)).trans Xu1.out)
      have Ju2 := Lib.hid ((Ju1.out.below (bu2)).mono (bu2).size)
      clear Bu1 mu1 Eu1 Iu1 Xu1 Ju1 Xc0u1 Xc1u1 Xc2u1
      have Xc0u2 : u2.cell? ⟨w.heap.size, 0, none⟩ = some (.int .i64 x.cy) := by simp [World.cell?, Xu2.out]
      have Xc1u2 : u2.cell? ⟨w.heap.size, 1, none⟩ = some (.int .i64 x.gr) := by simp [World.cell?, Xu2.out]
      have Xc2u2 : u2.cell? ⟨w.heap.size, 2, none⟩ = some (.slice A x.cs.length cap) := by simp [World.cell?, Xu2.out]
      rw [← hu2]
      clear hu2 bu2 Xa0 Xa1 Xa2
      have Yu2 := Lib.hid nu2
      clear nu2
      have Yc0u2 : u2.cell? ⟨u1.heap.size, 0, none⟩ = some (.int .i64 En.zero.cy) := by simp [World.cell?, Yu2.out]
      have Yc1u2 : u2.cell? ⟨u1.heap.size, 1, none⟩ = some (.int .i64 En.zero.gr) := by simp [World.cell?, Yu2.out]
      have Yc2u2 : u2.cell? ⟨u1.heap.size, 2, none⟩ = some (.slice CA En.zero.cs.length ccap) := by simp [World.cell?, Yu2.out]
      refine (same17 En.zero CA none ccap 0 u2 Ju2.out (fun h => absurd h (by decide)) (by decide) (fun c h => by cases h)).mono ?_
      rintro e u3 ⟨rfl, hu3⟩
      have Bu3 := Lib.hid (Bu2.out.trans ((hu3).mono mu2))
      have mu3 : w.heap.size ≤ u3.heap.size := Nat.le_trans mu2 (hu3).size
      have Eu3 := Lib.hid (Eu2.out.below ((hu3).mono (by omega)))
      have Iu3 := Lib.hid ((Iu2.out.below (hu3)).mono (hu3).size)
      have Xu3 := Lib.hid (((hu3).block _ (heap_lt Xu2.out)).trans Xu2.out)
      have Ju3 := Lib.hid ((Ju2.out.below (hu3)).mono (hu3).size)
      have Yu3 := Lib.hid (((hu3).block _ (heap_lt Yu2.out)).trans Yu2.out)
      clear Bu2 mu2 Eu2 Iu2 Xu2 Ju2 Yu2 Xc0u2 Xc1u2 Xc2u2 Yc0u2 Yc1u2 Yc2u2
      have Xc0u3 : u3.cell? ⟨w.heap.size, 0, none⟩ = some (.int .i64 x.cy) := by simp [World.cell?, Xu3.out]
      have Xc1u3 : u3.cell? ⟨w.heap.size, 1, none⟩ = some (.int .i64 x.gr) := by simp [World.cell?, Xu3.out]
      have Xc2u3 : u3.cell? ⟨w.heap.size, 2, none⟩ = some (.slice A x.cs.length cap) := by simp [World.cell?, Xu3.out]
      have Yc0u3 : u3.cell? ⟨u1.heap.size, 0, none⟩ = some (.int .i64 En.zero.cy) := by simp [World.cell?, Yu3.out]
      have Yc1u3 : u3.cell? ⟨u1.heap.size, 1, none⟩ = some (.int .i64 En.zero.gr) := by simp [World.cell?, Yu3.out]
      have Yc2u3 : u3.cell? ⟨u1.heap.size, 2, none⟩ = some (.slice CA En.zero.cs.length ccap) := by simp [World.cell?, Yu3.out]
      clear hu3
      go_wp2_with fail
      go_ret
      exact ⟨rfl, Bu3.out⟩
theorem roundtrip6s (x : En) (A : Option Addr) (cap : Nat) (s : ByteArray) (w : World) (E : Env 8 w) (h8 : 8 ≤ w.heap.size) (hc : InCr w w.heap.size A x.cs) (hcap : x.cs.length ≤ cap) (hN : x.cs.length ≤ maxLen) (hmo : ∀ c ∈ x.cs, 0 ≤ c.mo) :
    Calls Tryz.prog 6 #[.agg #[.int .i64 x.cy, .int .i64 x.gr, .slice A x.cs.length cap], .string s] w fun e w' => e = .returned (.bool true) ∧ Below w.heap.size w w' := by
  have := roundtrip6 x A cap s.data.toList w E h8 hc hcap hN hmo
  rw [S_data] at this
  exact this
end Go.Proofs.YtnnnpliigdfipaaGreatDoor
