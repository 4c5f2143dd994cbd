/- encounter: the reference's aim, Fly, Aim and Path. -/
import Derived.Test.YtnnnpliigdfipaaGreatDoorRows
import Derived.WalkKit
import Derived.WalkLawsBesides
import Derived.WalkSpells
import Derived.ProofKit
import Derived.Below
import Derived.Outline
import Derived.Lib.Hide
import Derived.Deep.RegionWith
import Derived.Deep.RegionHeld3
import Derived.Deep.DrawnRows
import Derived.StillTailTactics
import Derived.BigQuiet
import Derived.Deep.QuietTactic
import Derived.Deep.LoopGhost
import Derived.IntWalk
import Derived.Lib.MinMax
import Derived.OrdersHeld
import Derived.Deep.CutBlock
import Derived.Deep.CutRange
import Derived.Deep.DeepCutAuto
import Derived.Test.YtnnnpliigdfipaaGreatDoorEnHF
import Derived.Test.YtnnnpliigdfipaaGreatDoorEnM
import Derived.Test.YtnnnpliigdfipaaGreatDoorEnG
import Derived.Test.YtnnnpliigdfipaaGreatDoorEnF
import Derived.Test.YtnnnpliigdfipaaGreatDoorEnHC
namespace Go.Proofs.YtnnnpliigdfipaaGreatDoor
open Go.RowKit
attribute [local go_sem ↓] Go.wp_at_zero Go.wp_at_succ
attribute [local go_sem] wrap_lit
theorem leg_drop {cy : Int} : ∀ (l : List (Int × Int)) (a : Int) (n : Nat), legE cy a l = 0 → ∃ b, legE cy b (l.drop n) = 0
  | l, a, 0, h => ⟨a, h⟩
  | [], a, n + 1, h => ⟨a, h⟩
  | x :: l, a, n + 1, h => by
    unfold legE at h
    split at h
    · cases h
    · split at h
      · cases h
      · exact leg_drop l _ n h
theorem leg_ge {cy : Int} : ∀ (l : List (Int × Int)) (a : Int), legE cy a l = 0 → ∀ y ∈ l, a ≤ y.1
  | [], a, h, y, hy => by cases hy
  | x :: l, a, h, y, hy => by
    unfold legE at h
    split at h
    · cases h
    · rename_i h1
      split at h
      · cases h
      · have hx : inB x.1 a (cy - 1) = true := by cases hh : inB x.1 a (cy - 1) <;> simp_all
        obtain ⟨g1, g2⟩ := inB_iff hx
        rcases List.mem_cons.1 hy with rfl | hy
        · exact g1
        · have := leg_ge l _ h y hy; omega
theorem aimF_far {k : Int} : ∀ (l : List (Int × Int)) (a : Int), (∀ y ∈ l, k < y.1) → aimF k a l = a
  | [], a, _ => rfl
  | x :: l, a, h => by
    have h1 := h x (by simp)
    rw [aimF, if_neg (by omega)]
    exact aimF_far l a (fun y hy => h y (by simp [hy]))
theorem aimF_stop {cy k a : Int} {l : List (Int × Int)} (h : legE cy 0 l = 0) {n : Nat} {x : Int × Int} (hd : l.drop n = x :: l.drop (n + 1)) (hk : ¬ x.1 ≤ k) : aimF k a (l.drop n) = a := by
  obtain ⟨b, hb⟩ := leg_drop l 0 n h
  rw [hd] at hb ⊢
  refine aimF_far _ _ (fun y hy => ?_)
  unfold legE at hb
  split at hb
  · cases hb
  · split at hb
    · cases hb
    · rcases List.mem_cons.1 hy with rfl | hy
      · omega
      · have := leg_ge _ _ hb y hy; omega
theorem cur_at' {w : World} {g i : Nat} {cur : Array Value} {T : TypeId} {f : Nat × Nat} {u : Value} (h : w.heap[g]? = some (.cells cur T f)) (k : cur[i]? = some u) : w.cell? ⟨g, i, none⟩ = some u := by simp [World.cell?, h, k]
set_option maxHeartbeats 2000000 in
theorem aim78 (c : Cr) (LA : Option Addr) (cap : Nat) (k cy : Int) (B : Nat) (w : World) (hl : Is .i64 w B LA (flat c.lg)) (hB : B ≤ w.heap.size) (hlen : c.lg.length ≤ 16) (hle : legE cy 0 c.lg = 0) : Calls Tryz.prog 78 #[.agg #[.int .i64 c.ad, .int .i64 c.p.x, .int .i64 c.p.y, .int .i64 c.p.z, .int .i64 c.v.x, .int .i64 c.v.y, .int .i64 c.v.z, .int .i64 c.pu, .slice LA c.lg.length cap, .int .u8 c.mo, .int .i64 c.de, .int .i64 c.pp, .int .i64 c.mi], .int .i64 k] w fun e w' => e = .returned (.int .i64 (aimE c k)) ∧ Below w.heap.size w w' := by
  have LI := Lib.hid hl
  have HLE := Lib.hid hle
  clear hl hle
  go_enter Tryz.func78, Tryz.ntmps78
  go_wp2_with fail
  obtain ⟨W0, hW0⟩ : ∃ W0, W0 = w.alloc (.cells #[.int .i64 c.ad, .int .i64 c.p.x, .int .i64 c.p.y, .int .i64 c.p.z, .int .i64 c.v.x, .int .i64 c.v.y, .int .i64 c.v.z, .int .i64 c.pu, .slice LA c.lg.length cap, .int .u8 c.mo, .int .i64 c.de, .int .i64 c.pp, .int .i64 c.mi] 63) := ⟨_, rfl⟩
  have B0 : Hid (Below w.heap.size w W0) := Lib.hid (by rw [hW0]; exact (Below.refl _ _).alloc (Nat.le_refl _) _)
  have c8 : W0.cell? ⟨w.heap.size, 8, none⟩ = some (.slice LA c.lg.length cap) := by rw [hW0]; simp
  have s0 := B0.out.size
  rw [← hW0]
  clear hW0
  go_loopw [5, 6] (fun r y wr => wr = W0 ∧ ∃ (n : Nat) (a : Int), n ≤ c.lg.length ∧ r = .int .i64 a ∧ y = .int .i64 n ∧ aimF k a (c.lg.drop n) = aimE c k) (fun _ y _ => c.lg.length - (intOf y).toNat)
  case atStart => exact ⟨by first | trivial | rfl, 0, _, Nat.zero_le _, rfl, rfl, rfl⟩
  case round =>
    obtain ⟨rfl, n, a, hn, rfl, rfl, hE⟩ := hrel
    have HE := Lib.hid hE
    clear hE
    by_cases hlt : n < c.lg.length
    · obtain ⟨b, off, rfl, hbb, hc⟩ := LI.out (by rw [flat2_len]; omega)
      obtain ⟨x, hx⟩ : ∃ x, x = c.lg[n] := ⟨_, rfl⟩
      have HD : Hid (c.lg.drop n = x :: c.lg.drop (n + 1)) := Lib.hid (by rw [hx]; exact List.drop_eq_getElem_cons hlt)
      have e0 : wr.cell? ⟨b, off + n * 2, none⟩ = some (.int .i64 x.1) := by rw [B0.out.cell (p := ⟨b, off + n * 2, none⟩) (by show b < _; omega), hc (n * 2) (by rw [flat2_len]; omega), (nth_flat c.lg n hlt).1, hx]
      have e1 : wr.cell? ⟨b, off + n * 2 + 1, none⟩ = some (.int .i64 x.2) := by rw [B0.out.cell (p := ⟨b, off + n * 2 + 1, none⟩) (by show b < _; omega), Nat.add_assoc, hc (n * 2 + 1) (by rw [flat2_len]; omega), (nth_flat c.lg n hlt).2, hx]
      have hlI : (n : Int) < (c.lg.length : Int) := by omega
      clear hc hx
      by_cases hk : x.1 ≤ k
      · have HS : Hid (aimF k x.2 (c.lg.drop (n + 1)) = aimE c k) := Lib.hid (by rw [← HE.out, HD.out, aimF, if_pos hk])
        go_wp2_with fail
        exact ⟨⟨by first | trivial | rfl, n + 1, _, by omega, rfl, by go_num, HS.out⟩, by simp [intOf]; omega⟩
      · have HX : Hid (aimE c k = a) := Lib.hid (by rw [← HE.out, aimF_stop HLE.out HD.out hk])
        go_wp2_with fail
        go_ret
        exact ⟨ret_int HX.out.symm, B0.out⟩
    · have HX : Hid (aimE c k = a) := Lib.hid (by rw [← HE.out, List.drop_eq_nil_of_le (by omega)]; rfl)
      have hlI : ¬ (n : Int) < (c.lg.length : Int) := by omega
      go_wp2_with fail
      go_ret
      exact ⟨ret_int HX.out.symm, B0.out⟩
set_option maxHeartbeats 2000000 in
theorem fly77 (z v lo hi pull : Int) (w : World) (hzv : (-1000 ≤ z ∧ z ≤ 50000) ∧ -100 ≤ v ∧ v ≤ 100) (hb : bdB lo hi = true) (hbd : -100 ≤ lo ∧ lo ≤ hi) (p0 : 0 ≤ pull) (p1 : pull ≤ 32) : Calls Tryz.prog 77 #[.agg #[.int .i64 z, .int .i64 v], .int .i64 lo, .int .i64 hi, .int .i64 pull] w fun e w' => e = .returned (.tuple #[.agg #[.int .i64 (flyR z v lo hi pull).1, .int .i64 (flyR z v lo hi pull).2], .int .i64 0]) ∧ Below w.heap.size w w' := by
  obtain ⟨⟨z0, z1⟩, v0, v1⟩ := (show (-1000 ≤ z ∧ z ≤ 50000) ∧ -100 ≤ v ∧ v ≤ 100 from hzv)
  have HP : Hid (plE z v = 0) := Lib.hid (by unfold plE; rw [if_pos ⟨inB_t z0 z1, inB_t v0 v1⟩])
  have HW : Hid (wrE lo hi = 0) := Lib.hid (by unfold wrE; rw [if_pos hb])
  obtain ⟨l0, l1⟩ := (show -100 ≤ lo ∧ lo ≤ hi from hbd)
  clear hzv hb hbd
  go_enter Tryz.func77, Tryz.ntmps77
  go_wp2_with fail
  obtain ⟨w0, hw0⟩ : ∃ w0, w0 = (w.alloc (.cells #[.int .i64 z, .int .i64 v] 42)).alloc (.cells #[.int .i64 0, .int .i64 0] 42) := ⟨_, rfl⟩
  have bw0 : Below w.heap.size w w0 := by rw [hw0]; exact ((Below.refl _ _).alloc (Nat.le_refl _) _).alloc (by simp) _
  have Xw0 := Lib.hid (show w0.heap[w.heap.size]? = some (.cells #[.int .i64 z, .int .i64 v] 42 (0, 0)) by rw [hw0]; exact (Below.heap_alloc _ _ _ (by simp)).trans (heap_alloc_new _ _))
  have Rw0 := Lib.hid (show w0.heap[w.heap.size + 1]? = some (.cells #[.int .i64 0, .int .i64 0] 42 (0, 0)) by rw [hw0]; exact heap_alloc_at _ _ _ (by simp))
  have Bw0 : Hid (Below w.heap.size w w0) := Lib.hid ((bw0))
  have mw0 : w.heap.size ≤ w0.heap.size := (bw0).size
  rw [← hw0]
  clear hw0 bw0
  have Xc0w0 : w0.cell? ⟨w.heap.size, 0, none⟩ = some (.int .i64 z) := by simp [World.cell?, Xw0.out]
  have Xc1w0 : w0.cell? ⟨w.heap.size, 1, none⟩ = some (.int .i64 v) := by simp [World.cell?, Xw0.out]
  have Rc0w0 : w0.cell? ⟨w.heap.size + 1, 0, none⟩ = some (.int .i64 0) := by simp [World.cell?, Rw0.out]
  have Rc1w0 : w0.cell? ⟨w.heap.size + 1, 1, none⟩ = some (.int .i64 0) := by simp [World.cell?, Rw0.out]
  refine (pcheck111 z v w0).mono ?_
  rintro e w1 ⟨rfl, hw1⟩
  have Bw1 := Lib.hid (Bw0.out.trans ((hw1).mono mw0))
  have mw1 : w.heap.size ≤ w1.heap.size := Nat.le_trans mw0 (hw1).size
  have Xw1 := Lib.hid (((hw1).block _ (heap_lt Xw0.out)).trans Xw0.out)
  have Rw1 := Lib.hid (((hw1).block _ (heap_lt Rw0.out)).trans Rw0.out)
  clear Bw0 mw0 Xw0 Rw0 Xc0w0 Xc1w0 Rc0w0 Rc1w0
  have Xc0w1 : w1.cell? ⟨w.heap.size, 0, none⟩ = some (.int .i64 z) := by simp [World.cell?, Xw1.out]
  have Xc1w1 : w1.cell? ⟨w.heap.size, 1, none⟩ = some (.int .i64 v) := by simp [World.cell?, Xw1.out]
  have Rc0w1 : w1.cell? ⟨w.heap.size + 1, 0, none⟩ = some (.int .i64 0) := by simp [World.cell?, Rw1.out]
  have Rc1w1 : w1.cell? ⟨w.heap.size + 1, 1, none⟩ = some (.int .i64 0) := by simp [World.cell?, Rw1.out]
  clear hw1
  rw [HP.out]
  go_wp2_with fail
  refine (wrong112 lo hi w1).mono ?_
  rintro e wS ⟨rfl, hS⟩
  rw [hS, HW.out]
  go_wp2_with fail
  refine (next113 z v lo hi pull w1 z0 z1 v0 v1 p0 p1 l0 l1).mono ?_
  rintro e w2 ⟨rfl, hw2⟩
  have Bw2 := Lib.hid (Bw1.out.trans ((hw2).mono mw1))
  have mw2 : w.heap.size ≤ w2.heap.size := Nat.le_trans mw1 (hw2).size
  have Xw2 := Lib.hid (((hw2).block _ (heap_lt Xw1.out)).trans Xw1.out)
  have Rw2 := Lib.hid (((hw2).block _ (heap_lt Rw1.out)).trans Rw1.out)
  clear Bw1 mw1 Xw1 Rw1 Xc0w1 Xc1w1 Rc0w1 Rc1w1
  have Xc0w2 : w2.cell? ⟨w.heap.size, 0, none⟩ = some (.int .i64 z) := by simp [World.cell?, Xw2.out]
  have Xc1w2 : w2.cell? ⟨w.heap.size, 1, none⟩ = some (.int .i64 v) := by simp [World.cell?, Xw2.out]
  have Rc0w2 : w2.cell? ⟨w.heap.size + 1, 0, none⟩ = some (.int .i64 0) := by simp [World.cell?, Rw2.out]
  have Rc1w2 : w2.cell? ⟨w.heap.size + 1, 1, none⟩ = some (.int .i64 0) := by simp [World.cell?, Rw2.out]
  clear hw2
  obtain ⟨Z, hZ⟩ : ∃ Z, Z = (flyR z v lo hi pull).1 := ⟨_, rfl⟩
  obtain ⟨V, hV⟩ : ∃ V, V = (flyR z v lo hi pull).2 := ⟨_, rfl⟩
  rw [← hZ, ← hV]
  have HZ := Lib.hid hZ
  have HV := Lib.hid hV
  clear hZ hV
  obtain ⟨tt, htt⟩ : ∃ tt, tt = (!inB (z + v) (-1000) 50000) := ⟨_, rfl⟩
  rw [← htt]
  clear htt
  have Xa0 : ∀ ob, (w2.alloc ob).cell? ⟨w.heap.size, 0, none⟩ = some (.int .i64 z) := fun ob => (World.cell?_alloc_lt _ _ _ (heap_lt Xw2.out)).trans Xc0w2
  have Xa1 : ∀ ob, (w2.alloc ob).cell? ⟨w.heap.size, 1, none⟩ = some (.int .i64 v) := fun ob => (World.cell?_alloc_lt _ _ _ (heap_lt Xw2.out)).trans Xc1w2
  have Ra0 : ∀ ob, (w2.alloc ob).cell? ⟨w.heap.size + 1, 0, none⟩ = some (.int .i64 0) := fun ob => (World.cell?_alloc_lt _ _ _ (heap_lt Rw2.out)).trans Rc0w2
  have Ra1 : ∀ ob, (w2.alloc ob).cell? ⟨w.heap.size + 1, 1, none⟩ = some (.int .i64 0) := fun ob => (World.cell?_alloc_lt _ _ _ (heap_lt Rw2.out)).trans Rc1w2
  have fr : ∀ ob i, (w2.alloc ob).frozen? ⟨w.heap.size + 1, i, none⟩ = false := fun ob i => (World.frozen?_alloc_past _ _ _ (by show w.heap.size + 1 < _; exact heap_lt Rw2.out)).trans (by simp [World.frozen?, Rw2.out])
  go_wp2_with fail
  (try simp only [Exit.inBlock, Exit.then])
  have z2 := fun (ob : Obj) (A B : Value) => set2 (w2.alloc ob) (w.heap.size + 1) _ _ A B (Ra0 ob) (Ra1 ob)
  exact bodyPost_ret (v := .tuple #[.agg #[.int .i64 Z, .int .i64 V], .int .i64 0]) (by simp [results, Tryz.results77, go_sem, z2]) rfl ⟨by rw [HZ.out, HV.out], ((Bw2.out.alloc mw2 _).setCell (p := ⟨w.heap.size + 1, 0, none⟩) (Nat.le_succ _) _).setCell (p := ⟨w.heap.size + 1, 1, none⟩) (Nat.le_succ _) _⟩
theorem ret_p2 {R : Int × Int} {a b : Int} (h : R = (a, b)) : Ending.returned (.tuple #[.int .i64 a, .int .i64 b]) = .returned (.tuple #[.int .i64 R.1, .int .i64 R.2]) := by rw [h]
theorem inB_len {i n : Int} (h : inB i 0 (n - 1) = false) : i < 0 ∨ n ≤ i := by
  rcases Int.lt_or_le i 0 with g | g
  · exact .inl g
  · rcases Int.lt_or_le i n with g2 | g2
    · exact absurd (show inB i 0 (n - 1) = true from inB_t g (by omega)) (by rw [h]; decide)
    · exact .inr g2
set_option maxRecDepth 100000 in
set_option maxHeartbeats 4000000 in
theorem aim25 (x : En) (A : Option Addr) (cap : Nat) (i k : Int) (w : World) (hc : InCr w w.heap.size A x.cs) (hcap : x.cs.length ≤ cap) (hcm : cap ≤ maxLen) : Calls Tryz.prog 25 #[.agg #[.int .i64 x.cy, .int .i64 x.gr, .slice A x.cs.length cap], .int .i64 i, .int .i64 k] w fun e w' => e = .returned (.tuple #[.int .i64 (aimR x i k).1, .int .i64 (aimR x i k).2]) ∧ Below w.heap.size w w' := by
  have Iw := Lib.hid hc
  clear hc
  have wl : IntKind.i64.wrap ((x.cs.length : Int) - 1) = (x.cs.length : Int) - 1 := IntWalk.i64_in _ (by have := hcap; have := hcm; unfold maxLen at *; omega)
  go_enter Tryz.func25, Tryz.ntmps25
  go_wp2_with fail
  obtain ⟨w0, hw0⟩ : ∃ w0, w0 = w.alloc (.cells #[.int .i64 x.cy, .int .i64 x.gr, .slice A x.cs.length cap] 24) := ⟨_, rfl⟩
  have bw0 : Below w.heap.size w w0 := by rw [hw0]; exact (Below.refl _ _).alloc (Nat.le_refl _) _
  have nw0 : w0.heap[w.heap.size]? = some (.cells #[.int .i64 x.cy, .int .i64 x.gr, .slice A x.cs.length cap] 24 (0, 0)) := by rw [hw0]; exact heap_alloc_new _ _
  have Bw0 : Hid (Below w.heap.size w w0) := Lib.hid ((bw0))
  have mw0 : w.heap.size ≤ w0.heap.size := (bw0).size
  have Iw0 := Lib.hid ((Iw.out.below (bw0)).mono (bw0).size)
  clear Iw
  rw [← hw0]
  clear hw0 bw0
  have Xw0 := Lib.hid nw0
  clear nw0
  have Xc0w0 : w0.cell? ⟨w.heap.size, 0, none⟩ = some (.int .i64 x.cy) := by simp [World.cell?, Xw0.out]
  have Xc1w0 : w0.cell? ⟨w.heap.size, 1, none⟩ = some (.int .i64 x.gr) := by simp [World.cell?, Xw0.out]
  have Xc2w0 : w0.cell? ⟨w.heap.size, 2, none⟩ = some (.slice A x.cs.length cap) := by simp [World.cell?, Xw0.out]
  refine (check20 x A cap w0 Iw0.out).mono ?_
  rintro e w1 ⟨rfl, hw1⟩
  have Bw1 := Lib.hid (Bw0.out.trans ((hw1).mono mw0))
  have mw1 : w.heap.size ≤ w1.heap.size := Nat.le_trans mw0 (hw1).size
  have Iw1 := Lib.hid ((Iw0.out.below (hw1)).mono (hw1).size)
  have Xw1 := Lib.hid (((hw1).block _ (heap_lt Xw0.out)).trans Xw0.out)
  clear Bw0 mw0 Iw0 Xw0 Xc0w0 Xc1w0 Xc2w0
  have Xc0w1 : w1.cell? ⟨w.heap.size, 0, none⟩ = some (.int .i64 x.cy) := by simp [World.cell?, Xw1.out]
  have Xc1w1 : w1.cell? ⟨w.heap.size, 1, none⟩ = some (.int .i64 x.gr) := by simp [World.cell?, Xw1.out]
  have Xc2w1 : w1.cell? ⟨w.heap.size, 2, none⟩ = some (.slice A x.cs.length cap) := by simp [World.cell?, Xw1.out]
  clear hw1
  by_cases hch : ¬ chE x = 0
  · have HR : Hid (aimR x i k = (0, chE x)) := Lib.hid (by have e : numE x [i] = chE x := by { unfold numE; rw [if_pos hch] }; unfold aimR; rw [e, if_pos hch])
    have hcb : (chE x != 0) = true := by simpa using hch
    clear hch
    go_wp2_with fail
    go_ret2
    exact ⟨ret_p2 HR.out, Bw1.out⟩
  have hch := Classical.not_not.1 hch
  have OK := Lib.hid (chE_ok hch)
  have HCH := Lib.hid hch
  rw [hch]
  clear hch
  have hcy := OK.out.1
  have wy : IntKind.i64.wrap (x.cy - 1) = x.cy - 1 := IntWalk.i64_in _ (by omega)
  go_wp2_with fail
  refine (within75 i 0 ((x.cs.length : Int) - 1) w1).mono ?_
  rintro e wS ⟨rfl, rfl⟩
  cases hi : inB i 0 ((x.cs.length : Int) - 1) with
  | false =>
    have e8 : numE x [i] = 8 := numE_bad x [i] 0 (by simp) HCH.out (by simp only [nth, List.getD_cons_zero]; exact inB_len hi)
    have HR : Hid (aimR x i k = (0, 8)) := Lib.hid (by unfold aimR; rw [e8, if_pos (by decide)])
    clear hi e8
    go_wp2_with fail
    go_ret2
    exact ⟨ret_p2 HR.out, Bw1.out⟩
  | true =>
    obtain ⟨i0, i1⟩ := inB_iff hi
    obtain ⟨n, rfl⟩ : ∃ n : Nat, i = n := ⟨i.toNat, by omega⟩
    have hn : n < x.cs.length := by omega
    have hnI : (n : Int) < (x.cs.length : Int) := by omega
    have e0 : numE x [(n : Int)] = 0 := numE_ok x [(n : Int)] HCH.out (fun j hj => by obtain rfl : j = 0 := (by simpa using hj); exact ⟨by simp [nth], by simp [nth]; omega⟩)
    have HR0 : Hid (aimR x n k = if inB k 0 (x.cy - 1) = false then (0, 8) else (aimE (crAt x n) k, 0)) := Lib.hid (by unfold aimR; rw [e0, if_neg (fun h => h rfl)])
    clear hi e0
    go_wp2_with fail
    refine (within75 k 0 (x.cy - 1) w1).mono ?_
    rintro e wS ⟨rfl, rfl⟩
    cases hk : inB k 0 (x.cy - 1) with
    | false =>
      have HR : Hid (aimR x n k = (0, 8)) := Lib.hid (by rw [HR0.out, if_pos hk])
      clear hk
      go_wp2_with fail
      go_ret2
      exact ⟨ret_p2 HR.out, Bw1.out⟩
    | true =>
      obtain ⟨b, off, rfl, hbb, hcc⟩ := Iw1.out (by omega)
      obtain ⟨c, hcj⟩ : ∃ c, x.cs[n]? = some c := ⟨_, List.getElem?_eq_getElem (by omega)⟩
      obtain ⟨LA, cap', hA, hL⟩ := hcc n c hcj
      have HR : Hid (aimR x n k = (aimE c k, 0)) := Lib.hid (by rw [HR0.out, if_neg (by rw [hk]; decide), crAt_n hcj])
      have CR := Lib.hid (crE_ok (cr_ok hcj OK.out.2.2.2.2).2)
      have AM := Lib.hid (aim78 c LA cap' k x.cy _ w1 hL (Nat.le_refl _) CR.out.2.2.2.2.2.2.1 CR.out.2.2.2.2.2.2.2)
      clear hcc hcj hL hk
      obtain ⟨a0, a1, a2, a3, a4, a5, a6, a7, a8, a9, a10, a11, a12⟩ := hA
      go_wp2_with fail
      refine (AM.out).mono ?_
      rintro e w2 ⟨rfl, hw2⟩
      have Bw2 := Lib.hid (Bw1.out.trans ((hw2).mono mw1))
      have mw2 : w.heap.size ≤ w2.heap.size := Nat.le_trans mw1 (hw2).size
      have Iw2 := Lib.hid ((Iw1.out.below (hw2)).mono (hw2).size)
      have Xw2 := Lib.hid (((hw2).block _ (heap_lt Xw1.out)).trans Xw1.out)
      clear Bw1 mw1 Iw1 Xw1 Xc0w1 Xc1w1 Xc2w1
      have Xc0w2 : w2.cell? ⟨w.heap.size, 0, none⟩ = some (.int .i64 x.cy) := by simp [World.cell?, Xw2.out]
      have Xc1w2 : w2.cell? ⟨w.heap.size, 1, none⟩ = some (.int .i64 x.gr) := by simp [World.cell?, Xw2.out]
      have Xc2w2 : w2.cell? ⟨w.heap.size, 2, none⟩ = some (.slice (some ⟨b, off, none⟩) x.cs.length cap) := by simp [World.cell?, Xw2.out]
      clear hw2
      go_wp2_with fail
      go_ret2
      exact ⟨ret_p2 HR.out, Bw2.out⟩
end Go.Proofs.YtnnnpliigdfipaaGreatDoor
