/- encounter: Path. -/
import Derived.Test.YtnnnpliigdfipaaGreatDoorRows
import Derived.WalkKit
import Derived.WalkLawsBesides
import Derived.WalkSpells
import Derived.ProofKit
import Derived.Below
import Derived.Outline
import Derived.Lib.Hide
import Derived.Deep.RegionWith
import Derived.Deep.RegionHeld3
import Derived.Deep.DrawnRows
import Derived.StillTailTactics
import Derived.BigQuiet
import Derived.Deep.QuietTactic
import Derived.Deep.LoopGhost
import Derived.IntWalk
import Derived.Lib.MinMax
import Derived.Test.YtnnnpliigdfipaaGreatDoorEnL
import Derived.Test.YtnnnpliigdfipaaGreatDoorEnC
namespace Go.Proofs.YtnnnpliigdfipaaGreatDoor
open Go.RowKit
attribute [local go_sem ↓] Go.wp_at_zero Go.wp_at_succ
attribute [local go_sem] wrap_lit
theorem plane_info : (Tryz.prog.info? 42).map (fun i => (i.zero, i.size, i.bytes)) = some (some (.agg #[.int .i64 0, .int .i64 0]), 2, 16) := by kernel_rfl
theorem Acc.ownc {k : IntKind} {w : World} {base : Nat} {e : TypeId} {size n : Nat} {v : Value} {ys : List Int} (h : Acc k w base e size v n ys) :
    ∃ A cap, v = .slice A n cap ∧ n ≤ cap ∧ Own k w base A e ys := by
  obtain ⟨A, cap, rfl, ho⟩ := h.own
  refine ⟨A, cap, rfl, ?_, ho⟩
  rcases h.2 with ⟨e, -⟩ | ⟨g, cap', cur, e, -, -, hn, -⟩
  · injection e with e1 e2 e3
    omega
  · injection e with e1 e2 e3
    omega
theorem Acc.fresh {k : IntKind} {w : World} {g base : Nat} {e : TypeId} {size : Nat} {ys : List Int} (h : w.heap[g]? = some (.cells (ys.map (Value.int k)).toArray e (0, 0))) (hb : base ≤ g) (hl : ys.length = size) : Acc k w base e size (.slice (some ⟨g, 0, none⟩) 1 1) 1 ys :=
  ⟨by simp [hl], .inr ⟨g, 1, _, rfl, hb, h, Nat.le_refl _, by unfold maxLen; omega, by simp [hl], by simp [List.take_of_length_le, hl]⟩⟩
theorem Acc.alloc {k : IntKind} {w : World} {base : Nat} {e : TypeId} {size n : Nat} {v : Value} {ys : List Int} (h : Acc k w base e size v n ys) (o : Obj) : Acc k (w.alloc o) base e size v n ys := World.ownsRow.alloc h o
theorem set2 (w : World) (b : Nat) (x y Z V : Value) (h0 : w.cell? ⟨b, 0, none⟩ = some x) (h1 : w.cell? ⟨b, 1, none⟩ = some y) : ((w.setCell ⟨b, 0, none⟩ Z).setCell ⟨b, 1, none⟩ V).cell? ⟨b, 0, none⟩ = some Z ∧ ((w.setCell ⟨b, 0, none⟩ Z).setCell ⟨b, 1, none⟩ V).cell? ⟨b, 1, none⟩ = some V := by
  refine ⟨?_, ?_⟩
  · rw [World.cell?_setCell_other _ _ _ _ (by intro e; simp at e), World.cell?_setCell_same _ _ _ h0]
  · rw [World.cell?_setCell_same _ _ _ (u := y)]
    rw [World.cell?_setCell_other _ _ _ _ (by intro e; simp at e)]
    exact h1
def flyN (c : Cr) : Nat → Int × Int
  | 0 => (c.p.z, c.v.z)
  | n + 1 => flyR (flyN c n).1 (flyN c n).2 (aimE c n) (aimE c n) c.pu
/-- the free flight of an aircraft in n cycles -/
def pathL (c : Cr) (n : Nat) : List (Int × Int) := (List.range (n + 1)).map (flyN c)
theorem pathL_succ (c : Cr) (n : Nat) : pathL c (n + 1) = pathL c n ++ [flyN c (n + 1)] := by
  unfold pathL; rw [List.range_succ, List.map_append]; rfl
theorem pathL_len (c : Cr) (n : Nat) : (pathL c n).length = n + 1 := by simp [pathL]
theorem flat_app : ∀ l m : List (Int × Int), flat (l ++ m) = flat l ++ flat m
  | [], m => rfl
  | x :: l, m => by simp [flat, flat_app l m]
/-- an aircraft of a valid encounter -/
structure Good (c : Cr) (cy : Int) : Prop where
  z : -1000 ≤ c.p.z ∧ c.p.z ≤ 50000
  v : -100 ≤ c.v.z ∧ c.v.z ≤ 100
  pu : 1 ≤ c.pu ∧ c.pu ≤ 32
  lg : ∀ x ∈ c.lg, (0 ≤ x.1 ∧ x.1 ≤ 119) ∧ (-100 ≤ x.2 ∧ x.2 ≤ 100)
  len : c.lg.length ≤ 16
theorem good_of {c : Cr} {cy : Int} (h1 : 1 ≤ cy) (h2 : cy ≤ 120) (h : crE c cy = 0) : Good c cy := by
  obtain ⟨hp, hv, -, hpu, -, -, hl, hle⟩ := crE_ok h
  exact ⟨hp.2.2.2.2, hv.2.2.2.2, inB_iff hpu, bd_legs h1 h2 c.lg 0 (by omega) hle, hl⟩
theorem aimF_bd {k : Int} : ∀ (l : List (Int × Int)) (a : Int), -100 ≤ a ∧ a ≤ 100 → (∀ x ∈ l, -100 ≤ x.2 ∧ x.2 ≤ 100) → -100 ≤ aimF k a l ∧ aimF k a l ≤ 100
  | [], a, h, _ => h
  | x :: l, a, h, hl => by
    unfold aimF
    refine aimF_bd l _ ?_ (fun y hy => hl y (by simp [hy]))
    split
    · exact hl x (by simp)
    · exact h
theorem aim_bd {c : Cr} {cy : Int} (g : Good c cy) (k : Int) : -100 ≤ aimE c k ∧ aimE c k ≤ 100 := aimF_bd _ _ g.v (fun x hx => (g.lg x hx).2)
theorem flyR_bd {z v a pu : Int} (v0 : -100 ≤ v ∧ v ≤ 100) (a0 : -100 ≤ a ∧ a ≤ 100) (p0 : 1 ≤ pu ∧ pu ≤ 32) : (-1000 ≤ (flyR z v a a pu).1 ∧ (flyR z v a a pu).1 ≤ 50000) ∧ (-100 ≤ (flyR z v a a pu).2 ∧ (flyR z v a a pu).2 ≤ 100) := by
  unfold flyR
  split
  · rename_i h
    have := inB_iff h
    refine ⟨this, ?_⟩
    show -100 ≤ flV v a a pu ∧ flV v a a pu ≤ 100
    unfold flV
    split
    · omega
    · split <;> omega
  · refine ⟨?_, ?_⟩
    · show -1000 ≤ min (max (z + v) (-1000)) 50000 ∧ min (max (z + v) (-1000)) 50000 ≤ 50000
      omega
    · simp
theorem flyN_bd {c : Cr} {cy : Int} (g : Good c cy) : ∀ n, (-1000 ≤ (flyN c n).1 ∧ (flyN c n).1 ≤ 50000) ∧ (-100 ≤ (flyN c n).2 ∧ (flyN c n).2 ≤ 100)
  | 0 => ⟨g.z, g.v⟩
  | n + 1 => flyR_bd (flyN_bd g n).2 (aim_bd g n) g.pu
theorem flyAll_ok {c : Cr} {cy : Int} (g : Good c cy) (n : Nat) : flyAll (flyN c n).1 (flyN c n).2 (aimE c n) (aimE c n) c.pu = (flyN c (n + 1), 0) := by
  obtain ⟨⟨z0, z1⟩, v0, v1⟩ := flyN_bd g n
  obtain ⟨a0, a1⟩ := aim_bd g n
  obtain ⟨p0, p1⟩ := g.pu
  unfold flyAll
  rw [if_neg (by unfold plE; rw [if_pos ⟨inB_t z0 z1, inB_t v0 v1⟩]; decide), if_pos ⟨by unfold bdB; rw [inB_t a0 (by omega)]; simp; omega, inB_t (by omega) p1⟩]
  rfl
def pathR (x : En) (i : Int) : List (Int × Int) × Int := if numE x [i] ≠ 0 then ([], numE x [i]) else (pathL (crAt x i) x.cy.toNat, 0)
set_option maxRecDepth 100000 in
set_option maxHeartbeats 4000000 in
theorem path22c (x : En) (A : Option Addr) (cap : Nat) (i : Int) (w : World) (hc : InCr w w.heap.size A x.cs) (hcap : x.cs.length ≤ cap) : Calls Tryz.prog 22 #[.agg #[.int .i64 x.cy, .int .i64 x.gr, .slice A x.cs.length cap], .int .i64 i] w fun e w' => ∃ PA pcap, e = .returned (.tuple #[.slice PA (pathR x i).1.length pcap, .int .i64 (pathR x i).2]) ∧ (pathR x i).1.length ≤ pcap ∧ Own .i64 w' w.heap.size PA 42 (flat (pathR x i).1) ∧ Below w.heap.size w w' := by
  obtain ⟨i0, hi0, hz0, hz1, hz2⟩ := info_parts plane_info
  by_cases hx : numE x [i] = 0
  · obtain ⟨h0, hi⟩ := numE_0 hx
    have hi0 := hi 0 (by simp)
    have OK := Lib.hid (chE_ok h0)
    simp only [nth, List.getD_cons_zero] at hi0
    obtain ⟨n, rfl⟩ : ∃ n : Nat, i = n := ⟨i.toNat, by omega⟩
    have hn : n < x.cs.length := by omega
    have hq : (numE x [(n : Int)] != 0) = false := by simp [hx]
    have HX := Lib.hid hx
    clear hx h0 hi hi0
    go_enter Tryz.func22, Tryz.ntmps22
    go_wp2_with fail
    obtain ⟨X1, hX1⟩ : ∃ X1, X1 = (w.alloc (.cells #[.int .i64 x.cy, .int .i64 x.gr, .slice A x.cs.length cap] 24)).alloc (.cells #[.int .i64 n] 3) := ⟨_, rfl⟩
    have BX1 : Hid (Below w.heap.size w X1) := Lib.hid (by rw [hX1]; exact ((Below.refl _ _).alloc (Nat.le_refl _) _).alloc (by simp) _)
    have zxX1 : w.heap.size < X1.heap.size := by rw [hX1]; simp <;> omega
    have xX1_0 : X1.cell? ⟨w.heap.size, 0, none⟩ = some (.int .i64 x.cy) := by rw [hX1]; go_simp
    have xX1_1 : X1.cell? ⟨w.heap.size, 1, none⟩ = some (.int .i64 x.gr) := by rw [hX1]; go_simp
    have xX1_2 : X1.cell? ⟨w.heap.size, 2, none⟩ = some (.slice A x.cs.length cap) := by rw [hX1]; go_simp
    have znX1 : w.heap.size + 1 < X1.heap.size := by rw [hX1]; simp <;> omega
    have nX1_0 : X1.cell? ⟨w.heap.size + 1, 0, none⟩ = some (.int .i64 n) := by rw [hX1]; go_simp
    have mX1 : w.heap.size ≤ X1.heap.size := by rw [hX1]; simp <;> omega
    rw [← hX1]
    clear hX1
    have IX1 := Lib.hid ((hc.below BX1.out).mono mX1)
    clear hc
    have N1 := is1 nX1_0 znX1
    refine (num1 x A cap _ 1 n X1 IX1.out hcap N1).mono ?_
    rintro e w1 ⟨rfl, hw1⟩
    have Bw1 : Hid (Below w.heap.size w w1) := Lib.hid (BX1.out.trans ((hw1).mono mX1))
    have mw1 : w.heap.size ≤ w1.heap.size := Nat.le_trans mX1 (hw1).size
    have zxw1 : w.heap.size < w1.heap.size := Nat.lt_of_lt_of_le zxX1 (hw1).size
    have xw1_0 := ((hw1).cell (p := ⟨w.heap.size, 0, none⟩) zxX1).trans xX1_0
    have xw1_1 := ((hw1).cell (p := ⟨w.heap.size, 1, none⟩) zxX1).trans xX1_1
    have xw1_2 := ((hw1).cell (p := ⟨w.heap.size, 2, none⟩) zxX1).trans xX1_2
    have znw1 : w.heap.size + 1 < w1.heap.size := Nat.lt_of_lt_of_le znX1 (hw1).size
    have nw1_0 := ((hw1).cell (p := ⟨w.heap.size + 1, 0, none⟩) znX1).trans nX1_0
    have Iw1 := Lib.hid ((IX1.out.below (hw1)).mono (hw1).size)
    clear BX1 mX1 xX1_0 xX1_1 xX1_2 zxX1 nX1_0 znX1 IX1
    clear hw1
    clear N1
    clear znw1 nw1_0
    obtain ⟨b, off, rfl, hbb, hcc⟩ := Iw1.out (by omega)
    obtain ⟨c, hcj⟩ : ∃ c, x.cs[n]? = some c := ⟨_, List.getElem?_eq_getElem (by omega)⟩
    obtain ⟨LA, cap', hA, hL⟩ := hcc n c hcj
    have Lw1 := Lib.hid hL
    have HJ := Lib.hid hcj
    clear hcc hcj hL
    obtain ⟨a0, a1, a2, a3, a4, a5, a6, a7, a8, a9, a10, a11, a12⟩ := hA
    have y1 : w.heap.size < w1.heap.size + 1 := by omega
    have y2 : w.heap.size < w1.heap.size + 1 + 1 := by omega
    go_wp2_with fail
    obtain ⟨W4, hW4⟩ : ∃ W4, W4 = ((w1.alloc (.cells #[.int .i64 c.ad, .int .i64 c.p.x, .int .i64 c.p.y, .int .i64 c.p.z, .int .i64 c.v.x, .int .i64 c.v.y, .int .i64 c.v.z, .int .i64 c.pu, .slice LA c.lg.length cap', .int .u8 c.mo, .int .i64 c.de, .int .i64 c.pp, .int .i64 c.mi] 63)).alloc (.cells #[.int .i64 c.p.z, .int .i64 c.v.z] 42)).alloc (.cells #[.int .i64 c.p.z, .int .i64 c.v.z] 42) := ⟨_, rfl⟩
    have s4 : W4.heap.size = w1.heap.size + 1 + 1 + 1 := by rw [hW4]; simp
    have B4 : Hid (Below w1.heap.size w1 W4) := Lib.hid (by rw [hW4]; exact (((Below.refl _ _).alloc (Nat.le_refl _) _).alloc (by simp) _).alloc (by simp; omega) _)
    have c4_0 : W4.cell? ⟨w1.heap.size, 0, none⟩ = some (.int .i64 c.ad) := by rw [hW4]; go_simp
    have c4_1 : W4.cell? ⟨w1.heap.size, 1, none⟩ = some (.int .i64 c.p.x) := by rw [hW4]; go_simp
    have c4_2 : W4.cell? ⟨w1.heap.size, 2, none⟩ = some (.int .i64 c.p.y) := by rw [hW4]; go_simp
    have c4_3 : W4.cell? ⟨w1.heap.size, 3, none⟩ = some (.int .i64 c.p.z) := by rw [hW4]; go_simp
    have c4_4 : W4.cell? ⟨w1.heap.size, 4, none⟩ = some (.int .i64 c.v.x) := by rw [hW4]; go_simp
    have c4_5 : W4.cell? ⟨w1.heap.size, 5, none⟩ = some (.int .i64 c.v.y) := by rw [hW4]; go_simp
    have c4_6 : W4.cell? ⟨w1.heap.size, 6, none⟩ = some (.int .i64 c.v.z) := by rw [hW4]; go_simp
    have c4_7 : W4.cell? ⟨w1.heap.size, 7, none⟩ = some (.int .i64 c.pu) := by rw [hW4]; go_simp
    have c4_8 : W4.cell? ⟨w1.heap.size, 8, none⟩ = some (.slice LA c.lg.length cap') := by rw [hW4]; go_simp
    have c4_9 : W4.cell? ⟨w1.heap.size, 9, none⟩ = some (.int .u8 c.mo) := by rw [hW4]; go_simp
    have c4_10 : W4.cell? ⟨w1.heap.size, 10, none⟩ = some (.int .i64 c.de) := by rw [hW4]; go_simp
    have c4_11 : W4.cell? ⟨w1.heap.size, 11, none⟩ = some (.int .i64 c.pp) := by rw [hW4]; go_simp
    have c4_12 : W4.cell? ⟨w1.heap.size, 12, none⟩ = some (.int .i64 c.mi) := by rw [hW4]; go_simp
    have p4_0 : W4.cell? ⟨w1.heap.size + 1, 0, none⟩ = some (.int .i64 c.p.z) := by rw [hW4]; go_simp
    have p4_1 : W4.cell? ⟨w1.heap.size + 1, 1, none⟩ = some (.int .i64 c.v.z) := by rw [hW4]; go_simp
    have f4 : ∀ i, W4.frozen? ⟨w1.heap.size + 1, i, none⟩ = false := by intro i; rw [hW4]; go_simp
    have o4 : W4.heap[w1.heap.size + 1 + 1]? = some (.cells ((flat (pathL c 0)).map (Value.int .i64)).toArray 42 (0, 0)) := by rw [hW4]; exact heap_alloc_at _ _ _ (by simp)
    rw [← hW4]
    clear hW4
    have G : Hid (Good c x.cy) := Lib.hid (good_of OK.out.1.1 OK.out.1.2 (cr_ok HJ.out OK.out.2.2.2.2).2)
    have hcy : x.cy.toNat = x.cy := by have := OK.out.1; omega
    obtain ⟨N, hN⟩ : ∃ N : Nat, x.cy = N := ⟨x.cy.toNat, hcy.symm⟩
    have N1 : N ≤ 120 := by have := OK.out.1; omega
    have HP : Hid (pathR x n = (pathL c N, 0)) := Lib.hid (by unfold pathR; rw [if_neg (by rw [HX.out]; decide), crAt_n HJ.out, hN]; rfl)
    have HCY := Lib.hid hN
    rw [hN]
    clear a0 a1 a2 a3 a4 a5 a6 a7 a8 a9 a10 a11 a12 hbb y1 y2 hcy hN
    go_loopw [9, 37] (fun r y wr => ∃ m : Nat, m ≤ N ∧ y = .int .i64 m ∧ Acc .i64 wr (w1.heap.size + 1 + 1) 42 2 r (m + 1) (flat (pathL c m)) ∧ wr.cell? ⟨w1.heap.size + 1, 0, none⟩ = some (.int .i64 (flyN c m).1) ∧ wr.cell? ⟨w1.heap.size + 1, 1, none⟩ = some (.int .i64 (flyN c m).2) ∧ (∀ i, wr.frozen? ⟨w1.heap.size + 1, i, none⟩ = false) ∧ Below (w1.heap.size + 1) W4 wr ∧ w1.heap.size + 1 + 1 + 1 ≤ wr.heap.size) (fun _ y _ => N - (intOf y).toNat)
    case atStart => exact ⟨0, Nat.zero_le _, rfl, Acc.fresh o4 (Nat.le_refl _) rfl, p4_0, p4_1, f4, Below.refl _ _, by omega⟩
    case round =>
      obtain ⟨m, hm, rfl, hacc, p0, p1, fr, hb, hsz⟩ := hrel
      have HA := Lib.hid hacc
      have HB := Lib.hid hb
      clear hacc hb
      have HW : Hid (Below w1.heap.size w1 wr) := Lib.hid (B4.out.trans (HB.out.mono (by omega)))
      by_cases hlt : m < N
      · have r0 := (HB.out.cell (p := ⟨w1.heap.size, 0, none⟩) (by show w1.heap.size < _; omega)).trans c4_0
        have r1 := (HB.out.cell (p := ⟨w1.heap.size, 1, none⟩) (by show w1.heap.size < _; omega)).trans c4_1
        have r2 := (HB.out.cell (p := ⟨w1.heap.size, 2, none⟩) (by show w1.heap.size < _; omega)).trans c4_2
        have r3 := (HB.out.cell (p := ⟨w1.heap.size, 3, none⟩) (by show w1.heap.size < _; omega)).trans c4_3
        have r4 := (HB.out.cell (p := ⟨w1.heap.size, 4, none⟩) (by show w1.heap.size < _; omega)).trans c4_4
        have r5 := (HB.out.cell (p := ⟨w1.heap.size, 5, none⟩) (by show w1.heap.size < _; omega)).trans c4_5
        have r6 := (HB.out.cell (p := ⟨w1.heap.size, 6, none⟩) (by show w1.heap.size < _; omega)).trans c4_6
        have r7 := (HB.out.cell (p := ⟨w1.heap.size, 7, none⟩) (by show w1.heap.size < _; omega)).trans c4_7
        have r8 := (HB.out.cell (p := ⟨w1.heap.size, 8, none⟩) (by show w1.heap.size < _; omega)).trans c4_8
        have r9 := (HB.out.cell (p := ⟨w1.heap.size, 9, none⟩) (by show w1.heap.size < _; omega)).trans c4_9
        have r10 := (HB.out.cell (p := ⟨w1.heap.size, 10, none⟩) (by show w1.heap.size < _; omega)).trans c4_10
        have r11 := (HB.out.cell (p := ⟨w1.heap.size, 11, none⟩) (by show w1.heap.size < _; omega)).trans c4_11
        have r12 := (HB.out.cell (p := ⟨w1.heap.size, 12, none⟩) (by show w1.heap.size < _; omega)).trans c4_12
        have Lr := Lib.hid (Lw1.out.below HW.out)
        have hlI : (m : Int) < (N : Int) := by omega
        clear c4_0 c4_1 c4_2 c4_3 c4_4 c4_5 c4_6 c4_7 c4_8 c4_9 c4_10 c4_11 c4_12 p4_0 p4_1 f4 o4
        go_wp2_with fail
        refine (aim80 c LA cap' m w1.heap.size wr Lr.out (by omega) G.out.len).mono ?_
        rintro e w5 ⟨rfl, hb5⟩
        have k7 := (hb5.cell (p := ⟨w1.heap.size, 7, none⟩) (by show w1.heap.size < _; omega)).trans r7
        have k0 := (hb5.cell (p := ⟨w1.heap.size + 1, 0, none⟩) (by show w1.heap.size + 1 < _; omega)).trans p0
        have k1 := (hb5.cell (p := ⟨w1.heap.size + 1, 1, none⟩) (by show w1.heap.size + 1 < _; omega)).trans p1
        have kf : ∀ i, w5.frozen? ⟨w1.heap.size + 1, i, none⟩ = false := fun i => (hb5.frozen (p := ⟨w1.heap.size + 1, i, none⟩) (by show w1.heap.size + 1 < _; omega)).trans (fr i)
        have s5 := hb5.size
        clear r0 r1 r2 r3 r4 r5 r6 r7 r8 r9 r10 r11 r12 p0 p1 fr
        go_wp2_with fail
        have T := fly81 (flyN c m).1 (flyN c m).2 (aimE c m) (aimE c m) c.pu w5
        rw [flyAll_ok G.out m] at T
        refine T.mono ?_
        rintro e w6 ⟨rfl, hb6⟩
        clear T
        have s6 := hb6.size
        obtain ⟨Z, hZ⟩ : ∃ Z, Z = (flyN c (m + 1)).1 := ⟨_, rfl⟩
        obtain ⟨V, hV⟩ : ∃ V, V = (flyN c (m + 1)).2 := ⟨_, rfl⟩
        rw [← hZ, ← hV]
        have l0 : ∀ o, (w6.alloc o).cell? ⟨w1.heap.size + 1, 0, none⟩ = some (.int .i64 (flyN c m).1) := fun o => (World.cell?_alloc_lt _ _ _ (by show w1.heap.size + 1 < _; omega)).trans ((hb6.cell (p := ⟨w1.heap.size + 1, 0, none⟩) (by show w1.heap.size + 1 < _; omega)).trans k0)
        have l1 : ∀ o, (w6.alloc o).cell? ⟨w1.heap.size + 1, 1, none⟩ = some (.int .i64 (flyN c m).2) := fun o => (World.cell?_alloc_lt _ _ _ (by show w1.heap.size + 1 < _; omega)).trans ((hb6.cell (p := ⟨w1.heap.size + 1, 1, none⟩) (by show w1.heap.size + 1 < _; omega)).trans k1)
        have lf : ∀ o i, (w6.alloc o).frozen? ⟨w1.heap.size + 1, i, none⟩ = false := fun o i => (World.frozen?_alloc_past _ _ _ (by show w1.heap.size + 1 < _; omega)).trans ((hb6.frozen (p := ⟨w1.heap.size + 1, i, none⟩) (by show w1.heap.size + 1 < _; omega)).trans (kf i))
        have HZV : Hid (flyN c (m + 1) = (Z, V)) := Lib.hid (by rw [hZ, hV])
        clear hZ hV k0 k1 kf k7
        have HA6 := (HA.out.below hb5).below hb6
        have AC := Lib.hid (((HA6.alloc (.cells #[.int .i64 Z, .int .i64 V] 42)).setCell (p := ⟨w1.heap.size + 1, 0, none⟩) (by show w1.heap.size + 1 < _; omega) (.int .i64 Z)).setCell (p := ⟨w1.heap.size + 1, 1, none⟩) (by show w1.heap.size + 1 < _; omega) (.int .i64 V))
        have B6 : Hid (Below (w1.heap.size + 1) W4 w6) := Lib.hid ((HB.out.trans (hb5.mono (by omega))).trans (hb6.mono (by omega)))
        go_wp2_with (at_builtin; refine wpList_appH rfl _ _ 37 rfl .i64 (w1.heap.size + 1 + 1) 42 i0 _ 2 16 Tryz.underlying37 hi0 hz0 hz1 hz2 rfl (by decide) _ _ _ [Z, V] rfl AC.out _ rfl (w6.heap.size + 1) rfl (by simp) rfl (by omega) (by decide) (by simp; omega) ?_; intro v' w7 acc7 hb7)
        refine ⟨⟨m + 1, by omega, by go_num, ?_, ?_, ?_, ?_, ?_, ?_⟩, by simp [intOf]; omega⟩
        · rw [pathL_succ, flat_app, HZV.out]; exact acc7
        · rw [HZV.out]; exact (hb7.cell (p := ⟨w1.heap.size + 1, 0, none⟩) (by show w1.heap.size + 1 < _; omega)).trans (set2 _ _ _ _ _ _ (l0 _) (l1 _)).1
        · rw [HZV.out]; exact (hb7.cell (p := ⟨w1.heap.size + 1, 1, none⟩) (by show w1.heap.size + 1 < _; omega)).trans (set2 _ _ _ _ _ _ (l0 _) (l1 _)).2
        · intro i; rw [hb7.frozen (p := ⟨w1.heap.size + 1, i, none⟩) (by show w1.heap.size + 1 < _; omega)]; simp [lf]
        · exact (((B6.out.alloc (by omega) _).setCell (p := ⟨w1.heap.size + 1, 0, none⟩) (Nat.le_refl _) _).setCell (p := ⟨w1.heap.size + 1, 1, none⟩) (Nat.le_refl _) _).trans (hb7.mono (by omega))
        · have := hb7.size; simp at this; omega
      · obtain rfl : m = N := by omega
        obtain ⟨PA, pc, rfl, hcp, hown⟩ := HA.out.ownc
        have HO := Lib.hid hown
        clear hown
        have hlI : ¬ (m : Int) < (m : Int) := by omega
        go_wp2_with fail
        go_ret2
        rw [HP.out]
        refine ⟨PA, pc, by simp [pathL_len], by simpa [pathL_len] using hcp, fun hn => ?_, Bw1.out.trans (HW.out.mono mw1)⟩
        obtain ⟨g, cs, e1, e2, e3⟩ := HO.out hn
        exact ⟨g, cs, e1, by omega, e3⟩
  · have hq : (numE x [i] != 0) = true := by simp [hx]
    have HZ : Hid (pathR x i = ([], numE x [i])) := Lib.hid (by unfold pathR; rw [if_pos hx])
    clear hx
    go_enter Tryz.func22, Tryz.ntmps22
    go_wp2_with fail
    obtain ⟨X1, hX1⟩ : ∃ X1, X1 = (w.alloc (.cells #[.int .i64 x.cy, .int .i64 x.gr, .slice A x.cs.length cap] 24)).alloc (.cells #[.int .i64 i] 3) := ⟨_, rfl⟩
    have BX1 : Hid (Below w.heap.size w X1) := Lib.hid (by rw [hX1]; exact ((Below.refl _ _).alloc (Nat.le_refl _) _).alloc (by simp) _)
    have zxX1 : w.heap.size < X1.heap.size := by rw [hX1]; simp <;> omega
    have xX1_0 : X1.cell? ⟨w.heap.size, 0, none⟩ = some (.int .i64 x.cy) := by rw [hX1]; go_simp
    have xX1_1 : X1.cell? ⟨w.heap.size, 1, none⟩ = some (.int .i64 x.gr) := by rw [hX1]; go_simp
    have xX1_2 : X1.cell? ⟨w.heap.size, 2, none⟩ = some (.slice A x.cs.length cap) := by rw [hX1]; go_simp
    have znX1 : w.heap.size + 1 < X1.heap.size := by rw [hX1]; simp <;> omega
    have nX1_0 : X1.cell? ⟨w.heap.size + 1, 0, none⟩ = some (.int .i64 i) := by rw [hX1]; go_simp
    have mX1 : w.heap.size ≤ X1.heap.size := by rw [hX1]; simp <;> omega
    rw [← hX1]
    clear hX1
    have IX1 := Lib.hid ((hc.below BX1.out).mono mX1)
    clear hc
    have N1 := is1 nX1_0 znX1
    refine (num1 x A cap _ 1 i X1 IX1.out hcap N1).mono ?_
    rintro e w1 ⟨rfl, hw1⟩
    have Bw1 : Hid (Below w.heap.size w w1) := Lib.hid (BX1.out.trans ((hw1).mono mX1))
    have mw1 : w.heap.size ≤ w1.heap.size := Nat.le_trans mX1 (hw1).size
    have zxw1 : w.heap.size < w1.heap.size := Nat.lt_of_lt_of_le zxX1 (hw1).size
    have xw1_0 := ((hw1).cell (p := ⟨w.heap.size, 0, none⟩) zxX1).trans xX1_0
    have xw1_1 := ((hw1).cell (p := ⟨w.heap.size, 1, none⟩) zxX1).trans xX1_1
    have xw1_2 := ((hw1).cell (p := ⟨w.heap.size, 2, none⟩) zxX1).trans xX1_2
    have znw1 : w.heap.size + 1 < w1.heap.size := Nat.lt_of_lt_of_le znX1 (hw1).size
    have nw1_0 := ((hw1).cell (p := ⟨w.heap.size + 1, 0, none⟩) znX1).trans nX1_0
    have Iw1 := Lib.hid ((IX1.out.below (hw1)).mono (hw1).size)
    clear BX1 mX1 xX1_0 xX1_1 xX1_2 zxX1 nX1_0 znX1 IX1
    clear hw1
    clear N1
    clear znw1 nw1_0
    go_wp2_with fail
    go_ret2
    rw [HZ.out]
    exact ⟨none, 0, rfl, Nat.le_refl _, fun h => by simp [flat] at h, Bw1.out⟩
theorem path22 (x : En) (A : Option Addr) (cap : Nat) (i : Int) (w : World) (hc : InCr w w.heap.size A x.cs) (hcap : x.cs.length ≤ cap) : Calls Tryz.prog 22 #[.agg #[.int .i64 x.cy, .int .i64 x.gr, .slice A x.cs.length cap], .int .i64 i] w fun e w' => ∃ PA pcap, e = .returned (.tuple #[.slice PA (pathR x i).1.length pcap, .int .i64 (pathR x i).2]) ∧ Own .i64 w' w.heap.size PA 42 (flat (pathR x i).1) ∧ Below w.heap.size w w' :=
  (path22c x A cap i w hc hcap).mono fun _ _ ⟨PA, pcap, h1, _, h2⟩ => ⟨PA, pcap, h1, h2⟩
end Go.Proofs.YtnnnpliigdfipaaGreatDoor
