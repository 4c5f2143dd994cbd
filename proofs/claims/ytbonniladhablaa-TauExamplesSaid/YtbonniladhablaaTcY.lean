/- The walk of TauClasses. -/
import Derived.Test.YtbonniladhablaaRows
import Derived.WalkKit
import Derived.WalkLawsBesides
import Derived.WalkSpells
import Derived.ProofKit
import Derived.Below
import Derived.Outline
import Derived.Lib.Hide
import Derived.Deep.RegionWith
import Derived.Deep.RegionHeld3
import Derived.Deep.DrawnRows
import Derived.StillTailTactics
import Derived.BigQuiet
import Derived.Deep.QuietTactic
import Derived.Deep.LoopGhost
import Derived.IntWalk
import Derived.Test.YtbonniladhablaaTcX
namespace Go.Proofs.Ytbonniladhablaa
open Go.RowKit
attribute [local go_sem ↓] Go.wp_at_zero Go.wp_at_succ
attribute [local go_sem] wrap_lit

structure LwS (w : World) (p : Nat) (F A B' : Option Addr) (cf na ca nb cb : Nat) (fl xa xb : List Int) (far tall R V N a r k ag : Int) (W : World) : Prop where
  cs : ClS w p F A B' cf na ca nb cb fl xa xb far tall R V N a r W
  h0 : W.cell? ⟨p + 1 + 1, 0, none⟩ = some (.int .u8 k)
  h1 : W.cell? ⟨p + 1 + 1, 1, none⟩ = some (.int .i64 ag)
  lt2 : p + 1 + 1 < W.heap.size
theorem LwS.on {w : World} {p : Nat} {F A B' : Option Addr} {cf na ca nb cb : Nat} {fl xa xb : List Int} {far tall R V N a r k ag : Int} {W W1 : World} (h : LwS w p F A B' cf na ca nb cb fl xa xb far tall R V N a r k ag W) (hb : Below W.heap.size W W1) : LwS w p F A B' cf na ca nb cb fl xa xb far tall R V N a r k ag W1 where
  cs := h.cs.on hb
  h0 := (hb.cell (p := ⟨p + 1 + 1, 0, none⟩) h.lt2).trans h.h0
  h1 := (hb.cell (p := ⟨p + 1 + 1, 1, none⟩) h.lt2).trans h.h1
  lt2 := Nat.lt_of_lt_of_le h.lt2 hb.size
theorem LwS.made (F A B' : Option Addr) (cf na ca nb cb : Nat) (fl xa xb : List Int) (far tall : Int) (B : Nat) (w : World) (hB : B ≤ w.heap.size) (hF : Is .i64 w B F fl) (hA : Is .i64 w B A xa) (hB' : Is .i64 w B B' xb) (R V N a r k ag : Int) (T T' T'' : TypeId) : LwS w w.heap.size F A B' cf na ca nb cb fl xa xb far tall R V N a r k ag (((w.alloc (.cells #[.slice F fl.length cf, .slice A na ca, .slice B' nb cb, .int .i64 far, .int .i64 tall] T)).alloc (.cells #[.int .i64 R, .int .i64 V, .int .i64 N, .int .i64 a, .int .i64 r] T')).alloc (.cells #[.int .u8 k, .int .i64 ag] T'')) where
  cs := (ClS.made F A B' cf na ca nb cb fl xa xb far tall B w hB hF hA hB' R V N a r T T').on ((Below.refl _ _).alloc (Nat.le_refl _) _)
  h0 := World.cell?_alloc_at _ _ _ _ (by simp)
  h1 := World.cell?_alloc_at _ _ _ _ (by simp)
  lt2 := by simp; try omega
theorem TbS.at {w w2 : World} {p q : Nat} {F A B' : Option Addr} {cf na ca nb cb : Nat} {fl xa xb : List Int} {far tall : Int} {W : World} (h : TbS w p F A B' cf na ca nb cb fl xa xb far tall W) (e : p = q) (hb : Below w2.heap.size w2 w) : TbS w2 q F A B' cf na ca nb cb fl xa xb far tall W := by
  subst e
  exact ⟨h.c0, h.c1, h.c2, h.c3, h.c4, h.f, h.a, h.b, hb.trans (h.bw.mono hb.size), h.lt⟩
structure OvS (w w2 : World) (p q : Nat) (A1 A2 A3 F A B' : Option Addr) (k1 k2 k3 cf na ca nb cb : Nat) (fl xa xb : List Int) (far tall R V N a r k ag : Int) (W : World) : Prop where
  ls : LwS w p F A B' cf na ca nb cb fl xa xb far tall R V N a r k ag W
  t1 : TbS w2 q A1 A2 A3 k1 na k2 nb k3 fl xa xb far tall W
  t2 : TbS w2 (q + 1) F A B' cf na ca nb cb fl xa xb far tall W
theorem OvS.on {w w2 : World} {p q : Nat} {A1 A2 A3 F A B' : Option Addr} {k1 k2 k3 cf na ca nb cb : Nat} {fl xa xb : List Int} {far tall R V N a r k ag : Int} {W W1 : World} (h : OvS w w2 p q A1 A2 A3 F A B' k1 k2 k3 cf na ca nb cb fl xa xb far tall R V N a r k ag W) (hb : Below W.heap.size W W1) : OvS w w2 p q A1 A2 A3 F A B' k1 k2 k3 cf na ca nb cb fl xa xb far tall R V N a r k ag W1 where
  ls := h.ls.on hb
  t1 := h.t1.on hb
  t2 := h.t2.on hb
structure EvS (w w2 : World) (p q g g2 : Nat) (A1 A2 A3 F A B' : Option Addr) (k1 k2 k3 cf na ca nb cb : Nat) (fl xa xb : List Int) (far tall R V N a r k ag h1 h2 : Int) (W : World) : Prop where
  o : OvS w w2 p q A1 A2 A3 F A B' k1 k2 k3 cf na ca nb cb fl xa xb far tall R V N a r k ag W
  x0 : W.cell? ⟨g, 0, none⟩ = some (.int .u8 h1)
  x1 : W.cell? ⟨g, 1, none⟩ = some (.int .i64 h2)
  y0 : W.cell? ⟨g2, 0, none⟩ = some (.int .u8 h1)
  y1 : W.cell? ⟨g2, 1, none⟩ = some (.int .i64 h2)
  lg : g < W.heap.size
  lg2 : g2 < W.heap.size
theorem EvS.on {w w2 : World} {p q g g2 : Nat} {A1 A2 A3 F A B' : Option Addr} {k1 k2 k3 cf na ca nb cb : Nat} {fl xa xb : List Int} {far tall R V N a r k ag h1 h2 : Int} {W W1 : World} (h : EvS w w2 p q g g2 A1 A2 A3 F A B' k1 k2 k3 cf na ca nb cb fl xa xb far tall R V N a r k ag h1 h2 W) (hb : Below W.heap.size W W1) : EvS w w2 p q g g2 A1 A2 A3 F A B' k1 k2 k3 cf na ca nb cb fl xa xb far tall R V N a r k ag h1 h2 W1 where
  o := h.o.on hb
  x0 := (hb.cell (p := ⟨g, 0, none⟩) h.lg).trans h.x0
  x1 := (hb.cell (p := ⟨g, 1, none⟩) h.lg).trans h.x1
  y0 := (hb.cell (p := ⟨g2, 0, none⟩) h.lg2).trans h.y0
  y1 := (hb.cell (p := ⟨g2, 1, none⟩) h.lg2).trans h.y1
  lg := Nat.lt_of_lt_of_le h.lg hb.size
  lg2 := Nat.lt_of_lt_of_le h.lg2 hb.size
set_option maxRecDepth 100000 in
set_option maxHeartbeats 4000000 in
theorem classesL (F A B' : Option Addr) (cf na ca nb cb : Nat) (fl xa xb : List Int) (far tall : Int) (own R V N a r k ag now hold : Int) (B : Nat) (w : World) (hB : B ≤ w.heap.size) (hF : Is .i64 w B F fl) (hA : Is .i64 w B A xa) (hB' : Is .i64 w B B' xb) (hlong : (decide (30 < fl.length) || (decide (30 < na) || decide (30 < nb))) = true) :
    Calls Try.prog 7 #[.agg #[.slice F fl.length cf, .slice A na ca, .slice B' nb cb, .int .i64 far, .int .i64 tall], .int .i64 own, .agg #[.int .i64 R, .int .i64 V, .int .i64 N, .int .i64 a, .int .i64 r], .agg #[.int .u8 k, .int .i64 ag], .int .u8 now, .int .i64 hold] w fun e w' => e = .returned (.bool true) ∧ Below w.heap.size w w' := by
  have HS := Lib.hid (LwS.made F A B' cf na ca nb cb fl xa xb far tall B w hB hF hA hB' R V N a r k ag 50 25 41)
  have C := fun W => long19 F A B' cf na ca nb cb fl far tall W true hlong.symm
  replace C := Lib.hid C
  clear hF hA hB' hlong
  go_enter Try.func7, Try.ntmps7
  go_wp2_with fail
  obtain ⟨X, hX⟩ : ∃ X, X = ((w.alloc (.cells #[.slice F fl.length cf, .slice A na ca, .slice B' nb cb, .int .i64 far, .int .i64 tall] 50)).alloc (.cells #[.int .i64 R, .int .i64 V, .int .i64 N, .int .i64 a, .int .i64 r] 25)).alloc (.cells #[.int .u8 k, .int .i64 ag] 41) := ⟨_, rfl⟩
  rw [← hX] at HS ⊢
  obtain ⟨p, hp⟩ : ∃ p, p = w.heap.size := ⟨_, rfl⟩
  rw [← hp] at HS ⊢
  refine (C.out _).mono ?_
  rintro e w1 ⟨rfl, hb1⟩
  replace HS := Lib.hid (HS.out.on hb1)
  go_wp2_with fail
  refine (awake15 _).mono ?_
  rintro e w2 ⟨rfl, hb2⟩
  replace HS := Lib.hid (HS.out.on hb2)
  go_wp2_with fail
  go_ret
  exact ⟨rfl, HS.out.cs.tb.bw⟩
set_option maxRecDepth 100000 in
set_option maxHeartbeats 8000000 in
theorem classesS (F A B' : Option Addr) (cf na ca nb cb : Nat) (fl xa xb : List Int) (far tall : Int) (own R V N a r k ag now hold : Int) (B : Nat) (w : World) (hB : B ≤ w.heap.size) (hF : Is .i64 w B F fl) (hA : Is .i64 w B A xa) (hB' : Is .i64 w B B' xb) (hna : xa.length = na * 4) (hnb : xb.length = nb * 4) (hlf : fl.length ≤ 1000) (hla : na ≤ 1000) (hlb : nb ≤ 1000) (zA : A = none → ca = 0) (zB : B' = none → cb = 0) (hlong : (decide (30 < fl.length) || (decide (30 < na) || decide (30 < nb))) = false) :
    Calls Try.prog 7 #[.agg #[.slice F fl.length cf, .slice A na ca, .slice B' nb cb, .int .i64 far, .int .i64 tall], .int .i64 own, .agg #[.int .i64 R, .int .i64 V, .int .i64 N, .int .i64 a, .int .i64 r], .agg #[.int .u8 k, .int .i64 ag], .int .u8 now, .int .i64 hold] w fun e w' => e = .returned (.bool true) ∧ Below w.heap.size w w' := by
  have HS := Lib.hid (LwS.made F A B' cf na ca nb cb fl xa xb far tall B w hB hF hA hB' R V N a r k ag 50 25 41)
  have C := fun W => long19 F A B' cf na ca nb cb fl far tall W false hlong.symm
  replace C := Lib.hid C
  clear hF hA hB' hlong
  have HN := Lib.hid (And.intro hna (And.intro hnb (And.intro hlf (And.intro hla (And.intro hlb (And.intro zA zB))))))
  clear hna hnb hlf hla hlb zA zB
  go_enter Try.func7, Try.ntmps7
  go_wp2_with fail
  obtain ⟨X, hX⟩ : ∃ X, X = ((w.alloc (.cells #[.slice F fl.length cf, .slice A na ca, .slice B' nb cb, .int .i64 far, .int .i64 tall] 50)).alloc (.cells #[.int .i64 R, .int .i64 V, .int .i64 N, .int .i64 a, .int .i64 r] 25)).alloc (.cells #[.int .u8 k, .int .i64 ag] 41) := ⟨_, rfl⟩
  rw [← hX] at HS ⊢
  obtain ⟨p, hp⟩ : ∃ p, p = w.heap.size := ⟨_, rfl⟩
  rw [← hp] at HS ⊢
  clear hX hp
  refine (C.out _).mono ?_
  rintro e w1 ⟨rfl, hb1⟩
  replace HS := Lib.hid (HS.out.on hb1)
  clear hb1 C
  have s0 := HS.out.cs.tb.c0
  have s1 := HS.out.cs.tb.c1
  have s2 := HS.out.cs.tb.c2
  have s3 := HS.out.cs.tb.c3
  have s4 := HS.out.cs.tb.c4
  go_wp2_with fail
  refine (own20 F A B' cf na ca nb cb fl xa xb far tall w1 HS.out.cs.tb.f HS.out.cs.tb.a HS.out.cs.tb.b HN.out.1 HN.out.2.1 HN.out.2.2.1 HN.out.2.2.2.1 HN.out.2.2.2.2.1 HN.out.2.2.2.2.2.1 HN.out.2.2.2.2.2.2).mono ?_
  rintro e w2 ⟨v1, v2, v3, rfl, o1, o2, o3, hb2⟩
  obtain ⟨A1, k1, rfl, O1⟩ := o1.own
  obtain ⟨A2, k2, rfl, O2⟩ := o2.own
  obtain ⟨A3, k3, rfl, O3⟩ := o3.own
  replace HS := Lib.hid (HS.out.on hb2)
  have i1 := O1.is
  have i2 := O2.is
  have i3 := O3.is
  have s0 := HS.out.cs.tb.c0
  have s1 := HS.out.cs.tb.c1
  have s2 := HS.out.cs.tb.c2
  have s3 := HS.out.cs.tb.c3
  have s4 := HS.out.cs.tb.c4
  have zp : p < w2.heap.size := HS.out.cs.tb.lt
  clear hb2 O1 O2 O3 o1 o2 o3
  have H1 := TbS.made A1 A2 A3 k1 na k2 nb k3 fl xa xb far tall w2.heap.size w2 (Nat.le_refl _) i1 i2 i3 50
  have bA : Below w2.heap.size w2 (w2.alloc (.cells #[.slice A1 fl.length k1, .slice A2 na k2, .slice A3 nb k3, .int .i64 far, .int .i64 tall] 50)) := (Below.refl _ _).alloc (Nat.le_refl _) _
  have H2 := TbS.made F A B' cf na ca nb cb fl xa xb far tall (w2.alloc (.cells #[.slice A1 fl.length k1, .slice A2 na k2, .slice A3 nb k3, .int .i64 far, .int .i64 tall] 50)).heap.size (w2.alloc (.cells #[.slice A1 fl.length k1, .slice A2 na k2, .slice A3 nb k3, .int .i64 far, .int .i64 tall] 50)) (Nat.le_refl _) (HS.out.cs.tb.on bA).f (HS.out.cs.tb.on bA).a (HS.out.cs.tb.on bA).b 53
  replace H2 := H2.at (q := w2.heap.size + 1) (by simp) bA
  have bB : Below (w2.alloc (.cells #[.slice A1 fl.length k1, .slice A2 na k2, .slice A3 nb k3, .int .i64 far, .int .i64 tall] 50)).heap.size (w2.alloc (.cells #[.slice A1 fl.length k1, .slice A2 na k2, .slice A3 nb k3, .int .i64 far, .int .i64 tall] 50)) ((w2.alloc (.cells #[.slice A1 fl.length k1, .slice A2 na k2, .slice A3 nb k3, .int .i64 far, .int .i64 tall] 50)).alloc (.cells #[.slice F fl.length cf, .slice A na ca, .slice B' nb cb, .int .i64 far, .int .i64 tall] 53)) := (Below.refl _ _).alloc (Nat.le_refl _) _
  replace H1 := H1.on bB
  have HS' := Lib.hid (HS.out.on (bA.trans (bB.mono bA.size)))
  clear HS bA bB
  go_wp2_with fail
  obtain ⟨Y, hY⟩ : ∃ Y, Y = (w2.alloc (.cells #[.slice A1 fl.length k1, .slice A2 na k2, .slice A3 nb k3, .int .i64 far, .int .i64 tall] 50)).alloc (.cells #[.slice F fl.length cf, .slice A na ca, .slice B' nb cb, .int .i64 far, .int .i64 tall] 53) := ⟨_, rfl⟩
  rw [← hY] at HS' H1 H2 ⊢
  obtain ⟨q, hq⟩ : ∃ q, q = w2.heap.size := ⟨_, rfl⟩
  rw [← hq] at H1 H2 ⊢
  clear hY hq s0 s1 s2 s3 s4 zp i1 i2 i3
  have HO := Lib.hid (OvS.mk HS'.out H1 H2)
  clear HS' H1 H2
  obtain ⟨iv, hiv⟩ : ∃ x, x = ixV fl na xa nb xb far tall own := ⟨_, rfl⟩
  obtain ⟨ie, hie⟩ : ∃ x, x = ixE fl na xa nb xb far tall own := ⟨_, rfl⟩
  obtain ⟨cv, hcv⟩ : ∃ x, x = clV fl na xa nb xb far tall own R V N a r := ⟨_, rfl⟩
  obtain ⟨ce, hce⟩ : ∃ x, x = clE fl na xa nb xb far tall own R V N a r := ⟨_, rfl⟩
  obtain ⟨ck, hck⟩ : ∃ x, x = ckTb fl na xa nb xb far tall := ⟨_, rfl⟩
  replace hiv := Lib.hid hiv
  replace hie := Lib.hid hie
  replace hcv := Lib.hid hcv
  replace hce := Lib.hid hce
  replace hck := Lib.hid hck
  obtain ⟨h1, h2, h3, hH⟩ : ∃ x y z, hdR k ag now hold = (x, y, z) := ⟨_, _, _, rfl⟩
  have K21 := index21 A1 A2 A3 k1 na k2 nb k3 fl xa xb far tall own Y.heap.size Y (Nat.le_refl _) HO.out.t1.f HO.out.t1.a HO.out.t1.b HN.out.1 HN.out.2.1 HN.out.2.2.1 HN.out.2.2.2.1 HN.out.2.2.2.2.1
  rw [← hiv.out, ← hie.out] at K21
  refine K21.mono ?_
  rintro e w3 ⟨rfl, hb3⟩
  replace HO := Lib.hid (HO.out.on hb3)
  clear hb3 K21
  have u0 := HO.out.t2.c0
  have u1 := HO.out.t2.c1
  have u2 := HO.out.t2.c2
  have u3 := HO.out.t2.c3
  have u4 := HO.out.t2.c4
  go_wp2_with fail
  have K22 := index22 F A B' cf na ca nb cb fl xa xb far tall own w3.heap.size w3 (Nat.le_refl _) HO.out.t2.f HO.out.t2.a HO.out.t2.b HN.out.1 HN.out.2.1 HN.out.2.2.1 HN.out.2.2.2.1 HN.out.2.2.2.2.1
  rw [← hiv.out, ← hie.out] at K22
  refine K22.mono ?_
  rintro e w4 ⟨rfl, hb4⟩
  replace HO := Lib.hid (HO.out.on hb4)
  clear hb4 K22 u0 u1 u2 u3 u4 hiv hie
  have u0 := HO.out.t1.c0
  have u1 := HO.out.t1.c1
  have u2 := HO.out.t1.c2
  have u3 := HO.out.t1.c3
  have u4 := HO.out.t1.c4
  have o0 := HO.out.ls.cs.o0
  have o1 := HO.out.ls.cs.o1
  have o2 := HO.out.ls.cs.o2
  have o3 := HO.out.ls.cs.o3
  have o4 := HO.out.ls.cs.o4
  go_wp2_with fail
  have K23 := classify23 A1 A2 A3 k1 na k2 nb k3 fl xa xb far tall own R V N a r w4.heap.size w4 (Nat.le_refl _) HO.out.t1.f HO.out.t1.a HO.out.t1.b HN.out.1 HN.out.2.1 HN.out.2.2.1 HN.out.2.2.2.1 HN.out.2.2.2.2.1
  rw [← hcv.out, ← hce.out] at K23
  refine K23.mono ?_
  rintro e w5 ⟨rfl, hb5⟩
  replace HO := Lib.hid (HO.out.on hb5)
  clear hb5 K23 u0 u1 u2 u3 u4 o0 o1 o2 o3 o4
  have u0 := HO.out.t2.c0
  have u1 := HO.out.t2.c1
  have u2 := HO.out.t2.c2
  have u3 := HO.out.t2.c3
  have u4 := HO.out.t2.c4
  have o0 := HO.out.ls.cs.o0
  have o1 := HO.out.ls.cs.o1
  have o2 := HO.out.ls.cs.o2
  have o3 := HO.out.ls.cs.o3
  have o4 := HO.out.ls.cs.o4
  go_wp2_with fail
  have K24 := classify24 F A B' cf na ca nb cb fl xa xb far tall own R V N a r w5.heap.size w5 (Nat.le_refl _) HO.out.t2.f HO.out.t2.a HO.out.t2.b HN.out.1 HN.out.2.1 HN.out.2.2.1 HN.out.2.2.2.1 HN.out.2.2.2.2.1
  rw [← hcv.out, ← hce.out] at K24
  refine K24.mono ?_
  rintro e w6 ⟨rfl, hb6⟩
  replace HO := Lib.hid (HO.out.on hb6)
  clear hb6 K24 u0 u1 u2 u3 u4 o0 o1 o2 o3 o4 hcv hce
  have g0 := HO.out.ls.h0
  have g1 := HO.out.ls.h1
  go_wp2_with fail
  refine (hold16' k ag now hold hH w6).mono ?_
  rintro e w7 ⟨rfl, hb7⟩
  replace HO := Lib.hid (HO.out.on hb7)
  clear hb7 g0 g1
  have bA : Below w7.heap.size w7 (w7.alloc (.cells #[.int .u8 h1, .int .i64 h2] 41)) := (Below.refl _ _).alloc (Nat.le_refl _) _
  have g0 := (HO.out.on bA).ls.h0
  have g1 := (HO.out.on bA).ls.h1
  go_wp2_with fail
  have K25 := hold25 k ag now hold (w7.alloc (.cells #[.int .u8 h1, .int .i64 h2] 41))
  rw [hH] at K25
  refine K25.mono ?_
  rintro e w8 ⟨rfl, hb8⟩
  have x0 : w8.cell? ⟨w7.heap.size, 0, none⟩ = some (.int .u8 h1) := (hb8.cell (p := ⟨w7.heap.size, 0, none⟩) (by simp)).trans (World.cell?_alloc_at _ _ _ _ (by simp))
  have x1 : w8.cell? ⟨w7.heap.size, 1, none⟩ = some (.int .i64 h2) := (hb8.cell (p := ⟨w7.heap.size, 1, none⟩) (by simp)).trans (World.cell?_alloc_at _ _ _ _ (by simp))
  have lg : w7.heap.size < w8.heap.size := by have := hb8.size; simp at this; omega
  replace HO := Lib.hid ((HO.out.on bA).on hb8)
  clear hb8 K25 bA g0 g1 hH
  obtain ⟨g, hg⟩ : ∃ g, g = w7.heap.size := ⟨_, rfl⟩
  rw [← hg] at x0 x1 lg ⊢
  clear hg
  have bC : Below w8.heap.size w8 (w8.alloc (.cells #[.int .u8 h1, .int .i64 h2] 61)) := (Below.refl _ _).alloc (Nat.le_refl _) _
  have HE : EvS w w2 p q g w8.heap.size A1 A2 A3 F A B' k1 k2 k3 cf na ca nb cb fl xa xb far tall R V N a r k ag h1 h2 (w8.alloc (.cells #[.int .u8 h1, .int .i64 h2] 61)) := ⟨HO.out.on bC, (bC.cell (p := ⟨g, 0, none⟩) lg).trans x0, (bC.cell (p := ⟨g, 1, none⟩) lg).trans x1, World.cell?_alloc_at _ _ _ _ (by simp), World.cell?_alloc_at _ _ _ _ (by simp), by simp; omega, by simp⟩
  clear HO bC x0 x1 lg
  go_wp2_with fail
  obtain ⟨V', hV'⟩ : ∃ V', V' = w8.alloc (.cells #[.int .u8 h1, .int .i64 h2] 61) := ⟨_, rfl⟩
  rw [← hV'] at HE ⊢
  obtain ⟨g2, hg2⟩ : ∃ g2, g2 = w8.heap.size := ⟨_, rfl⟩
  rw [← hg2] at HE ⊢
  clear hV' hg2
  replace HE := Lib.hid HE
  have HE0 := Lib.hid (HE.out.on (Below.drew (Below.refl _ _)))
  have K26 := check26 A1 A2 A3 k1 na k2 nb k3 fl xa xb far tall V'.drew.heap.size V'.drew (Nat.le_refl _) HE0.out.o.t1.f HE0.out.o.t1.a HE0.out.o.t1.b HN.out.1 HN.out.2.1 HN.out.2.2.1 HN.out.2.2.2.1 HN.out.2.2.2.2.1
  rw [← hck.out] at K26
  replace K26 := Lib.hid K26
  have K27 : ∀ W, EvS w w2 p q g g2 A1 A2 A3 F A B' k1 k2 k3 cf na ca nb cb fl xa xb far tall R V N a r k ag h1 h2 W → Calls Try.prog 27 #[.agg #[.slice F fl.length cf, .slice A na ca, .slice B' nb cb, .int .i64 far, .int .i64 tall]] W fun e w' => e = .returned (.int .i64 ck) ∧ Below W.heap.size W w' := fun W HW => by
    have K := check27 F A B' cf na ca nb cb fl xa xb far tall W.heap.size W (Nat.le_refl _) HW.o.t2.f HW.o.t2.a HW.o.t2.b HN.out.1 HN.out.2.1 HN.out.2.2.1 HN.out.2.2.2.1 HN.out.2.2.2.2.1
    rw [← hck.out] at K
    exact K
  replace K27 := Lib.hid K27
  have K28 : ∀ W, EvS w w2 p q g g2 A1 A2 A3 F A B' k1 k2 k3 cf na ca nb cb fl xa xb far tall R V N a r k ag h1 h2 W → Calls Try.prog 28 #[.agg #[.slice A1 fl.length k1, .slice A2 na k2, .slice A3 nb k3, .int .i64 far, .int .i64 tall], .agg #[.slice F fl.length cf, .slice A na ca, .slice B' nb cb, .int .i64 far, .int .i64 tall]] W fun e w' => e = .returned (.bool true) ∧ Below W.heap.size W w' := fun W HW =>
    same28 A1 A2 A3 F A B' k1 na k2 nb k3 cf ca cb fl xa xb far tall W HW.o.t1.f HW.o.t1.a HW.o.t1.b HW.o.ls.cs.tb.f HW.o.ls.cs.tb.a HW.o.ls.cs.tb.b HN.out.1 HN.out.2.1 HN.out.2.2.1 HN.out.2.2.2.1 HN.out.2.2.2.2.1
  replace K28 := Lib.hid K28
  clear hck HN
  have r0_0 := HE0.out.o.t1.c0
  have r0_1 := HE0.out.o.t1.c1
  have r0_2 := HE0.out.o.t1.c2
  have r0_3 := HE0.out.o.t1.c3
  have r0_4 := HE0.out.o.t1.c4
  have r0_5 := HE0.out.o.t2.c0
  have r0_6 := HE0.out.o.t2.c1
  have r0_7 := HE0.out.o.t2.c2
  have r0_8 := HE0.out.o.t2.c3
  have r0_9 := HE0.out.o.t2.c4
  have r0_10 := HE0.out.o.ls.cs.tb.c0
  have r0_11 := HE0.out.o.ls.cs.tb.c1
  have r0_12 := HE0.out.o.ls.cs.tb.c2
  have r0_13 := HE0.out.o.ls.cs.tb.c3
  have r0_14 := HE0.out.o.ls.cs.tb.c4
  have r0_15 := HE0.out.x0
  have r0_16 := HE0.out.x1
  have r0_17 := HE0.out.y0
  have r0_18 := HE0.out.y1
  go_region_held3 (fun w' => w'.cell? ⟨q, 0, none⟩ = some (.slice A1 fl.length k1) ∧ w'.cell? ⟨q, 1, none⟩ = some (.slice A2 na k2) ∧ w'.cell? ⟨q, 2, none⟩ = some (.slice A3 nb k3) ∧ w'.cell? ⟨q, 3, none⟩ = some (.int .i64 far) ∧ w'.cell? ⟨q, 4, none⟩ = some (.int .i64 tall) ∧ w'.cell? ⟨q + 1, 0, none⟩ = some (.slice F fl.length cf) ∧ w'.cell? ⟨q + 1, 1, none⟩ = some (.slice A na ca) ∧ w'.cell? ⟨q + 1, 2, none⟩ = some (.slice B' nb cb) ∧ w'.cell? ⟨q + 1, 3, none⟩ = some (.int .i64 far) ∧ w'.cell? ⟨q + 1, 4, none⟩ = some (.int .i64 tall) ∧ w'.cell? ⟨p, 0, none⟩ = some (.slice F fl.length cf) ∧ w'.cell? ⟨p, 1, none⟩ = some (.slice A na ca) ∧ w'.cell? ⟨p, 2, none⟩ = some (.slice B' nb cb) ∧ w'.cell? ⟨p, 3, none⟩ = some (.int .i64 far) ∧ w'.cell? ⟨p, 4, none⟩ = some (.int .i64 tall) ∧ w'.cell? ⟨g, 0, none⟩ = some (.int .u8 h1) ∧ w'.cell? ⟨g, 1, none⟩ = some (.int .i64 h2) ∧ w'.cell? ⟨g2, 0, none⟩ = some (.int .u8 h1) ∧ w'.cell? ⟨g2, 1, none⟩ = some (.int .i64 h2)) (first | exact ⟨r0_0, r0_1, r0_2, r0_3, r0_4, r0_5, r0_6, r0_7, r0_8, r0_9, r0_10, r0_11, r0_12, r0_13, r0_14, r0_15, r0_16, r0_17, r0_18⟩ | exact ⟨r1_0, r1_1, r1_2, r1_3, r1_4, r1_5, r1_6, r1_7, r1_8, r1_9, r1_10, r1_11, r1_12, r1_13, r1_14, r1_15, r1_16, r1_17, r1_18⟩ | exact ⟨r2_0, r2_1, r2_2, r2_3, r2_4, r2_5, r2_6, r2_7, r2_8, r2_9, r2_10, r2_11, r2_12, r2_13, r2_14, r2_15, r2_16, r2_17, r2_18⟩ | exact ⟨r3_0, r3_1, r3_2, r3_3, r3_4, r3_5, r3_6, r3_7, r3_8, r3_9, r3_10, r3_11, r3_12, r3_13, r3_14, r3_15, r3_16, r3_17, r3_18⟩ | exact ⟨r4_0, r4_1, r4_2, r4_3, r4_4, r4_5, r4_6, r4_7, r4_8, r4_9, r4_10, r4_11, r4_12, r4_13, r4_14, r4_15, r4_16, r4_17, r4_18⟩) (first
    | ((with_reducible refine (K26.out).mono ?_); rintro e w9 ⟨rfl, hb1⟩; have HE1 := Lib.hid (HE0.out.on hb1); have r1_0 := HE1.out.o.t1.c0; have r1_1 := HE1.out.o.t1.c1; have r1_2 := HE1.out.o.t1.c2; have r1_3 := HE1.out.o.t1.c3; have r1_4 := HE1.out.o.t1.c4; have r1_5 := HE1.out.o.t2.c0; have r1_6 := HE1.out.o.t2.c1; have r1_7 := HE1.out.o.t2.c2; have r1_8 := HE1.out.o.t2.c3; have r1_9 := HE1.out.o.t2.c4; have r1_10 := HE1.out.o.ls.cs.tb.c0; have r1_11 := HE1.out.o.ls.cs.tb.c1; have r1_12 := HE1.out.o.ls.cs.tb.c2; have r1_13 := HE1.out.o.ls.cs.tb.c3; have r1_14 := HE1.out.o.ls.cs.tb.c4; have r1_15 := HE1.out.x0; have r1_16 := HE1.out.x1; have r1_17 := HE1.out.y0; have r1_18 := HE1.out.y1)
    | ((with_reducible refine (K27.out _ HE1.out).mono ?_); rintro e w10 ⟨rfl, hb2⟩; have HE2 := Lib.hid (HE1.out.on hb2); have r2_0 := HE2.out.o.t1.c0; have r2_1 := HE2.out.o.t1.c1; have r2_2 := HE2.out.o.t1.c2; have r2_3 := HE2.out.o.t1.c3; have r2_4 := HE2.out.o.t1.c4; have r2_5 := HE2.out.o.t2.c0; have r2_6 := HE2.out.o.t2.c1; have r2_7 := HE2.out.o.t2.c2; have r2_8 := HE2.out.o.t2.c3; have r2_9 := HE2.out.o.t2.c4; have r2_10 := HE2.out.o.ls.cs.tb.c0; have r2_11 := HE2.out.o.ls.cs.tb.c1; have r2_12 := HE2.out.o.ls.cs.tb.c2; have r2_13 := HE2.out.o.ls.cs.tb.c3; have r2_14 := HE2.out.o.ls.cs.tb.c4; have r2_15 := HE2.out.x0; have r2_16 := HE2.out.x1; have r2_17 := HE2.out.y0; have r2_18 := HE2.out.y1)
    | ((with_reducible refine (K28.out _ HE2.out).mono ?_); rintro e w11 ⟨rfl, hb3⟩; have HE3 := Lib.hid (HE2.out.on hb3); have r3_0 := HE3.out.o.t1.c0; have r3_1 := HE3.out.o.t1.c1; have r3_2 := HE3.out.o.t1.c2; have r3_3 := HE3.out.o.t1.c3; have r3_4 := HE3.out.o.t1.c4; have r3_5 := HE3.out.o.t2.c0; have r3_6 := HE3.out.o.t2.c1; have r3_7 := HE3.out.o.t2.c2; have r3_8 := HE3.out.o.t2.c3; have r3_9 := HE3.out.o.t2.c4; have r3_10 := HE3.out.o.ls.cs.tb.c0; have r3_11 := HE3.out.o.ls.cs.tb.c1; have r3_12 := HE3.out.o.ls.cs.tb.c2; have r3_13 := HE3.out.o.ls.cs.tb.c3; have r3_14 := HE3.out.o.ls.cs.tb.c4; have r3_15 := HE3.out.x0; have r3_16 := HE3.out.x1; have r3_17 := HE3.out.y0; have r3_18 := HE3.out.y1)
    | ((with_reducible refine (awake15 _).mono ?_); rintro e w12 ⟨rfl, hb4⟩; have HE4 := Lib.hid (HE3.out.on hb4); have r4_0 := HE4.out.o.t1.c0; have r4_1 := HE4.out.o.t1.c1; have r4_2 := HE4.out.o.t1.c2; have r4_3 := HE4.out.o.t1.c3; have r4_4 := HE4.out.o.t1.c4; have r4_5 := HE4.out.o.t2.c0; have r4_6 := HE4.out.o.t2.c1; have r4_7 := HE4.out.o.t2.c2; have r4_8 := HE4.out.o.t2.c3; have r4_9 := HE4.out.o.t2.c4; have r4_10 := HE4.out.o.ls.cs.tb.c0; have r4_11 := HE4.out.o.ls.cs.tb.c1; have r4_12 := HE4.out.o.ls.cs.tb.c2; have r4_13 := HE4.out.o.ls.cs.tb.c3; have r4_14 := HE4.out.o.ls.cs.tb.c4; have r4_15 := HE4.out.x0; have r4_16 := HE4.out.x1; have r4_17 := HE4.out.y0; have r4_18 := HE4.out.y1))
  go_wp2_with fail
  go_ret
  exact ⟨rfl, HE4.out.o.ls.cs.tb.bw⟩
end Go.Proofs.Ytbonniladhablaa
