/- both of the reference, Classify (both). -/
import Derived.Test.YtbonniladhablaaRows
import Derived.WalkKit
import Derived.WalkLawsBesides
import Derived.WalkSpells
import Derived.ProofKit
import Derived.Below
import Derived.Outline
import Derived.Lib.Hide
import Derived.Deep.RegionWith
import Derived.Deep.RegionHeld3
import Derived.Deep.DrawnRows
import Derived.StillTailTactics
import Derived.BigQuiet
import Derived.Deep.QuietTactic
import Derived.Deep.LoopGhost
import Derived.IntWalk
import Derived.WalkMore
import Derived.ScopeJumps
import Derived.Test.YtbonniladhablaaTcT
namespace Go.Proofs.Ytbonniladhablaa
open Go.RowKit
attribute [local go_sem ↓] Go.wp_at_zero Go.wp_at_succ
attribute [local go_sem] wrap_lit

/-- A scope whose gotos all go to one label ahead. -/
theorem wp_scope_fwd {P : Program} {a : Act} {w : World} {Q : Exit → Act → World → Prop} {c rest : Code} (l : Nat) (hf : findLabel c l = some rest) (first : c.wp P (Exit.jump l (fun a w => rest.wp P (Exit.noGoto Q) a w) Q) a w) : (Code.scope c).wp P Q a w :=
  wp_scope_jumps l (fun a w => rest.wp P (Exit.noGoto Q) a w) (fun _ _ => 0) hf first fun a w h => wp_mono h fun e a w hq => by
    cases e with
    | goto l' => exact hq.elim
    | normal => exact hq
    | exit id => exact hq
    | ret => exact hq
    | panic ch => exact hq
    | outgrown => exact hq
theorem jump_normal {l : Nat} {J Q} {a : Act} {w : World} : Exit.jump l J Q .normal a w = Q .normal a w := rfl
theorem jump_exit {l : Nat} {J Q} {a : Act} {w : World} (id : Nat) : Exit.jump l J Q (.exit id) a w = Q (.exit id) a w := rfl
theorem jump_ret {l : Nat} {J Q} {a : Act} {w : World} : Exit.jump l J Q .ret a w = Q .ret a w := rfl
attribute [local go_sem] jump_normal jump_exit jump_ret
theorem ret_ui {a b m n : Int} (h : a = b) (h' : m = n) : Ending.returned (.tuple #[.int .u8 a, .int .i64 m]) = .returned (.tuple #[.int .u8 b, .int .i64 n]) := by rw [h, h']
theorem rl_okA {a r : Int} (h : rlE a r = 0) : okA a r := by
  by_cases g : okA a r
  · exact g
  · unfold rlE at h; rw [if_neg g] at h; cases h
set_option maxRecDepth 100000 in
set_option maxHeartbeats 4000000 in
theorem both42 (R V N a r T Ne H Vv : Int) (w : World) (hx : okX R V N) (ha : okA a r) (hl : okL T Ne H Vv) : Calls Try.prog 42 #[.agg #[.int .i64 R, .int .i64 V, .int .i64 N, .int .i64 a, .int .i64 r], .agg #[.int .i64 T, .int .i64 Ne, .int .i64 H, .int .i64 Vv]] w fun e w' => e = .returned (.bool (hz R V T Ne && vt a r H Vv)) ∧ Below w.heap.size w w' := by
  have C1 := fun W => horiz12 R V N T Ne H Vv W
  have C2 := fun W => vert14 a r T Ne H Vv W
  rw [show hoB R V N T Ne H Vv = hz R V T Ne by unfold hoB; rw [if_pos ⟨hx, hl⟩]] at C1
  rw [show veB a r T Ne H Vv = vt a r H Vv by unfold veB; rw [if_pos ⟨ha, hl⟩]] at C2
  have C1 := Lib.hid C1
  have C2 := Lib.hid C2
  clear hx ha hl
  obtain ⟨b1, hb1⟩ : ∃ b, b = hz R V T Ne := ⟨_, rfl⟩
  obtain ⟨b2, hb2⟩ : ∃ b, b = vt a r H Vv := ⟨_, rfl⟩
  rw [← hb1] at C1 ⊢
  rw [← hb2] at C2 ⊢
  clear hb1 hb2
  go_enter Try.func42, Try.ntmps42
  go_wp2_with fail
  refine (C1.out _).mono ?_
  rintro e w1 ⟨rfl, hb1⟩
  have c1 := (bcell hb1).1
  have s1 := hb1.size
  (try simp at s1)
  have z1 : w.heap.size < w1.heap.size := by omega
  have z2 : w.heap.size + 1 < w1.heap.size := by omega
  go_wp2_with fail
  refine (C2.out _).mono ?_
  rintro e w2 ⟨rfl, hb2⟩
  rcases b1 with _ | _
  all_goals
    go_wp2_with fail
    go_ret
    exact ⟨rfl, (((Below.refl _ _).alloc (Nat.le_refl _) _).alloc (by simp) _).trans ((hb1.mono (by simp; try omega)).trans (hb2.mono (by omega)))⟩
/-- The blocks of Classify: the table and the other aircraft. -/
structure ClS (w : World) (p : Nat) (F A B' : Option Addr) (cf na ca nb cb : Nat) (fl xa xb : List Int) (far tall R V N a r : Int) (W : World) : Prop where
  tb : TbS w p F A B' cf na ca nb cb fl xa xb far tall W
  o0 : W.cell? ⟨p + 1, 0, none⟩ = some (.int .i64 R)
  o1 : W.cell? ⟨p + 1, 1, none⟩ = some (.int .i64 V)
  o2 : W.cell? ⟨p + 1, 2, none⟩ = some (.int .i64 N)
  o3 : W.cell? ⟨p + 1, 3, none⟩ = some (.int .i64 a)
  o4 : W.cell? ⟨p + 1, 4, none⟩ = some (.int .i64 r)
  lt : p + 1 < W.heap.size
theorem ClS.on {w : World} {p : Nat} {F A B' : Option Addr} {cf na ca nb cb : Nat} {fl xa xb : List Int} {far tall R V N a r : Int} {W W1 : World} (h : ClS w p F A B' cf na ca nb cb fl xa xb far tall R V N a r W) (hb : Below W.heap.size W W1) : ClS w p F A B' cf na ca nb cb fl xa xb far tall R V N a r W1 where
  tb := h.tb.on hb
  o0 := (hb.cell (p := ⟨p + 1, 0, none⟩) h.lt).trans h.o0
  o1 := (hb.cell (p := ⟨p + 1, 1, none⟩) h.lt).trans h.o1
  o2 := (hb.cell (p := ⟨p + 1, 2, none⟩) h.lt).trans h.o2
  o3 := (hb.cell (p := ⟨p + 1, 3, none⟩) h.lt).trans h.o3
  o4 := (hb.cell (p := ⟨p + 1, 4, none⟩) h.lt).trans h.o4
  lt := Nat.lt_of_lt_of_le h.lt hb.size
theorem ClS.made (F A B' : Option Addr) (cf na ca nb cb : Nat) (fl xa xb : List Int) (far tall : Int) (B : Nat) (w : World) (hB : B ≤ w.heap.size) (hF : Is .i64 w B F fl) (hA : Is .i64 w B A xa) (hB' : Is .i64 w B B' xb) (R V N a r : Int) (T T' : TypeId) : ClS w w.heap.size F A B' cf na ca nb cb fl xa xb far tall R V N a r ((w.alloc (.cells #[.slice F fl.length cf, .slice A na ca, .slice B' nb cb, .int .i64 far, .int .i64 tall] T)).alloc (.cells #[.int .i64 R, .int .i64 V, .int .i64 N, .int .i64 a, .int .i64 r] T')) where
  tb := (TbS.made F A B' cf na ca nb cb fl xa xb far tall B w hB hF hA hB' T).on ((Below.refl _ _).alloc (Nat.le_refl _) _)
  o0 := World.cell?_alloc_at _ _ _ _ (by simp)
  o1 := World.cell?_alloc_at _ _ _ _ (by simp)
  o2 := World.cell?_alloc_at _ _ _ _ (by simp)
  o3 := World.cell?_alloc_at _ _ _ _ (by simp)
  o4 := World.cell?_alloc_at _ _ _ _ (by simp)
  lt := by simp; try omega

set_option maxRecDepth 100000 in
set_option maxHeartbeats 16000000 in
theorem classify23 (F A B' : Option Addr) (cf na ca nb cb : Nat) (fl xa xb : List Int) (far tall : Int) (own R V N a r : Int) (B : Nat) (w : World) (hB : B ≤ w.heap.size) (hF : Is .i64 w B F fl) (hA : Is .i64 w B A xa) (hB' : Is .i64 w B B' xb) (hna : xa.length = na * 4) (hnb : xb.length = nb * 4) (hlf : fl.length ≤ 1000) (hla : na ≤ 1000) (hlb : nb ≤ 1000) :
    Calls Try.prog 23 #[.agg #[.slice F fl.length cf, .slice A na ca, .slice B' nb cb, .int .i64 far, .int .i64 tall], .int .i64 own, .agg #[.int .i64 R, .int .i64 V, .int .i64 N, .int .i64 a, .int .i64 r]] w fun e w' => e = .returned (.tuple #[.int .u8 (clV fl na xa nb xb far tall own R V N a r), .int .i64 (clE fl na xa nb xb far tall own R V N a r)]) ∧ Below w.heap.size w w' := by
  have HS := Lib.hid (ClS.made F A B' cf na ca nb cb fl xa xb far tall B w hB hF hA hB' R V N a r 50 25)
  have bX : Below w.heap.size w ((w.alloc (.cells #[.slice F fl.length cf, .slice A na ca, .slice B' nb cb, .int .i64 far, .int .i64 tall] 50)).alloc (.cells #[.int .i64 R, .int .i64 V, .int .i64 N, .int .i64 a, .int .i64 r] 25)) := ((Below.refl _ _).alloc (Nat.le_refl _) _).alloc (by simp) _
  have I := index21 F A B' cf na ca nb cb fl xa xb far tall own B ((w.alloc (.cells #[.slice F fl.length cf, .slice A na ca, .slice B' nb cb, .int .i64 far, .int .i64 tall] 50)).alloc (.cells #[.int .i64 R, .int .i64 V, .int .i64 N, .int .i64 a, .int .i64 r] 25)) (Nat.le_trans hB bX.size) (hF.below (bX.mono hB)) (hA.below (bX.mono hB)) (hB'.below (bX.mono hB)) hna hnb hlf hla hlb
  clear bX hF hA hB'
  by_cases h0 : ixE fl na xa nb xb far tall own = 0
  · obtain ⟨hck, how⟩ : ckTb fl na xa nb xb far tall = 0 ∧ okOwn own := by
      unfold ixE at h0
      by_cases g : ckTb fl na xa nb xb far tall = 0
      · rw [if_pos g] at h0
        by_cases g2 : okOwn own
        · exact ⟨g, g2⟩
        · rw [if_neg g2] at h0; cases h0
      · rw [if_neg g] at h0; exact absurd h0 g
    rw [show ixV fl na xa nb xb far tall own = ixN fl own fl.length by unfold ixV; rw [if_pos h0], h0] at I
    have I := Lib.hid I
    by_cases hx : okX R V N
    · by_cases hr : rlE a r = 0
      · have ha := rl_okA hr
        have hE : clE fl na xa nb xb far tall own R V N a r = 0 := by unfold clE; rw [if_pos h0, if_pos hx]; exact hr
        obtain ⟨k0, k1, ⟨k2, k3⟩, k4, k5, k6⟩ := ckTb_ok.1 hck
        obtain ⟨n0, n1⟩ := ixN_bd fl own fl.length
        obtain ⟨n, hn⟩ : ∃ n : Nat, ixN fl own fl.length = (n : Int) := ⟨(ixN fl own fl.length).toNat, by omega⟩
        have hV : clV fl na xa nb xb far tall own R V N a r = if psB R V a r xb n = true then 3 else if psB R V a r xa n = true then 2 else if R ≤ 256 * far ∧ max a (-a) ≤ tall then 1 else 0 := by unfold clV; rw [if_pos hE, hn]; rfl
        rw [hn] at n0 n1 I
        have HV := And.intro hV hE
        have HX := Lib.hid hx
        have HA := Lib.hid ha
        have HLv := Lib.hid (And.intro k4 k5)
        have K1 := chk17 R V N
        rw [show chk R V N = 0 by unfold chk; rw [if_pos hx]] at K1
        have K1 := Lib.hid K1
        have K2 := relative37 a r
        rw [hr] at K2
        have K2 := Lib.hid K2
        obtain ⟨f0, f1, f2, f3⟩ := k6
        obtain ⟨a0, a1, a2, a3⟩ := ha
        obtain ⟨x0, x1, x2, x3, x4, x5⟩ := hx
        have q1 : IntKind.i64.wrap (256 * far) = 256 * far := IntWalk.i64_in _ (by omega)
        have q2 : IntKind.i64.wrap (-a) = -a := IntWalk.i64_in _ (by omega)
        have nI0 : (0 : Int) ≤ (n : Int) := by omega
        have nt : ((n : Nat) : Int).toNat = n := by omega
        have hna' : n < na := by omega
        have hnb' : n < nb := by omega
        clear hE hV hn h0 hck how k1 k2 k3 k4 k5 hr
        go_enter Try.func23, Try.ntmps23
        go_wp2_with fail
        refine wp_scope_fwd 0 rfl ?_
        go_wp2_with fail
        obtain ⟨X, hX⟩ : ∃ X, X = (w.alloc (.cells #[.slice F fl.length cf, .slice A na ca, .slice B' nb cb, .int .i64 far, .int .i64 tall] 50)).alloc (.cells #[.int .i64 R, .int .i64 V, .int .i64 N, .int .i64 a, .int .i64 r] 25) := ⟨_, rfl⟩
        rw [← hX] at HS I ⊢
        obtain ⟨p, hp⟩ : ∃ p, p = w.heap.size := ⟨_, rfl⟩
        rw [← hp] at HS ⊢
        clear hX hp
        refine I.out.mono ?_
        rintro e w1 ⟨rfl, hb1⟩
        have HS := Lib.hid (HS.out.on hb1)
        clear hb1 I
        have e0 := HS.out.o0
        have e1 := HS.out.o1
        have e2 := HS.out.o2
        have e3 := HS.out.o3
        have e4 := HS.out.o4

        go_wp2_with fail
        refine (K1.out _).mono ?_
        rintro e w2 ⟨rfl, hw2⟩
        have hb2 : Below w1.heap.size w1 w2 := by rw [← hw2]; exact (Below.refl _ _).alloc (Nat.le_refl _) _
        have HS := Lib.hid (HS.out.on hb2)
        clear hb2 hw2 K1
        have e0 := HS.out.o0
        have e1 := HS.out.o1
        have e2 := HS.out.o2
        have e3 := HS.out.o3
        have e4 := HS.out.o4

        go_wp2_with fail
        refine (K2.out _).mono ?_
        rintro e w3 ⟨rfl, hw3⟩
        have hb3 : Below w2.heap.size w2 w3 := hw3
        have HS := Lib.hid (HS.out.on hb3)
        clear hb3 hw3 K2 e0 e1 e2 e3 e4
        have e0 := HS.out.o0
        have e1 := HS.out.o1
        have e2 := HS.out.o2
        have e3 := HS.out.o3
        have e4 := HS.out.o4

        have sf := HS.out.tb.c2
        obtain ⟨bs, offs, rfl, hbbs, s0, s1, s2, s3⟩ := lvl_at HS.out.tb.b hnb (k := n) (by omega)
        have HLvs := Lib.hid (show okL (nth xb (n * 4)) (nth xb (n * 4 + 1)) (nth xb (n * 4 + 2)) (nth xb (n * 4 + 3)) from lvOk_at HLv.out.2 (by omega))
        have HPss := Lib.hid (show psB R V a r xb n = (hz R V (nth xb (n * 4)) (nth xb (n * 4 + 1)) && vt a r (nth xb (n * 4 + 2)) (nth xb (n * 4 + 3))) from rfl)
        obtain ⟨vs0, hvs0⟩ : ∃ y, y = nth xb (n * 4) := ⟨_, rfl⟩
        rw [← hvs0] at s0 HLvs HPss
        clear hvs0
        obtain ⟨vs1, hvs1⟩ : ∃ y, y = nth xb (n * 4 + 1) := ⟨_, rfl⟩
        rw [← hvs1] at s1 HLvs HPss
        clear hvs1
        obtain ⟨vs2, hvs2⟩ : ∃ y, y = nth xb (n * 4 + 2) := ⟨_, rfl⟩
        rw [← hvs2] at s2 HLvs HPss
        clear hvs2
        obtain ⟨vs3, hvs3⟩ : ∃ y, y = nth xb (n * 4 + 3) := ⟨_, rfl⟩
        rw [← hvs3] at s3 HLvs HPss
        clear hvs3
        have Ps := fun W => passes41 R V N a r vs0 vs1 vs2 vs3 W HX.out HA.out HLvs.out
        rw [← HPss.out] at Ps
        have Ps := Lib.hid Ps
        obtain ⟨qs, hqs⟩ : ∃ q, q = psB R V a r xb n := ⟨_, rfl⟩
        rw [← hqs] at Ps HV
        clear hqs HPss HLvs
        have nIs : (n : Int) < (nb : Int) := by omega
        have lp := HS.out.tb.lt
        have lp1 := HS.out.lt

        go_wp2_with fail
        go_region_held3 (fun w' => w'.cell? ⟨p, 2, none⟩ = some (.slice (some ⟨bs, offs, none⟩) nb cb) ∧ w'.cell? ⟨p + 1, 0, none⟩ = some (.int .i64 R) ∧ w'.cell? ⟨p + 1, 1, none⟩ = some (.int .i64 V) ∧ w'.cell? ⟨p + 1, 2, none⟩ = some (.int .i64 N) ∧ w'.cell? ⟨p + 1, 3, none⟩ = some (.int .i64 a) ∧ w'.cell? ⟨p + 1, 4, none⟩ = some (.int .i64 r) ∧ w'.cell? ⟨bs, offs + n * 4, none⟩ = some (.int .i64 vs0) ∧ w'.cell? ⟨bs, offs + n * 4 + 1, none⟩ = some (.int .i64 vs1) ∧ w'.cell? ⟨bs, offs + n * 4 + 2, none⟩ = some (.int .i64 vs2) ∧ w'.cell? ⟨bs, offs + n * 4 + 3, none⟩ = some (.int .i64 vs3)) (first | exact ⟨sf, e0, e1, e2, e3, e4, s0, s1, s2, s3⟩ | exact ⟨kk0, kk1, kk2, kk3, kk4, kk5, kk6, kk7, kk8, kk9⟩) (first
          | ((with_reducible refine (Ps.out _).mono ?_); rintro e w4 ⟨rfl, hbw4⟩; have kk0 := (hbw4.cell (p := ⟨p, 2, none⟩) lp).trans sf; have kk1 := (hbw4.cell (p := ⟨p + 1, 0, none⟩) lp1).trans e0; have kk2 := (hbw4.cell (p := ⟨p + 1, 1, none⟩) lp1).trans e1; have kk3 := (hbw4.cell (p := ⟨p + 1, 2, none⟩) lp1).trans e2; have kk4 := (hbw4.cell (p := ⟨p + 1, 3, none⟩) lp1).trans e3; have kk5 := (hbw4.cell (p := ⟨p + 1, 4, none⟩) lp1).trans e4; have kk6 := (hbw4.cell (p := ⟨bs, offs + n * 4, none⟩) hbbs).trans s0; have kk7 := (hbw4.cell (p := ⟨bs, offs + n * 4 + 1, none⟩) hbbs).trans s1; have kk8 := (hbw4.cell (p := ⟨bs, offs + n * 4 + 2, none⟩) hbbs).trans s2; have kk9 := (hbw4.cell (p := ⟨bs, offs + n * 4 + 3, none⟩) hbbs).trans s3))

        have HS := Lib.hid (HS.out.on (((Below.refl _ w3).drew).trans hbw4))
        clear kk0 kk1 kk2 kk3 kk4 kk5 kk6 kk7 kk8 kk9 sf e0 e1 e2 e3 e4 s0 s1 s2 s3 lp lp1 hbw4
        rcases qs with _ | _
        · rw [if_neg (by decide)] at HV
          have e0 := HS.out.o0
          have e1 := HS.out.o1
          have e2 := HS.out.o2
          have e3 := HS.out.o3
          have e4 := HS.out.o4

          have tf := HS.out.tb.c1
          obtain ⟨bt, offt, rfl, hbbt, t0, t1, t2, t3⟩ := lvl_at HS.out.tb.a hna (k := n) (by omega)
          have HLvt := Lib.hid (show okL (nth xa (n * 4)) (nth xa (n * 4 + 1)) (nth xa (n * 4 + 2)) (nth xa (n * 4 + 3)) from lvOk_at HLv.out.1 (by omega))
          have HPst := Lib.hid (show psB R V a r xa n = (hz R V (nth xa (n * 4)) (nth xa (n * 4 + 1)) && vt a r (nth xa (n * 4 + 2)) (nth xa (n * 4 + 3))) from rfl)
          obtain ⟨vt0, hvt0⟩ : ∃ y, y = nth xa (n * 4) := ⟨_, rfl⟩
          rw [← hvt0] at t0 HLvt HPst
          clear hvt0
          obtain ⟨vt1, hvt1⟩ : ∃ y, y = nth xa (n * 4 + 1) := ⟨_, rfl⟩
          rw [← hvt1] at t1 HLvt HPst
          clear hvt1
          obtain ⟨vt2, hvt2⟩ : ∃ y, y = nth xa (n * 4 + 2) := ⟨_, rfl⟩
          rw [← hvt2] at t2 HLvt HPst
          clear hvt2
          obtain ⟨vt3, hvt3⟩ : ∃ y, y = nth xa (n * 4 + 3) := ⟨_, rfl⟩
          rw [← hvt3] at t3 HLvt HPst
          clear hvt3
          have Pt := fun W => passes41 R V N a r vt0 vt1 vt2 vt3 W HX.out HA.out HLvt.out
          rw [← HPst.out] at Pt
          have Pt := Lib.hid Pt
          obtain ⟨qt, hqt⟩ : ∃ q, q = psB R V a r xa n := ⟨_, rfl⟩
          rw [← hqt] at Pt HV
          clear hqt HPst HLvt
          have nIt : (n : Int) < (na : Int) := by omega
          have lp := HS.out.tb.lt
          have lp1 := HS.out.lt

          go_wp2_with fail
          go_region_held3 (fun w' => w'.cell? ⟨p, 1, none⟩ = some (.slice (some ⟨bt, offt, none⟩) na ca) ∧ w'.cell? ⟨p + 1, 0, none⟩ = some (.int .i64 R) ∧ w'.cell? ⟨p + 1, 1, none⟩ = some (.int .i64 V) ∧ w'.cell? ⟨p + 1, 2, none⟩ = some (.int .i64 N) ∧ w'.cell? ⟨p + 1, 3, none⟩ = some (.int .i64 a) ∧ w'.cell? ⟨p + 1, 4, none⟩ = some (.int .i64 r) ∧ w'.cell? ⟨bt, offt + n * 4, none⟩ = some (.int .i64 vt0) ∧ w'.cell? ⟨bt, offt + n * 4 + 1, none⟩ = some (.int .i64 vt1) ∧ w'.cell? ⟨bt, offt + n * 4 + 2, none⟩ = some (.int .i64 vt2) ∧ w'.cell? ⟨bt, offt + n * 4 + 3, none⟩ = some (.int .i64 vt3)) (first | exact ⟨tf, e0, e1, e2, e3, e4, t0, t1, t2, t3⟩ | exact ⟨kk0, kk1, kk2, kk3, kk4, kk5, kk6, kk7, kk8, kk9⟩) (first
            | ((with_reducible refine (Pt.out _).mono ?_); rintro e w5 ⟨rfl, hbw5⟩; have kk0 := (hbw5.cell (p := ⟨p, 1, none⟩) lp).trans tf; have kk1 := (hbw5.cell (p := ⟨p + 1, 0, none⟩) lp1).trans e0; have kk2 := (hbw5.cell (p := ⟨p + 1, 1, none⟩) lp1).trans e1; have kk3 := (hbw5.cell (p := ⟨p + 1, 2, none⟩) lp1).trans e2; have kk4 := (hbw5.cell (p := ⟨p + 1, 3, none⟩) lp1).trans e3; have kk5 := (hbw5.cell (p := ⟨p + 1, 4, none⟩) lp1).trans e4; have kk6 := (hbw5.cell (p := ⟨bt, offt + n * 4, none⟩) hbbt).trans t0; have kk7 := (hbw5.cell (p := ⟨bt, offt + n * 4 + 1, none⟩) hbbt).trans t1; have kk8 := (hbw5.cell (p := ⟨bt, offt + n * 4 + 2, none⟩) hbbt).trans t2; have kk9 := (hbw5.cell (p := ⟨bt, offt + n * 4 + 3, none⟩) hbbt).trans t3))

          have HS := Lib.hid (HS.out.on (((Below.refl _ w4).drew).trans hbw5))
          clear kk0 kk1 kk2 kk3 kk4 kk5 kk6 kk7 kk8 kk9 tf e0 e1 e2 e3 e4 t0 t1 t2 t3 lp lp1 hbw5
          rcases qt with _ | _
          · rw [if_neg (by decide)] at HV
            by_cases g1 : R ≤ 256 * far
            · by_cases g2 : max a (-a) ≤ tall
              · rw [if_pos ⟨g1, g2⟩] at HV
                replace HV := Lib.hid HV
                have e0 := HS.out.o0
                have e1 := HS.out.o1
                have e2 := HS.out.o2
                have e3 := HS.out.o3
                have e4 := HS.out.o4
                have e5 := HS.out.tb.c3
                have e6 := HS.out.tb.c4
                go_wp2_with fail
                all_goals
                  apply wp_goto
                  refine ⟨rfl, ?_⟩
                  show Code.wp _ _ _ _ _
                  go_wp2_with fail
                  (try rw [Exit.noGoto_ret])
                  go_ret2
                  exact ⟨ret_ui HV.out.1.symm HV.out.2.symm, HS.out.tb.bw⟩
              · rw [if_neg (fun h => g2 h.2)] at HV
                replace HV := Lib.hid HV
                have e0 := HS.out.o0
                have e1 := HS.out.o1
                have e2 := HS.out.o2
                have e3 := HS.out.o3
                have e4 := HS.out.o4
                have e5 := HS.out.tb.c3
                have e6 := HS.out.tb.c4
                go_wp2_with fail
                all_goals
                  go_step3
                  go_wp2_with fail
                  (try rw [jump_ret])
                  go_ret2
                  exact ⟨ret_ui HV.out.1.symm HV.out.2.symm, HS.out.tb.bw⟩
            · rw [if_neg (fun h => g1 h.1)] at HV
              replace HV := Lib.hid HV
              have e0 := HS.out.o0
              have e1 := HS.out.o1
              have e2 := HS.out.o2
              have e3 := HS.out.o3
              have e4 := HS.out.o4
              have e5 := HS.out.tb.c3
              have e6 := HS.out.tb.c4
              go_wp2_with fail
              go_step3
              go_wp2_with fail
              (try rw [jump_ret])
              go_ret2
              exact ⟨ret_ui HV.out.1.symm HV.out.2.symm, HS.out.tb.bw⟩
          · rw [if_pos rfl] at HV
            replace HV := Lib.hid HV
            go_wp2_with fail
            apply wp_goto
            refine ⟨rfl, ?_⟩
            show Code.wp _ _ _ _ _
            go_wp2_with fail
            (try rw [Exit.noGoto_ret])
            go_ret2
            exact ⟨ret_ui HV.out.1.symm HV.out.2.symm, HS.out.tb.bw⟩
        · rw [if_pos rfl] at HV
          replace HV := Lib.hid HV
          go_wp2_with fail
          apply wp_goto
          refine ⟨rfl, ?_⟩
          show Code.wp _ _ _ _ _
          go_wp2_with fail
          (try rw [Exit.noGoto_ret])
          go_ret2
          exact ⟨ret_ui HV.out.1.symm HV.out.2.symm, HS.out.tb.bw⟩
      · have hE : clE fl na xa nb xb far tall own R V N a r = rlE a r := by unfold clE; rw [if_pos h0, if_pos hx]
        have hV : clV fl na xa nb xb far tall own R V N a r = 0 := by unfold clV; rw [if_neg (by rw [hE]; exact hr)]
        have HV := Lib.hid (And.intro hV hE)
        have K1 := chk17 R V N
        rw [show chk R V N = 0 by unfold chk; rw [if_pos hx]] at K1
        have K1 := Lib.hid K1
        have K2 := relative37 a r
        obtain ⟨z, hz⟩ : ∃ z, z = rlE a r := ⟨_, rfl⟩
        rw [← hz] at hr HV K2
        have K2 := Lib.hid K2
        have hb0 : (z != 0) = true := by simp [hr]
        clear hE hV h0 hck how hx hz
        go_enter Try.func23, Try.ntmps23
        go_wp2_with fail
        refine wp_scope_fwd 0 rfl ?_
        go_wp2_with fail
        obtain ⟨X, hX⟩ : ∃ X, X = (w.alloc (.cells #[.slice F fl.length cf, .slice A na ca, .slice B' nb cb, .int .i64 far, .int .i64 tall] 50)).alloc (.cells #[.int .i64 R, .int .i64 V, .int .i64 N, .int .i64 a, .int .i64 r] 25) := ⟨_, rfl⟩
        rw [← hX] at HS I ⊢
        obtain ⟨p, hp⟩ : ∃ p, p = w.heap.size := ⟨_, rfl⟩
        rw [← hp] at HS ⊢
        clear hX hp
        refine I.out.mono ?_
        rintro e w1 ⟨rfl, hb1⟩
        have HS := Lib.hid (HS.out.on hb1)
        clear hb1 I
        have e0 := HS.out.o0
        have e1 := HS.out.o1
        have e2 := HS.out.o2
        have e3 := HS.out.o3
        have e4 := HS.out.o4

        go_wp2_with fail
        refine (K1.out _).mono ?_
        rintro e w2 ⟨rfl, hw2⟩
        have hb2 : Below w1.heap.size w1 w2 := by rw [← hw2]; exact (Below.refl _ _).alloc (Nat.le_refl _) _
        have HS := Lib.hid (HS.out.on hb2)
        clear hb2 hw2 K1
        have e0 := HS.out.o0
        have e1 := HS.out.o1
        have e2 := HS.out.o2
        have e3 := HS.out.o3
        have e4 := HS.out.o4

        go_wp2_with fail
        refine (K2.out _).mono ?_
        rintro e w3 ⟨rfl, hw3⟩
        have hb3 : Below w2.heap.size w2 w3 := hw3
        have HS := Lib.hid (HS.out.on hb3)
        clear hb3 hw3 K2 e0 e1 e2 e3 e4
        have e0 := HS.out.o0
        have e1 := HS.out.o1
        have e2 := HS.out.o2
        have e3 := HS.out.o3
        have e4 := HS.out.o4

        go_wp2_with fail
        (try rw [jump_ret])
        go_ret2
        exact ⟨ret_ui HV.out.1.symm HV.out.2.symm, HS.out.tb.bw⟩
    · have hE : clE fl na xa nb xb far tall own R V N a r = 1 := by unfold clE; rw [if_pos h0, if_neg hx]
      have hV : clV fl na xa nb xb far tall own R V N a r = 0 := by unfold clV; rw [if_neg (by rw [hE]; decide)]
      have HV := Lib.hid (And.intro hV hE)
      have K1 := chk17 R V N
      rw [show chk R V N = 1 by unfold chk; rw [if_neg hx]] at K1
      have K1 := Lib.hid K1
      clear hE hV h0 hck how hx
      go_enter Try.func23, Try.ntmps23
      go_wp2_with fail
      refine wp_scope_fwd 0 rfl ?_
      go_wp2_with fail
      obtain ⟨X, hX⟩ : ∃ X, X = (w.alloc (.cells #[.slice F fl.length cf, .slice A na ca, .slice B' nb cb, .int .i64 far, .int .i64 tall] 50)).alloc (.cells #[.int .i64 R, .int .i64 V, .int .i64 N, .int .i64 a, .int .i64 r] 25) := ⟨_, rfl⟩
      rw [← hX] at HS I ⊢
      obtain ⟨p, hp⟩ : ∃ p, p = w.heap.size := ⟨_, rfl⟩
      rw [← hp] at HS ⊢
      clear hX hp
      refine I.out.mono ?_
      rintro e w1 ⟨rfl, hb1⟩
      have HS := Lib.hid (HS.out.on hb1)
      clear hb1 I
      have e0 := HS.out.o0
      have e1 := HS.out.o1
      have e2 := HS.out.o2
      have e3 := HS.out.o3
      have e4 := HS.out.o4

      go_wp2_with fail
      refine (K1.out _).mono ?_
      rintro e w2 ⟨rfl, hw2⟩
      have hb2 : Below w1.heap.size w1 w2 := by rw [← hw2]; exact (Below.refl _ _).alloc (Nat.le_refl _) _
      have HS := Lib.hid (HS.out.on hb2)
      clear hb2 hw2 K1
      have e0 := HS.out.o0
      have e1 := HS.out.o1
      have e2 := HS.out.o2
      have e3 := HS.out.o3
      have e4 := HS.out.o4

      go_wp2_with fail
      (try rw [jump_ret])
      go_ret2
      exact ⟨ret_ui HV.out.1.symm HV.out.2.symm, HS.out.tb.bw⟩
  · have hE : clE fl na xa nb xb far tall own R V N a r = ixE fl na xa nb xb far tall own := by unfold clE; rw [if_neg h0]
    have hV : clV fl na xa nb xb far tall own R V N a r = 0 := by unfold clV; rw [if_neg (by rw [hE]; exact h0)]
    have HV := Lib.hid (And.intro hV hE)
    obtain ⟨z, hz⟩ : ∃ z, z = ixE fl na xa nb xb far tall own := ⟨_, rfl⟩
    rw [show ixV fl na xa nb xb far tall own = 0 by unfold ixV; rw [if_neg h0]] at I
    rw [← hz] at h0 HV I
    have I := Lib.hid I
    have hb0 : (z != 0) = true := by simp [h0]
    clear hE hV hz
    go_enter Try.func23, Try.ntmps23
    go_wp2_with fail
    refine wp_scope_fwd 0 rfl ?_
    go_wp2_with fail
    obtain ⟨X, hX⟩ : ∃ X, X = (w.alloc (.cells #[.slice F fl.length cf, .slice A na ca, .slice B' nb cb, .int .i64 far, .int .i64 tall] 50)).alloc (.cells #[.int .i64 R, .int .i64 V, .int .i64 N, .int .i64 a, .int .i64 r] 25) := ⟨_, rfl⟩
    rw [← hX] at HS I ⊢
    obtain ⟨p, hp⟩ : ∃ p, p = w.heap.size := ⟨_, rfl⟩
    rw [← hp] at HS ⊢
    clear hX hp
    refine I.out.mono ?_
    rintro e w1 ⟨rfl, hb1⟩
    have HS := Lib.hid (HS.out.on hb1)
    clear hb1 I

    go_wp2_with fail
    (try rw [jump_ret])
    go_ret2
    exact ⟨ret_ui HV.out.1.symm HV.out.2.symm, HS.out.tb.bw⟩

set_option maxRecDepth 100000 in
set_option maxHeartbeats 16000000 in
theorem classify24 (F A B' : Option Addr) (cf na ca nb cb : Nat) (fl xa xb : List Int) (far tall : Int) (own R V N a r : Int) (B : Nat) (w : World) (hB : B ≤ w.heap.size) (hF : Is .i64 w B F fl) (hA : Is .i64 w B A xa) (hB' : Is .i64 w B B' xb) (hna : xa.length = na * 4) (hnb : xb.length = nb * 4) (hlf : fl.length ≤ 1000) (hla : na ≤ 1000) (hlb : nb ≤ 1000) :
    Calls Try.prog 24 #[.agg #[.slice F fl.length cf, .slice A na ca, .slice B' nb cb, .int .i64 far, .int .i64 tall], .int .i64 own, .agg #[.int .i64 R, .int .i64 V, .int .i64 N, .int .i64 a, .int .i64 r]] w fun e w' => e = .returned (.tuple #[.int .u8 (clV fl na xa nb xb far tall own R V N a r), .int .i64 (clE fl na xa nb xb far tall own R V N a r)]) ∧ Below w.heap.size w w' := by
  have HS := Lib.hid (ClS.made F A B' cf na ca nb cb fl xa xb far tall B w hB hF hA hB' R V N a r 53 60)
  have bX : Below w.heap.size w ((w.alloc (.cells #[.slice F fl.length cf, .slice A na ca, .slice B' nb cb, .int .i64 far, .int .i64 tall] 53)).alloc (.cells #[.int .i64 R, .int .i64 V, .int .i64 N, .int .i64 a, .int .i64 r] 60)) := ((Below.refl _ _).alloc (Nat.le_refl _) _).alloc (by simp) _
  have I := index22 F A B' cf na ca nb cb fl xa xb far tall own B ((w.alloc (.cells #[.slice F fl.length cf, .slice A na ca, .slice B' nb cb, .int .i64 far, .int .i64 tall] 53)).alloc (.cells #[.int .i64 R, .int .i64 V, .int .i64 N, .int .i64 a, .int .i64 r] 60)) (Nat.le_trans hB bX.size) (hF.below (bX.mono hB)) (hA.below (bX.mono hB)) (hB'.below (bX.mono hB)) hna hnb hlf hla hlb
  clear bX hF hA hB'
  by_cases h0 : ixE fl na xa nb xb far tall own = 0
  · obtain ⟨hck, how⟩ : ckTb fl na xa nb xb far tall = 0 ∧ okOwn own := by
      unfold ixE at h0
      by_cases g : ckTb fl na xa nb xb far tall = 0
      · rw [if_pos g] at h0
        by_cases g2 : okOwn own
        · exact ⟨g, g2⟩
        · rw [if_neg g2] at h0; cases h0
      · rw [if_neg g] at h0; exact absurd h0 g
    rw [show ixV fl na xa nb xb far tall own = ixN fl own fl.length by unfold ixV; rw [if_pos h0], h0] at I
    have I := Lib.hid I
    by_cases hx : okX R V N
    · by_cases hr : rlE a r = 0
      · have ha := rl_okA hr
        have hE : clE fl na xa nb xb far tall own R V N a r = 0 := by unfold clE; rw [if_pos h0, if_pos hx]; exact hr
        obtain ⟨k0, k1, ⟨k2, k3⟩, k4, k5, k6⟩ := ckTb_ok.1 hck
        obtain ⟨n0, n1⟩ := ixN_bd fl own fl.length
        obtain ⟨n, hn⟩ : ∃ n : Nat, ixN fl own fl.length = (n : Int) := ⟨(ixN fl own fl.length).toNat, by omega⟩
        have hV : clV fl na xa nb xb far tall own R V N a r = if psB R V a r xb n = true then 3 else if psB R V a r xa n = true then 2 else if R ≤ 256 * far ∧ max a (-a) ≤ tall then 1 else 0 := by unfold clV; rw [if_pos hE, hn]; rfl
        rw [hn] at n0 n1 I
        have HV := And.intro hV hE
        have HX := Lib.hid hx
        have HA := Lib.hid ha
        have HLv := Lib.hid (And.intro k4 k5)
        have K1 := chk18 R V N
        rw [show chk R V N = 0 by unfold chk; rw [if_pos hx]] at K1
        have K1 := Lib.hid K1
        have K2 := relative39 a r
        rw [hr] at K2
        have K2 := Lib.hid K2
        obtain ⟨f0, f1, f2, f3⟩ := k6
        obtain ⟨a0, a1, a2, a3⟩ := ha
        obtain ⟨x0, x1, x2, x3, x4, x5⟩ := hx
        have q1 : IntKind.i64.wrap (256 * far) = 256 * far := IntWalk.i64_in _ (by omega)
        have q2 : IntKind.i64.wrap (-a) = -a := IntWalk.i64_in _ (by omega)
        have nI0 : (0 : Int) ≤ (n : Int) := by omega
        have nt : ((n : Nat) : Int).toNat = n := by omega
        have hna' : n < na := by omega
        have hnb' : n < nb := by omega
        clear hE hV hn h0 hck how k1 k2 k3 k4 k5 hr
        go_enter Try.func24, Try.ntmps24
        go_wp2_with fail
        obtain ⟨X, hX⟩ : ∃ X, X = (w.alloc (.cells #[.slice F fl.length cf, .slice A na ca, .slice B' nb cb, .int .i64 far, .int .i64 tall] 53)).alloc (.cells #[.int .i64 R, .int .i64 V, .int .i64 N, .int .i64 a, .int .i64 r] 60) := ⟨_, rfl⟩
        rw [← hX] at HS I ⊢
        obtain ⟨p, hp⟩ : ∃ p, p = w.heap.size := ⟨_, rfl⟩
        rw [← hp] at HS ⊢
        clear hX hp
        refine I.out.mono ?_
        rintro e w1 ⟨rfl, hb1⟩
        have HS := Lib.hid (HS.out.on hb1)
        clear hb1 I
        have e0 := HS.out.o0
        have e1 := HS.out.o1
        have e2 := HS.out.o2
        have e3 := HS.out.o3
        have e4 := HS.out.o4

        go_wp2_with fail
        refine (K1.out _).mono ?_
        rintro e w2 ⟨rfl, hw2⟩
        have hb2 : Below w1.heap.size w1 w2 := by rw [← hw2]; exact (Below.refl _ _).alloc (Nat.le_refl _) _
        have HS := Lib.hid (HS.out.on hb2)
        clear hb2 hw2 K1
        have e0 := HS.out.o0
        have e1 := HS.out.o1
        have e2 := HS.out.o2
        have e3 := HS.out.o3
        have e4 := HS.out.o4

        go_wp2_with fail
        refine (K2.out _).mono ?_
        rintro e w3 ⟨rfl, hw3⟩
        have hb3 : Below w2.heap.size w2 w3 := by rw [← hw3]; exact Below.refl _ _
        have HS := Lib.hid (HS.out.on hb3)
        clear hb3 hw3 K2 e0 e1 e2 e3 e4
        have e0 := HS.out.o0
        have e1 := HS.out.o1
        have e2 := HS.out.o2
        have e3 := HS.out.o3
        have e4 := HS.out.o4

        have sf := HS.out.tb.c2
        obtain ⟨bs, offs, rfl, hbbs, s0, s1, s2, s3⟩ := lvl_at HS.out.tb.b hnb (k := n) (by omega)
        have HLvs := Lib.hid (show okL (nth xb (n * 4)) (nth xb (n * 4 + 1)) (nth xb (n * 4 + 2)) (nth xb (n * 4 + 3)) from lvOk_at HLv.out.2 (by omega))
        have HPss := Lib.hid (show psB R V a r xb n = (hz R V (nth xb (n * 4)) (nth xb (n * 4 + 1)) && vt a r (nth xb (n * 4 + 2)) (nth xb (n * 4 + 3))) from rfl)
        obtain ⟨vs0, hvs0⟩ : ∃ y, y = nth xb (n * 4) := ⟨_, rfl⟩
        rw [← hvs0] at s0 HLvs HPss
        clear hvs0
        obtain ⟨vs1, hvs1⟩ : ∃ y, y = nth xb (n * 4 + 1) := ⟨_, rfl⟩
        rw [← hvs1] at s1 HLvs HPss
        clear hvs1
        obtain ⟨vs2, hvs2⟩ : ∃ y, y = nth xb (n * 4 + 2) := ⟨_, rfl⟩
        rw [← hvs2] at s2 HLvs HPss
        clear hvs2
        obtain ⟨vs3, hvs3⟩ : ∃ y, y = nth xb (n * 4 + 3) := ⟨_, rfl⟩
        rw [← hvs3] at s3 HLvs HPss
        clear hvs3
        have Ps := fun W => both42 R V N a r vs0 vs1 vs2 vs3 W HX.out HA.out HLvs.out
        rw [← HPss.out] at Ps
        have Ps := Lib.hid Ps
        obtain ⟨qs, hqs⟩ : ∃ q, q = psB R V a r xb n := ⟨_, rfl⟩
        rw [← hqs] at Ps HV
        clear hqs HPss HLvs
        have nIs : (n : Int) < (nb : Int) := by omega
        have lp := HS.out.tb.lt
        have lp1 := HS.out.lt

        go_wp2_with fail
        go_region_held3 (fun w' => w'.cell? ⟨p, 2, none⟩ = some (.slice (some ⟨bs, offs, none⟩) nb cb) ∧ w'.cell? ⟨p + 1, 0, none⟩ = some (.int .i64 R) ∧ w'.cell? ⟨p + 1, 1, none⟩ = some (.int .i64 V) ∧ w'.cell? ⟨p + 1, 2, none⟩ = some (.int .i64 N) ∧ w'.cell? ⟨p + 1, 3, none⟩ = some (.int .i64 a) ∧ w'.cell? ⟨p + 1, 4, none⟩ = some (.int .i64 r) ∧ w'.cell? ⟨bs, offs + n * 4, none⟩ = some (.int .i64 vs0) ∧ w'.cell? ⟨bs, offs + n * 4 + 1, none⟩ = some (.int .i64 vs1) ∧ w'.cell? ⟨bs, offs + n * 4 + 2, none⟩ = some (.int .i64 vs2) ∧ w'.cell? ⟨bs, offs + n * 4 + 3, none⟩ = some (.int .i64 vs3)) (first | exact ⟨sf, e0, e1, e2, e3, e4, s0, s1, s2, s3⟩ | exact ⟨kk0, kk1, kk2, kk3, kk4, kk5, kk6, kk7, kk8, kk9⟩) (first
          | ((with_reducible refine (Ps.out _).mono ?_); rintro e w4 ⟨rfl, hbw4⟩; have kk0 := (hbw4.cell (p := ⟨p, 2, none⟩) lp).trans sf; have kk1 := (hbw4.cell (p := ⟨p + 1, 0, none⟩) lp1).trans e0; have kk2 := (hbw4.cell (p := ⟨p + 1, 1, none⟩) lp1).trans e1; have kk3 := (hbw4.cell (p := ⟨p + 1, 2, none⟩) lp1).trans e2; have kk4 := (hbw4.cell (p := ⟨p + 1, 3, none⟩) lp1).trans e3; have kk5 := (hbw4.cell (p := ⟨p + 1, 4, none⟩) lp1).trans e4; have kk6 := (hbw4.cell (p := ⟨bs, offs + n * 4, none⟩) hbbs).trans s0; have kk7 := (hbw4.cell (p := ⟨bs, offs + n * 4 + 1, none⟩) hbbs).trans s1; have kk8 := (hbw4.cell (p := ⟨bs, offs + n * 4 + 2, none⟩) hbbs).trans s2; have kk9 := (hbw4.cell (p := ⟨bs, offs + n * 4 + 3, none⟩) hbbs).trans s3))

        have HS := Lib.hid (HS.out.on (((Below.refl _ w3).drew).trans hbw4))
        clear kk0 kk1 kk2 kk3 kk4 kk5 kk6 kk7 kk8 kk9 sf e0 e1 e2 e3 e4 s0 s1 s2 s3 lp lp1 hbw4
        rcases qs with _ | _
        · rw [if_neg (by decide)] at HV
          have e0 := HS.out.o0
          have e1 := HS.out.o1
          have e2 := HS.out.o2
          have e3 := HS.out.o3
          have e4 := HS.out.o4

          have tf := HS.out.tb.c1
          obtain ⟨bt, offt, rfl, hbbt, t0, t1, t2, t3⟩ := lvl_at HS.out.tb.a hna (k := n) (by omega)
          have HLvt := Lib.hid (show okL (nth xa (n * 4)) (nth xa (n * 4 + 1)) (nth xa (n * 4 + 2)) (nth xa (n * 4 + 3)) from lvOk_at HLv.out.1 (by omega))
          have HPst := Lib.hid (show psB R V a r xa n = (hz R V (nth xa (n * 4)) (nth xa (n * 4 + 1)) && vt a r (nth xa (n * 4 + 2)) (nth xa (n * 4 + 3))) from rfl)
          obtain ⟨vt0, hvt0⟩ : ∃ y, y = nth xa (n * 4) := ⟨_, rfl⟩
          rw [← hvt0] at t0 HLvt HPst
          clear hvt0
          obtain ⟨vt1, hvt1⟩ : ∃ y, y = nth xa (n * 4 + 1) := ⟨_, rfl⟩
          rw [← hvt1] at t1 HLvt HPst
          clear hvt1
          obtain ⟨vt2, hvt2⟩ : ∃ y, y = nth xa (n * 4 + 2) := ⟨_, rfl⟩
          rw [← hvt2] at t2 HLvt HPst
          clear hvt2
          obtain ⟨vt3, hvt3⟩ : ∃ y, y = nth xa (n * 4 + 3) := ⟨_, rfl⟩
          rw [← hvt3] at t3 HLvt HPst
          clear hvt3
          have Pt := fun W => both42 R V N a r vt0 vt1 vt2 vt3 W HX.out HA.out HLvt.out
          rw [← HPst.out] at Pt
          have Pt := Lib.hid Pt
          obtain ⟨qt, hqt⟩ : ∃ q, q = psB R V a r xa n := ⟨_, rfl⟩
          rw [← hqt] at Pt HV
          clear hqt HPst HLvt
          have nIt : (n : Int) < (na : Int) := by omega
          have lp := HS.out.tb.lt
          have lp1 := HS.out.lt

          go_wp2_with fail
          go_region_held3 (fun w' => w'.cell? ⟨p, 1, none⟩ = some (.slice (some ⟨bt, offt, none⟩) na ca) ∧ w'.cell? ⟨p + 1, 0, none⟩ = some (.int .i64 R) ∧ w'.cell? ⟨p + 1, 1, none⟩ = some (.int .i64 V) ∧ w'.cell? ⟨p + 1, 2, none⟩ = some (.int .i64 N) ∧ w'.cell? ⟨p + 1, 3, none⟩ = some (.int .i64 a) ∧ w'.cell? ⟨p + 1, 4, none⟩ = some (.int .i64 r) ∧ w'.cell? ⟨bt, offt + n * 4, none⟩ = some (.int .i64 vt0) ∧ w'.cell? ⟨bt, offt + n * 4 + 1, none⟩ = some (.int .i64 vt1) ∧ w'.cell? ⟨bt, offt + n * 4 + 2, none⟩ = some (.int .i64 vt2) ∧ w'.cell? ⟨bt, offt + n * 4 + 3, none⟩ = some (.int .i64 vt3)) (first | exact ⟨tf, e0, e1, e2, e3, e4, t0, t1, t2, t3⟩ | exact ⟨kk0, kk1, kk2, kk3, kk4, kk5, kk6, kk7, kk8, kk9⟩) (first
            | ((with_reducible refine (Pt.out _).mono ?_); rintro e w5 ⟨rfl, hbw5⟩; have kk0 := (hbw5.cell (p := ⟨p, 1, none⟩) lp).trans tf; have kk1 := (hbw5.cell (p := ⟨p + 1, 0, none⟩) lp1).trans e0; have kk2 := (hbw5.cell (p := ⟨p + 1, 1, none⟩) lp1).trans e1; have kk3 := (hbw5.cell (p := ⟨p + 1, 2, none⟩) lp1).trans e2; have kk4 := (hbw5.cell (p := ⟨p + 1, 3, none⟩) lp1).trans e3; have kk5 := (hbw5.cell (p := ⟨p + 1, 4, none⟩) lp1).trans e4; have kk6 := (hbw5.cell (p := ⟨bt, offt + n * 4, none⟩) hbbt).trans t0; have kk7 := (hbw5.cell (p := ⟨bt, offt + n * 4 + 1, none⟩) hbbt).trans t1; have kk8 := (hbw5.cell (p := ⟨bt, offt + n * 4 + 2, none⟩) hbbt).trans t2; have kk9 := (hbw5.cell (p := ⟨bt, offt + n * 4 + 3, none⟩) hbbt).trans t3))

          have HS := Lib.hid (HS.out.on (((Below.refl _ w4).drew).trans hbw5))
          clear kk0 kk1 kk2 kk3 kk4 kk5 kk6 kk7 kk8 kk9 tf e0 e1 e2 e3 e4 t0 t1 t2 t3 lp lp1 hbw5
          rcases qt with _ | _
          · rw [if_neg (by decide)] at HV
            by_cases g1 : R ≤ 256 * far
            · by_cases g2 : max a (-a) ≤ tall
              · rw [if_pos ⟨g1, g2⟩] at HV
                replace HV := Lib.hid HV
                have e0 := HS.out.o0
                have e1 := HS.out.o1
                have e2 := HS.out.o2
                have e3 := HS.out.o3
                have e4 := HS.out.o4
                have e5 := HS.out.tb.c3
                have e6 := HS.out.tb.c4
                go_wp2_with fail
                all_goals
                  go_wp2_with fail
                  (try rw [jump_ret])
                  go_ret2
                  exact ⟨ret_ui HV.out.1.symm HV.out.2.symm, HS.out.tb.bw⟩
              · rw [if_neg (fun h => g2 h.2)] at HV
                replace HV := Lib.hid HV
                have e0 := HS.out.o0
                have e1 := HS.out.o1
                have e2 := HS.out.o2
                have e3 := HS.out.o3
                have e4 := HS.out.o4
                have e5 := HS.out.tb.c3
                have e6 := HS.out.tb.c4
                go_wp2_with fail
                all_goals
                  go_wp2_with fail
                  (try rw [jump_ret])
                  go_ret2
                  exact ⟨ret_ui HV.out.1.symm HV.out.2.symm, HS.out.tb.bw⟩
            · rw [if_neg (fun h => g1 h.1)] at HV
              replace HV := Lib.hid HV
              have e0 := HS.out.o0
              have e1 := HS.out.o1
              have e2 := HS.out.o2
              have e3 := HS.out.o3
              have e4 := HS.out.o4
              have e5 := HS.out.tb.c3
              have e6 := HS.out.tb.c4
              go_wp2_with fail
              go_wp2_with fail
              (try rw [jump_ret])
              go_ret2
              exact ⟨ret_ui HV.out.1.symm HV.out.2.symm, HS.out.tb.bw⟩
          · rw [if_pos rfl] at HV
            replace HV := Lib.hid HV
            go_wp2_with fail
            go_wp2_with fail
            (try rw [jump_ret])
            go_ret2
            exact ⟨ret_ui HV.out.1.symm HV.out.2.symm, HS.out.tb.bw⟩
        · rw [if_pos rfl] at HV
          replace HV := Lib.hid HV
          go_wp2_with fail
          go_wp2_with fail
          (try rw [jump_ret])
          go_ret2
          exact ⟨ret_ui HV.out.1.symm HV.out.2.symm, HS.out.tb.bw⟩
      · have hE : clE fl na xa nb xb far tall own R V N a r = rlE a r := by unfold clE; rw [if_pos h0, if_pos hx]
        have hV : clV fl na xa nb xb far tall own R V N a r = 0 := by unfold clV; rw [if_neg (by rw [hE]; exact hr)]
        have HV := Lib.hid (And.intro hV hE)
        have K1 := chk18 R V N
        rw [show chk R V N = 0 by unfold chk; rw [if_pos hx]] at K1
        have K1 := Lib.hid K1
        have K2 := relative39 a r
        obtain ⟨z, hz⟩ : ∃ z, z = rlE a r := ⟨_, rfl⟩
        rw [← hz] at hr HV K2
        have K2 := Lib.hid K2
        have hb0 : (z != 0) = true := by simp [hr]
        clear hE hV h0 hck how hx hz
        go_enter Try.func24, Try.ntmps24
        go_wp2_with fail
        obtain ⟨X, hX⟩ : ∃ X, X = (w.alloc (.cells #[.slice F fl.length cf, .slice A na ca, .slice B' nb cb, .int .i64 far, .int .i64 tall] 53)).alloc (.cells #[.int .i64 R, .int .i64 V, .int .i64 N, .int .i64 a, .int .i64 r] 60) := ⟨_, rfl⟩
        rw [← hX] at HS I ⊢
        obtain ⟨p, hp⟩ : ∃ p, p = w.heap.size := ⟨_, rfl⟩
        rw [← hp] at HS ⊢
        clear hX hp
        refine I.out.mono ?_
        rintro e w1 ⟨rfl, hb1⟩
        have HS := Lib.hid (HS.out.on hb1)
        clear hb1 I
        have e0 := HS.out.o0
        have e1 := HS.out.o1
        have e2 := HS.out.o2
        have e3 := HS.out.o3
        have e4 := HS.out.o4

        go_wp2_with fail
        refine (K1.out _).mono ?_
        rintro e w2 ⟨rfl, hw2⟩
        have hb2 : Below w1.heap.size w1 w2 := by rw [← hw2]; exact (Below.refl _ _).alloc (Nat.le_refl _) _
        have HS := Lib.hid (HS.out.on hb2)
        clear hb2 hw2 K1
        have e0 := HS.out.o0
        have e1 := HS.out.o1
        have e2 := HS.out.o2
        have e3 := HS.out.o3
        have e4 := HS.out.o4

        go_wp2_with fail
        refine (K2.out _).mono ?_
        rintro e w3 ⟨rfl, hw3⟩
        have hb3 : Below w2.heap.size w2 w3 := by rw [← hw3]; exact Below.refl _ _
        have HS := Lib.hid (HS.out.on hb3)
        clear hb3 hw3 K2 e0 e1 e2 e3 e4
        have e0 := HS.out.o0
        have e1 := HS.out.o1
        have e2 := HS.out.o2
        have e3 := HS.out.o3
        have e4 := HS.out.o4

        go_wp2_with fail
        (try rw [jump_ret])
        go_ret2
        exact ⟨ret_ui HV.out.1.symm HV.out.2.symm, HS.out.tb.bw⟩
    · have hE : clE fl na xa nb xb far tall own R V N a r = 1 := by unfold clE; rw [if_pos h0, if_neg hx]
      have hV : clV fl na xa nb xb far tall own R V N a r = 0 := by unfold clV; rw [if_neg (by rw [hE]; decide)]
      have HV := Lib.hid (And.intro hV hE)
      have K1 := chk18 R V N
      rw [show chk R V N = 1 by unfold chk; rw [if_neg hx]] at K1
      have K1 := Lib.hid K1
      clear hE hV h0 hck how hx
      go_enter Try.func24, Try.ntmps24
      go_wp2_with fail
      obtain ⟨X, hX⟩ : ∃ X, X = (w.alloc (.cells #[.slice F fl.length cf, .slice A na ca, .slice B' nb cb, .int .i64 far, .int .i64 tall] 53)).alloc (.cells #[.int .i64 R, .int .i64 V, .int .i64 N, .int .i64 a, .int .i64 r] 60) := ⟨_, rfl⟩
      rw [← hX] at HS I ⊢
      obtain ⟨p, hp⟩ : ∃ p, p = w.heap.size := ⟨_, rfl⟩
      rw [← hp] at HS ⊢
      clear hX hp
      refine I.out.mono ?_
      rintro e w1 ⟨rfl, hb1⟩
      have HS := Lib.hid (HS.out.on hb1)
      clear hb1 I
      have e0 := HS.out.o0
      have e1 := HS.out.o1
      have e2 := HS.out.o2
      have e3 := HS.out.o3
      have e4 := HS.out.o4

      go_wp2_with fail
      refine (K1.out _).mono ?_
      rintro e w2 ⟨rfl, hw2⟩
      have hb2 : Below w1.heap.size w1 w2 := by rw [← hw2]; exact (Below.refl _ _).alloc (Nat.le_refl _) _
      have HS := Lib.hid (HS.out.on hb2)
      clear hb2 hw2 K1
      have e0 := HS.out.o0
      have e1 := HS.out.o1
      have e2 := HS.out.o2
      have e3 := HS.out.o3
      have e4 := HS.out.o4

      go_wp2_with fail
      (try rw [jump_ret])
      go_ret2
      exact ⟨ret_ui HV.out.1.symm HV.out.2.symm, HS.out.tb.bw⟩
  · have hE : clE fl na xa nb xb far tall own R V N a r = ixE fl na xa nb xb far tall own := by unfold clE; rw [if_neg h0]
    have hV : clV fl na xa nb xb far tall own R V N a r = 0 := by unfold clV; rw [if_neg (by rw [hE]; exact h0)]
    have HV := Lib.hid (And.intro hV hE)
    obtain ⟨z, hz⟩ : ∃ z, z = ixE fl na xa nb xb far tall own := ⟨_, rfl⟩
    rw [show ixV fl na xa nb xb far tall own = 0 by unfold ixV; rw [if_neg h0]] at I
    rw [← hz] at h0 HV I
    have I := Lib.hid I
    have hb0 : (z != 0) = true := by simp [h0]
    clear hE hV hz
    go_enter Try.func24, Try.ntmps24
    go_wp2_with fail
    obtain ⟨X, hX⟩ : ∃ X, X = (w.alloc (.cells #[.slice F fl.length cf, .slice A na ca, .slice B' nb cb, .int .i64 far, .int .i64 tall] 53)).alloc (.cells #[.int .i64 R, .int .i64 V, .int .i64 N, .int .i64 a, .int .i64 r] 60) := ⟨_, rfl⟩
    rw [← hX] at HS I ⊢
    obtain ⟨p, hp⟩ : ∃ p, p = w.heap.size := ⟨_, rfl⟩
    rw [← hp] at HS ⊢
    clear hX hp
    refine I.out.mono ?_
    rintro e w1 ⟨rfl, hb1⟩
    have HS := Lib.hid (HS.out.on hb1)
    clear hb1 I

    go_wp2_with fail
    (try rw [jump_ret])
    go_ret2
    exact ⟨ret_ui HV.out.1.symm HV.out.2.symm, HS.out.tb.bw⟩
end Go.Proofs.Ytbonniladhablaa
