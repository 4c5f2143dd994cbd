/- Package fruit: the iterator of the pairs, and the matching of valid sweeps. -/
import Derived.RangeFuncNested
import Derived.RangeFuncBound
import Derived.RangeFuncCalls
import Derived.RangeFuncLeaves
import Derived.RangeFuncBox
import Derived.Shelf.Abstract
import Derived.Shelf.RegionOpen
import Derived.OwnWalkIn
import Derived.TacticsInMore
import Derived.LoopNIn
import Derived.LoopIn
import Derived.Maps.AppendAt
import Derived.Sort.QuietIn
import Derived.Test.YtmkpblfacnnnoaaFrA
namespace Go.Proofs.Ytmkpblfacnnnoaa
open Go.RowKit Go.Shelf
attribute [local go_sem] Oper.semAt_some

theorem wide_fn (f : FuncId) : Fence.wide.fn f = True := rfl
attribute [local go_sem] wide_fn
def bx (u : Int) : Value := .func (.func 36) #[.int .i64 u] #[]
theorem pairs37 (A A' : Option Addr) (n n' cap cap' : Nat) (u : Int) (w : World) :
    Calls Try.prog 37 #[.slice A n cap, .slice A' n' cap', bx u] w fun e w' => e = .returned (.func (.func 39) #[] #[.pointer (some ⟨w.heap.size, 0, none⟩), .pointer (some ⟨w.heap.size + 1, 0, none⟩), .pointer (some ⟨w.heap.size + 1 + 1, 0, none⟩)]) ∧
      ((w.alloc (.cells #[.slice A n cap] 22)).alloc (.cells #[.slice A' n' cap'] 22)).alloc (.cells #[bx u] 59) = w' := by
  unfold bx
  go_enter Try.func37, Try.ntmps37
  go_wp2_with fail
  go_ret
  exact ⟨rfl, rfl⟩

/-- What a round keeps: what lay below n0, and the three boxes from Bn on. -/
def KpB (n0 Bn : Nat) (W W' : World) : Prop := Below n0 W W' ∧ ∀ g, Bn ≤ g → g < Bn + 3 → W'.heap[g]? = W.heap[g]?
theorem KpB.t {n0 Bn : Nat} {A B C : World} (h : KpB n0 Bn A B) (k : KpB n0 Bn B C) : KpB n0 Bn A C := ⟨h.1.trans k.1, fun g a b => (k.2 g a b).trans (h.2 g a b)⟩
theorem KpB.b {n0 Bn : Nat} {w : World} (hn : n0 ≤ w.heap.size) (hb : Bn + 3 ≤ w.heap.size) (W : World) (l : Nat) (o o' : Obj) (hl : w.heap.size ≤ l) (h : W.heap[l]? = some o) (h1 : o.isCells = false) (h2 : o.isWalk = false) : KpB n0 Bn W (W.putObj l o') :=
  ⟨belowK_b hn W l o o' hl h h1 h2, fun g _ hg => World.putObj_heap_other (by omega)⟩

def encP (p : Nat × Nat) : Array Value := #[.agg #[.int .i64 (p.1 : Int), .int .i64 (p.2 : Int)]]
theorem J_drewN {β : Type} {B : Nat} {J : β → World → Prop} (hJ : AbidesFrom B J) {s : β} {W : World} (h : J s W) (n : Nat) : J s (W.drewN n) :=
  hJ s W _ none h ⟨rfl, rfl, rfl, Nat.le_refl _, fun _ _ _ => rfl⟩ (fun r e => by cases e)
theorem Is.drewN {k : IntKind} {w : World} {B : Nat} {A : Option Addr} {xs : List Int} (h : Is k w B A xs) (n : Nat) : Is k (w.drewN n) B A xs := h

set_option maxRecDepth 100000 in
set_option maxHeartbeats 2000000 in
theorem pairs1_in (n : Nat) (hn : 1 ≤ n) (l Bn n0 : Nat) (A A' : Option Addr) (cap cap' : Nat) (a b : List Int) (u : Int) (ha : okTo a a.length = true) (hb : okTo b b.length = true) (hla : a.length ≤ 64) (hlb : b.length ≤ 64)
    (J Jx : List (Nat × Nat) → World → Prop) (B0 : Nat) (hJ : AbidesFrom B0 J)
    (hY : ∀ pre x W, J pre W → pre.length < (gr u a b 0 0).length → YieldAt Fence.wide (n - 1) Try.prog l (encP x) W fun e W' =>
      (e = .returned (.bool true) ∧ J (pre ++ [x]) W' ∧ KpB n0 Bn W W') ∨ (e = .returned (.bool false) ∧ Jx (pre ++ [x]) W'))
    (W : World) (h1 : Boxed W Bn 22 (.slice A a.length cap)) (h2 : Boxed W (Bn + 1) 22 (.slice A' b.length cap')) (h3 : Boxed W (Bn + 1 + 1) 59 (bx u))
    (hA : Is .i64 W n0 A a) (hA' : Is .i64 W n0 A' b) (h0 : J [] W) :
    CallsIn Fence.wide n Try.prog 39 #[.func (.yield l) #[] #[], .pointer (some ⟨Bn, 0, none⟩), .pointer (some ⟨Bn + 1, 0, none⟩), .pointer (some ⟨Bn + 1 + 1, 0, none⟩)] W fun e W' => (∃ v, e = .returned v) ∧
      ((∃ ys, ys = gr u a b 0 0 ∧ J ys W') ∨ (∃ pre, pre <+: gr u a b 0 0 ∧ Jx pre W')) := by
  unfold bx at h3
  refine callsIn_of_wp Try.func39 rfl trivial ?_ rfl
  simp only [Try.ntmps39, List.size_toArray, List.length_cons, List.length_nil, Nat.reduceAdd, Nat.reduceSub, Array.replicate_succ, Array.replicate_zero, List.push_toArray, List.append_toArray, List.nil_append, List.cons_append]
  gi_wp2
  gi_loopw [5, 6] (fun i j wr => ∃ (x y : Nat) (pre : List (Nat × Nat)), i = .int .i64 x ∧ j = .int .i64 y ∧ x ≤ a.length ∧ y ≤ b.length ∧ gr u a b 0 0 = pre ++ gr u a b x y ∧ J pre wr ∧
      Boxed wr Bn 22 (.slice A a.length cap) ∧ Boxed wr (Bn + 1) 22 (.slice A' b.length cap') ∧ Boxed wr (Bn + 1 + 1) 59 (bx u) ∧ Is .i64 wr n0 A a ∧ Is .i64 wr n0 A' b)
    (fun i j _ => (a.length - (intOf i).toNat) + (b.length - (intOf j).toNat))
  case atStart => exact ⟨0, 0, [], rfl, rfl, Nat.zero_le _, Nat.zero_le _, rfl, h0, h1, h2, h3, hA, hA'⟩
  case round =>
    obtain ⟨x, y, pre, rfl, rfl, hx, hy, hg, hJp, b1, b2, b3, hA, hA'⟩ := hrel
    have HG := Lib.hid hg
    have HJ := Lib.hid hJ
    have HY := Lib.hid hY
    have HP := Lib.hid hJp
    have c1 := b1.cell
    have c2 := b2.cell
    have c3 := b3.cell
    unfold bx at c3
    have K1 := Lib.hid b1
    have K2 := Lib.hid b2
    have K3 := Lib.hid b3
    have KA := Lib.hid hA
    have KA' := Lib.hid hA'
    clear hg hJ hY hJp b1 b2 b3 hA hA' h1 h2 h3 h0
    by_cases hlt : x < a.length
    · have hltI : (x : Int) < (a.length : Int) := by omega
      by_cases hlt' : y < b.length
      · have hltI' : (y : Int) < (b.length : Int) := by omega
        obtain ⟨g1, o1, rfl, hg1, hc1⟩ := KA.out (by omega)
        obtain ⟨g2, o2, rfl, hg2, hc2⟩ := KA'.out (by omega)
        have x1 := hc1 x hlt
        have x2 := hc2 y hlt'
        have bb1 := okTo_pos ha hlt
        have bb2 := (okTo_at ha hlt).2
        have bb3 := okTo_pos hb hlt'
        have bb4 := (okTo_at hb hlt').2
        have p0 : (0 : Int) ≤ (x : Int) := by omega
        have p1 : (0 : Int) ≤ (y : Int) := by omega
        clear hc1 hc2
        have SD := side36 (nth a x) (nth b y) u
        have D0 : 0 ≤ nth a x ∧ nth a x ≤ 1023 := ⟨bb1, bb2⟩
        have D1 : 0 ≤ nth b y ∧ nth b y ≤ 1023 := ⟨bb3, bb4⟩
        by_cases q1 : u < nth a x - nth b y
        · have e : sd u (nth a x) (nth b y) = 1 := by unfold sd; rw [if_pos q1]
          rw [e] at SD
          have T := Lib.hid (fun w => SD w D0 D1)
          have HG' := Lib.hid (HG.out.trans (by rw [gr_great hlt hlt' q1]))
          clear SD e q1 D0 D1
          gi_wp2
          gi_quiet ((gi_at_call 36; exact CallsIn.quiet_of_same (callsIn_wide.2 (flipc (T.out _)))))
          gi_wp2
          exact ⟨⟨x, y + 1, pre, rfl, by go_num, hx, by omega, HG'.out, J_drewN HJ.out HP.out _, K1.out, K2.out, K3.out, KA.out, KA'.out⟩, by simp [intOf]; omega⟩
        · by_cases q2 : u < nth b y - nth a x
          · have e : sd u (nth a x) (nth b y) = -1 := by unfold sd; rw [if_neg q1, if_pos q2]
            rw [e] at SD
            have T := Lib.hid (fun w => SD w D0 D1)
            have HG' := Lib.hid (HG.out.trans (by rw [gr_small hlt hlt' q1 q2]))
            clear SD e q1 q2 D0 D1
            gi_wp2
            gi_quiet ((gi_at_call 36; exact CallsIn.quiet_of_same (callsIn_wide.2 (flipc (T.out _)))))
            gi_wp2
            exact ⟨⟨x + 1, y, pre, by go_num, rfl, by omega, hy, HG'.out, J_drewN HJ.out HP.out _, K1.out, K2.out, K3.out, KA.out, KA'.out⟩, by simp [intOf]; omega⟩
          · have e : sd u (nth a x) (nth b y) = 0 := by unfold sd; rw [if_neg q1, if_neg q2]
            rw [e] at SD
            have T := Lib.hid (fun w => SD w D0 D1)
            have HG' := Lib.hid (HG.out.trans (by rw [gr_pair hlt hlt' q1 q2]))
            have hlen : pre.length < (gr u a b 0 0).length := by rw [HG'.out]; simp
            obtain ⟨fn, tmps, assign, body, hy', hR⟩ := HY.out pre (x, y) (wr.drewN 0) HP.out hlen
            have HR := Lib.hid (HY.out pre (x, y))
            have Hlen := Lib.hid hlen
            clear SD e q1 q2 D0 D1 fn tmps assign body hy' hR hlen
            gi_wp2
            gi_quiet ((gi_at_call 36; exact CallsIn.quiet_of_same (callsIn_wide.2 (flipc (T.out _)))))
            obtain ⟨fn, tmps, assign, body, hy', hR⟩ := HR.out (wr.drewN nq) (J_drewN HJ.out HP.out _) Hlen.out
            unfold encP at hy'
            dsimp only at hy'
            gi_wp2
            refine hR.mono ?_
            rintro e W3 (⟨rfl, hJ3, hk3⟩ | ⟨rfl, hJx3⟩)
            · have b1' := Lib.hid (show Boxed W3 Bn _ _ from (hk3.2 Bn (by omega) (by omega)).trans K1.out)
              have b2' := Lib.hid (show Boxed W3 (Bn + 1) _ _ from (hk3.2 (Bn + 1) (by omega) (by omega)).trans K2.out)
              have b3' := Lib.hid (show Boxed W3 (Bn + 1 + 1) _ _ from (hk3.2 (Bn + 1 + 1) (by omega) (by omega)).trans K3.out)
              have kA := Lib.hid (Is.below (KA.out.drewN nq) hk3.1)
              have kA' := Lib.hid (Is.below (KA'.out.drewN nq) hk3.1)
              have HJ3 := Lib.hid hJ3
              clear hk3 hJ3
              gi_wp2
              exact ⟨⟨x + 1, y + 1, pre ++ [(x, y)], by go_num, by go_num, by omega, by omega, by rw [HG'.out]; simp, HJ3.out, b1'.out, b2'.out, b3'.out, kA.out, kA'.out⟩, by simp [intOf]; omega⟩
            · have HJ3 := Lib.hid hJx3
              clear hJx3
              gi_wp2
              refine bodyPost_ret (results_none rfl _ _ _) rfl ?_
              exact ⟨⟨_, rfl⟩, .inr ⟨pre ++ [(x, y)], ⟨gr u a b (x + 1) (y + 1), by rw [HG'.out]; simp⟩, HJ3.out⟩⟩
      · have HG' := Lib.hid (HG.out.trans (by rw [gr_end (by omega), List.append_nil]))
        gi_wp2
        go_end0
        exact ⟨⟨_, rfl⟩, .inl ⟨_, rfl, by rw [HG'.out]; exact HP.out⟩⟩
    · have HG' := Lib.hid (HG.out.trans (by rw [gr_end (by omega), List.append_nil]))
      gi_wp2
      go_end0
      exact ⟨⟨_, rfl⟩, .inl ⟨_, rfl, by rw [HG'.out]; exact HP.out⟩⟩

theorem pairs_stops (n : Nat) (hn : 1 ≤ n) (Bn n0 : Nat) (A A' : Option Addr) (cap cap' : Nat) (a b : List Int) (u : Int) (ha : okTo a a.length = true) (hb : okTo b b.length = true) (hla : a.length ≤ 64) (hlb : b.length ≤ 64)
    (w : World) (hn0 : n0 ≤ w.heap.size) (h1 : Boxed w Bn 22 (.slice A a.length cap)) (h2 : Boxed w (Bn + 1) 22 (.slice A' b.length cap')) (h3 : Boxed w (Bn + 1 + 1) 59 (bx u))
    (hA : Is .i64 w n0 A a) (hA' : Is .i64 w n0 A' b) :
    SeqStopsK Fence.wide n Try.prog 39 #[.pointer (some ⟨Bn, 0, none⟩), .pointer (some ⟨Bn + 1, 0, none⟩), .pointer (some ⟨Bn + 1 + 1, 0, none⟩)] encP (KpB n0 Bn) (fun ys => ys = gr u a b 0 0) (fun pre => pre <+: gr u a b 0 0) (gr u a b 0 0).length w :=
  fun l J Jx W hW hJ _ hY h0 =>
    pairs1_in n hn l Bn n0 A A' cap cap' a b u ha hb hla hlb J Jx _ hJ hY W ((hW.block Bn h1.lt).trans h1) ((hW.block (Bn + 1) h2.lt).trans h2) ((hW.block (Bn + 1 + 1) h3.lt).trans h3) (hA.below (hW.mono hn0)) (hA'.below (hW.mono hn0)) h0
end Go.Proofs.Ytmkpblfacnnnoaa
