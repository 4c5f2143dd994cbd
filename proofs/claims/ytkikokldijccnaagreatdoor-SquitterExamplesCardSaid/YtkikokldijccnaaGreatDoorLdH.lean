/- squitter: the law Examples. -/
import Derived.Test.YtkikokldijccnaaGreatDoorRows
import Derived.WalkKit
import Derived.WalkLawsBesides
import Derived.WalkSpells
import Derived.ProofKit
import Derived.Below
import Derived.Outline
import Derived.Lib.Hide
import Derived.Deep.RegionWith
import Derived.Deep.RegionHeld3
import Derived.Deep.DrawnRows
import Derived.StillTailTactics
import Derived.BigQuiet
import Derived.Deep.QuietTactic
import Derived.Deep.LoopGhost
import Derived.IntWalk
import Derived.Laws.BytesArg
import Derived.Deep.OwnRows
import Derived.Test.YtkikokldijccnaaGreatDoorLdF
import Derived.Test.YtkikokldijccnaaGreatDoorSqZ
import Derived.Test.YtkikokldijccnaaGreatDoorSqAw
namespace Go.Proofs.YtkikokldijccnaaGreatDoor
open Go.RowKit Go.Maps
attribute [local go_sem ↓] Go.wp_at_zero Go.wp_at_succ
attribute [local go_sem] wrap_lit

theorem make_zero (w : World) (n : Nat) (hn : n ≤ 1000000) : ∃ M, Sem.run Tryz.prog (Instr.makeSlice 40 (.int .i64 (n : Int)) (.int .i64 (n : Int))) w = .ok (.slice (some ⟨w.heap.size, 0, none⟩) n n) M ∧ Below w.heap.size w M ∧ ∀ i, i < n → M.cell? ⟨w.heap.size, i, none⟩ = some (.int .u8 0) :=
  ⟨_, run_make_row' (P := Tryz.prog) 40 5 (.int .u8 0) 1 Tryz.underlying40 (by kernel_rfl) rfl .i64 .i64 n (by omega) (by omega) w, below_alloc1 w _, fun i hi => by
    rw [cellOf (heap_alloc_new w _)]
    simp [madeCells, hi, Nat.mod_one]⟩
theorem conv_zero {w : World} {b n : Nat} (hc : ∀ i, i < n → w.cell? ⟨b, i, none⟩ = some (.int .u8 0)) : ∃ l : Tx, l.length = n ∧ (convert 40 9 (.slice (some ⟨b, 0, none⟩) n n)).run Tryz.prog w = .ok (.string (S l)) w := by
  have h := run_convert_bytes_arg (P := Tryz.prog) w 40 5 Tryz.underlying40 Tryz.underlying5 b 0 n n (List.replicate n 0) (by simp) (fun i hi => by rw [Nat.zero_add, hc i hi]; simp [List.getD_eq_getElem?_getD, hi]) 9 Tryz.underlying9
  exact ⟨(List.replicate n (0 : Int)).map (fun (z : Int) => UInt8.ofNat z.toNat), by simp, h⟩
theorem qt_nil : (({ data := #[] } : ByteArray) ++ { data := #[] }).toList = [] := by decide +kernel
def isStr : Value → Bool
  | .string _ => true
  | _ => false
theorem strs_at {cs : Array Value} (h : (cs.toList.all isStr) = true) {n : Nat} (hn : n < cs.size) : ∃ l : Tx, cs[n]? = some (.string (S l)) := by
  have h1 : cs[n]? = some cs[n] := Array.getElem?_eq_getElem hn
  have h2 := List.all_eq_true.1 h cs[n] (by simp)
  cases hv : cs[n] with
  | string s => exact ⟨s.data.toList, by rw [h1, hv, S_data]⟩
  | _ => rw [hv] at h2; cases h2
/-- one table of the call's own -/
structure S1 (B : Nat) (w0 w : World) (H : Nat) (t : Ts) : Prop where
  ok : Ok t
  tab : ∃ O, TabO w H t O ∧ ∀ k, O k → B ≤ k
  bel : Below B w0 w
  hB : B ≤ w.heap.size
theorem S1.below {B : Nat} {w0 w w' : World} {H : Nat} {t : Ts} (h : S1 B w0 w H t) (hb : Below w.heap.size w w') : S1 B w0 w' H t :=
  ⟨h.ok, by obtain ⟨O, h1, h2⟩ := h.tab; exact ⟨O, h1.below hb, h2⟩, h.bel.trans (hb.mono h.hB), Nat.le_trans h.hB hb.size⟩
theorem heardS {B : Nat} {w0 w : World} {H : Nat} {t : Ts} (h : S1 B w0 w H t) (a s : Int) : Calls Tryz.prog 6 #[.pointer (some ⟨H, 0, none⟩), .int .i64 a, .int .i64 s] w fun e w' => e = .returned (.int .i64 (hearE t a s)) ∧ S1 B w0 w' H (hearT t a s) := by
  obtain ⟨O, ⟨mb, bk, gk, hT⟩, hO⟩ := h.tab
  refine (heard25 h.ok a s hT).mono ?_
  rintro e w' ⟨rfl, O', h1, h2, -, h4⟩
  exact ⟨rfl, h.ok.hear a s, ⟨O', h1, fun k hk => (h4 k hk).elim (hO k) (Nat.le_trans h.hB)⟩, Turn.below h.bel h.hB h2 hO, Nat.le_trans h.hB h2.size⟩
theorem tickS {B : Nat} {w0 w : World} {H : Nat} {t : Ts} (h : S1 B w0 w H t) (s : Int) : Calls Tryz.prog 8 #[.pointer (some ⟨H, 0, none⟩), .int .i64 s] w fun e w' => e = .returned (.int .i64 (tickE t s)) ∧ S1 B w0 w' H (tickT t s) := by
  obtain ⟨O, ⟨mb, bk, gk, hT⟩, hO⟩ := h.tab
  refine (tick26 h.ok s hT).mono ?_
  rintro e w' ⟨rfl, h1, h2⟩
  exact ⟨rfl, h.ok.tick s, ⟨O, ⟨_, _, _, h1⟩, hO⟩, Turn.below h.bel h.hB h2 hO, Nat.le_trans h.hB h2.size⟩
theorem knownS {B : Nat} {w0 w : World} {H : Nat} {t : Ts} (h : S1 B w0 w H t) : Calls Tryz.prog 7 #[.pointer (some ⟨H, 0, none⟩)] w fun e w' => (∃ A cap, e = .returned (.slice A (addrsT t true).length cap)) ∧ S1 B w0 w' H t := by
  obtain ⟨O, ⟨mb, bk, gk, hT⟩, hO⟩ := h.tab
  refine (known15 h.ok hT).mono ?_
  rintro e w' ⟨A, cap, rfl, -, -, hb⟩
  exact ⟨⟨A, cap, rfl⟩, h.below hb⟩
/-! ### the examples in plain Lean -/
def vX : List Int := [0, 1, 1, 1, 9, 9, 9, 1, 8, 7, 9, 1, 8, 65, 65, 1, 1, 2, 1, 1, 1, 1, 1025, 1, 1, 1, 1, 0, 8, 64, 1024, 0]
theorem vX_ok : ∀ n, n < 8 → newE (nth vX (n * 4)) (nth vX (n * 4 + 1)) (nth vX (n * 4 + 2)) = nth vX (n * 4 + 3) := by decide +kernel
theorem vX_cell : ∀ j, j < 32 → ((vX.map (Value.int .i64)).toArray)[j]? = some (.int .i64 (nth vX j)) := fun j hj => by
  have h : j < vX.length := hj
  simp [nth, List.getD_eq_getElem?_getD, h]
def tX : Nat → Ts
  | 0 => ⟨1, 1, 2, 0, []⟩
  | n + 1 => hearT (tX n) (3 * (n : Int)) 0
def runX : Nat → Nat → Ts → Bool
  | 0, _, _ => true
  | k + 1, n, t => (hearE t (3 * (n : Int)) 0 == 0) && runX k (n + 1) (hearT t (3 * (n : Int)) 0)
theorem runX_at : ∀ (k n : Nat), runX k n (tX n) = true → ∀ j, j < k → hearE (tX (n + j)) (3 * ((n + j : Nat) : Int)) 0 = 0
  | 0, _, _, j, hj => absurd hj (Nat.not_lt_zero _)
  | k + 1, n, h, j, hj => by
    unfold runX at h
    rw [Bool.and_eq_true] at h
    cases j with
    | zero => simpa using h.1
    | succ j =>
      have := runX_at k (n + 1) h.2 j (by omega)
      rw [show n + 1 + j = n + (j + 1) by omega] at this
      exact this
theorem tX_ok (n : Nat) (h : n < 64) : hearE (tX n) (3 * (n : Int)) 0 = 0 := by
  have := runX_at 64 0 (by decide +kernel) n h
  rw [Nat.zero_add] at this
  exact this
def y1 : Ts := hearT (tX 64) 1 0
def y2 : Ts := hearT y1 189 0
def y3 : Ts := hearT y2 1 1
def y4 : Ts := hearT y3 1 2
def y5 : Ts := hearT y4 (-1) 9
def y6 : Ts := hearT y5 16777216 9
def y7 : Ts := hearT y6 1 1073741825
def y8 : Ts := tickT y7 (-1)
def y9 : Ts := tickT y8 1
theorem e1 : hearE (tX 64) 1 0 = 17 := by decide +kernel
theorem e2 : hearE y1 189 0 = 0 := by decide +kernel
theorem e3 : hearE y2 1 1 = 17 := by decide +kernel
theorem e4 : hearE y3 1 2 = 0 := by decide +kernel
theorem e4k : (addrsT y4 true).length = 1 := by decide +kernel
theorem e5 : hearE y4 (-1) 9 = 1 := by decide +kernel
theorem e6 : hearE y5 16777216 9 = 1 := by decide +kernel
theorem e7 : hearE y6 1 1073741825 = 1 := by decide +kernel
theorem e8 : tickE y7 (-1) = 1 := by decide +kernel
theorem e9 : tickE y8 1 = 12 := by decide +kernel
theorem e10 : tickE y9 1073741825 = 1 := by decide +kernel

set_option maxRecDepth 100000 in
set_option maxHeartbeats 8000000 in
theorem examples3 {K : Nat} {w : World} (E : LEnv K w) (hK : K ≤ w.heap.size) : Calls Tryz.prog 3 #[] w fun e w' => e = .returned (.bool true) ∧ Below w.heap.size w w' := by
  have HE := Lib.hid E
  clear E
  have np : ∀ (H : Nat) (w : World), Sem.run Tryz.prog (binOp BinOp.eql 27 (Value.pointer (some ⟨H, 0, none⟩)) (Value.pointer none)) w = .ok (.bool false) w := fun H w => by kernel_rfl
  have nz : ∀ (w : World), Sem.run Tryz.prog (binOp BinOp.eql 27 (Value.pointer none) (Value.pointer none)) w = .ok (.bool true) w := fun w => by kernel_rfl
  go_enter Tryz.func3, Tryz.ntmps3
  go_wp2_with fail
  refine (awake10 HE.out.env hK).mono ?_
  rintro e w1 ⟨rfl, hb1⟩
  have HB1 := Lib.hid hb1
  have s1 := hb1.size
  clear hb1
  go_wp2_with fail
  refine name_world ?_
  intro W hW
  have hcs : W.heap[w1.heap.size]? = some (.cells ((vX.map (Value.int .i64)).toArray) 25 (0, 0)) := by rw [hW]; exact heap_alloc_new w1 _
  have HCS := Lib.hid hcs
  have hWb : Below w1.heap.size w1 W := by rw [hW]; exact below_alloc1 w1 _
  have HWB := Lib.hid (HB1.out.trans (hWb.mono s1))
  have sW := hWb.size
  have lW := heap_lt hcs
  clear hW hcs hWb
  go_loopw [2, 3, 4, 49] (fun _ _ _ ii wr => ∃ n : Nat, n ≤ 8 ∧ ii = .int .i64 n ∧ Below W.heap.size W wr) (fun _ _ _ ii _ => 8 - (intOf ii).toNat)
  case atStart => exact ⟨0, by omega, rfl, Below.refl _ _⟩
  case round =>
    obtain ⟨n, hn, rfl, hbr⟩ := hrel
    have HBR := Lib.hid hbr
    have hsr := hbr.size
    clear hbr
    by_cases hlt : n < 8
    · have hltI : (n : Int) < 8 := by omega
      have hcell : ∀ j, j < 32 → wr.cell? ⟨w1.heap.size, j, none⟩ = some (.int .i64 (nth vX j)) := fun j hj => (HBR.out.cell (p := ⟨w1.heap.size, j, none⟩) lW).trans ((cellOf HCS.out).trans (vX_cell j hj))
      have c0 := hcell (n * 4) (by omega)
      have c1 := hcell (n * 4 + 1) (by omega)
      have c2 := hcell (n * 4 + 2) (by omega)
      have c3 := hcell (n * 4 + 3) (by omega)
      have hnew := vX_ok n hlt
      obtain ⟨p0, h0⟩ : ∃ p, p = nth vX (n * 4) := ⟨_, rfl⟩
      obtain ⟨p1, h1⟩ : ∃ p, p = nth vX (n * 4 + 1) := ⟨_, rfl⟩
      obtain ⟨p2, h2⟩ : ∃ p, p = nth vX (n * 4 + 2) := ⟨_, rfl⟩
      obtain ⟨pe, he⟩ : ∃ p, p = nth vX (n * 4 + 3) := ⟨_, rfl⟩
      rw [← h0, ← h1, ← h2, ← he] at hnew
      rw [← h0] at c0
      rw [← h1] at c1
      rw [← h2] at c2
      rw [← he] at c3
      have HNEW := Lib.hid hnew
      clear hcell h0 h1 h2 he hnew
      go_wp2_with fail
      obtain ⟨Z, hZ⟩ : ∃ Z, Z = wr.alloc (.cells #[.int .i64 p0, .int .i64 p1, .int .i64 p2, .int .i64 pe] 25) := ⟨_, rfl⟩
      rw [← hZ]
      have zc : Z.cell? ⟨wr.heap.size, 3, none⟩ = some (.int .i64 pe) := by rw [hZ]; exact cellOf (heap_alloc_new wr _)
      have zb : Below wr.heap.size wr Z := by rw [hZ]; exact below_alloc1 wr _
      have zl : wr.heap.size < Z.heap.size := by rw [hZ, size_alloc]; exact Nat.lt_succ_self _
      clear hZ
      refine (new8 p0 p1 p2 Z).mono ?_
      rintro e v0 (⟨h0, H1, mb1, bk1, gk1, O1, rfl, -, -, b1⟩ | ⟨h1, rfl, hw⟩)
      · have hpe : pe = 0 := HNEW.out.symm.trans h0
        have zc2 : v0.cell? ⟨wr.heap.size, 3, none⟩ = some (.int .i64 0) := (b1.cell (p := ⟨wr.heap.size, 3, none⟩) zl).trans (by rw [zc, hpe])
        have HBV := Lib.hid (HBR.out.trans ((zb.trans (b1.mono (by omega))).mono hsr))
        clear hpe h0 b1 zb zc c0 c1 c2 c3
        go_wp2_with fail
        exact ⟨⟨n + 1, by omega, by go_num, HBV.out⟩, by simp [intOf]; omega⟩
      · have hpe : pe = 1 := HNEW.out.symm.trans h1
        rw [hw]
        have zc2 : Z.cell? ⟨wr.heap.size, 3, none⟩ = some (.int .i64 1) := by rw [zc, hpe]
        have HBV := Lib.hid (HBR.out.trans (zb.mono hsr))
        clear hpe h1 hw zb zc c0 c1 c2 c3
        go_wp2_with fail
        exact ⟨⟨n + 1, by omega, by go_num, HBV.out⟩, by simp [intOf]; omega⟩
    · obtain rfl : n = 8 := by omega
      have HBW := Lib.hid (HWB.out.trans (HBR.out.mono (by omega)))
      clear hlt hn
      rw [show ((8 : Nat) : Int) = 8 from rfl]
      go_wp2_with fail
      refine (new8 1 1 2 wr).mono ?_
      rintro e v0 (⟨-, H1, mb1, bk1, gk1, O1, rfl, T1, n1, b1⟩ | ⟨hh, -, -⟩)
      rotate_left
      · exact absurd hh (by decide)
      have SS : Hid (S1 w.heap.size w v0 H1 (tX 0)) := Lib.hid ⟨Ok.new (by decide), ⟨O1, ⟨_, _, _, T1⟩, fun k hk => Nat.le_trans HBW.out.size (n1 k hk)⟩, HBW.out.trans (b1.mono HBW.out.size), Nat.le_trans HBW.out.size b1.size⟩
      clear T1 n1 b1 HBW HBR HWB HCS HB1
      go_wp2_with fail
      go_loopw [7] (fun ii wq => ∃ n : Nat, n ≤ 64 ∧ ii = .int .i64 n ∧ Hid (S1 w.heap.size w wq H1 (tX n))) (fun ii _ => 64 - (intOf ii).toNat)
      case atStart => exact ⟨0, by omega, rfl, SS⟩
      case round =>
        clear SS
        obtain ⟨n, hn, rfl, SS⟩ := hrel
        by_cases hlt : n < 64
        · have hltI : (n : Int) < 64 := by omega
          have HT := Lib.hid (tX_ok n hlt)
          go_wp2_with fail
          refine (heardS SS.out (3 * (n : Int)) 0).mono ?_
          rintro e v1 ⟨rfl, hS⟩
          rw [HT.out]
          go_wp2_with fail
          exact ⟨⟨n + 1, by omega, by go_num, Lib.hid hS⟩, by simp [intOf]; omega⟩
        · obtain rfl : n = 64 := by omega
          clear hlt hn
          rw [show ((64 : Nat) : Int) = 64 from rfl]
          go_wp2_with fail
          refine (heardS SS.out 1 0).mono ?_
          rintro e v1 ⟨rfl, hS⟩
          rw [e1]
          have SS : Hid (S1 w.heap.size w v1 H1 y1) := Lib.hid hS
          clear hS
          go_wp2_with fail
          refine (heardS SS.out 189 0).mono ?_
          rintro e v2 ⟨rfl, hS⟩
          rw [e2]
          have SS : Hid (S1 w.heap.size w v2 H1 y2) := Lib.hid hS
          clear hS
          go_wp2_with fail
          refine (heardS SS.out 1 1).mono ?_
          rintro e v3 ⟨rfl, hS⟩
          rw [e3]
          have SS : Hid (S1 w.heap.size w v3 H1 y3) := Lib.hid hS
          clear hS
          go_wp2_with fail
          refine (heardS SS.out 1 2).mono ?_
          rintro e v4 ⟨rfl, hS⟩
          rw [e4]
          have SS : Hid (S1 w.heap.size w v4 H1 y4) := Lib.hid hS
          clear hS
          go_wp2_with fail
          refine (knownS SS.out).mono ?_
          rintro e v5 ⟨⟨Ak, ck, rfl⟩, hS⟩
          rw [e4k]
          have SS := Lib.hid hS
          clear hS
          go_wp2_with fail
          refine (heardS SS.out (-1) 9).mono ?_
          rintro e v6 ⟨rfl, hS⟩
          rw [e5]
          have SS : Hid (S1 w.heap.size w v6 H1 y5) := Lib.hid hS
          clear hS
          go_wp2_with fail
          refine (heardS SS.out 16777216 9).mono ?_
          rintro e v7 ⟨rfl, hS⟩
          rw [e6]
          have SS : Hid (S1 w.heap.size w v7 H1 y6) := Lib.hid hS
          clear hS
          go_wp2_with fail
          refine (heardS SS.out 1 1073741825).mono ?_
          rintro e v8 ⟨rfl, hS⟩
          rw [e7]
          have SS : Hid (S1 w.heap.size w v8 H1 y7) := Lib.hid hS
          clear hS
          go_wp2_with fail
          refine (tickS SS.out (-1)).mono ?_
          rintro e v9 ⟨rfl, hS⟩
          rw [e8]
          have SS : Hid (S1 w.heap.size w v9 H1 y8) := Lib.hid hS
          clear hS
          go_wp2_with fail
          refine (tickS SS.out 1).mono ?_
          rintro e v10 ⟨rfl, hS⟩
          rw [e9]
          have SS : Hid (S1 w.heap.size w v10 H1 y9) := Lib.hid hS
          clear hS
          go_wp2_with fail
          refine (tickS SS.out 1073741825).mono ?_
          rintro e v11 ⟨rfl, hS⟩
          rw [e10]
          have HB := Lib.hid hS.bel
          have sB := hS.hB
          clear hS SS
          go_wp2_with fail
          obtain ⟨z0, hz0⟩ : ∃ z0, z0 = v11.alloc (.cells #[.int .i64 0, .int .i64 0, .int .i64 0, .int .i64 0, .map none] 36) := ⟨_, rfl⟩
          rw [← hz0]
          have c4 : z0.cell? ⟨v11.heap.size, 4, none⟩ = some (.map none) := by rw [hz0]; exact cellOf (heap_alloc_new v11 _)
          have HBZ : Hid (Below w.heap.size w z0) := Lib.hid (by rw [hz0]; exact HB.out.trans ((below_alloc1 v11 _).mono sB))
          have zl : v11.heap.size < z0.heap.size := by rw [hz0, size_alloc]; exact Nat.lt_succ_self _
          obtain ⟨zb, hzb⟩ : ∃ zb, zb = v11.heap.size := ⟨_, rfl⟩
          rw [← hzb] at c4 zl ⊢
          clear hz0 HB sB hzb
          refine (heard25n (-1) 0).mono ?_
          rintro e z1 ⟨rfl, hb⟩
          have c41 : z1.cell? ⟨zb, 4, none⟩ = some (.map none) := (hb.cell (p := ⟨zb, 4, none⟩) zl).trans c4
          have zl1 : zb < z1.heap.size := Nat.lt_of_lt_of_le zl hb.size
          have HB1 := Lib.hid (HBZ.out.trans (hb.mono HBZ.out.size))
          clear hb c4 zl HBZ
          go_wp2_with fail
          refine (heard25z zl1 c41 1 1).mono ?_
          rintro e z2 ⟨rfl, hb⟩
          have c42 : z2.cell? ⟨zb, 4, none⟩ = some (.map none) := (hb.cell (p := ⟨zb, 4, none⟩) zl1).trans c41
          have zl2 : zb < z2.heap.size := Nat.lt_of_lt_of_le zl1 hb.size
          have HB2 := Lib.hid (HB1.out.trans (hb.mono HB1.out.size))
          clear hb c41 zl1 HB1
          go_wp2_with fail
          refine (tick26n (-1)).mono ?_
          rintro e zz ⟨rfl, hw⟩
          rw [hw]
          clear hw zz
          go_wp2_with fail
          refine (tick26z 0 c42).mono ?_
          rintro e zz ⟨rfl, hw⟩
          rw [hw]
          clear hw zz
          go_wp2_with fail
          refine (now14n).mono ?_
          rintro e zz ⟨rfl, hw⟩
          rw [hw]
          clear hw zz
          go_wp2_with fail
          refine (now14z c42).mono ?_
          rintro e zz ⟨rfl, hw⟩
          rw [hw]
          clear hw zz
          go_wp2_with fail
          refine (known15n).mono ?_
          rintro e zz ⟨rfl, hw⟩
          rw [hw]
          clear hw zz
          go_wp2_with fail
          refine (known15z zl2 c42).mono ?_
          rintro e zz ⟨rfl, hw⟩
          rw [hw]
          clear hw zz
          go_wp2_with fail
          refine (pend16n).mono ?_
          rintro e zz ⟨rfl, hw⟩
          rw [hw]
          clear hw zz
          go_wp2_with fail
          refine (pend16z zl2 c42).mono ?_
          rintro e zz ⟨rfl, hw⟩
          rw [hw]
          clear hw zz
          go_wp2_with fail
          refine (save20n).mono ?_
          rintro e zz ⟨rfl, hw⟩
          rw [hw]
          clear hw zz
          go_wp2_with fail
          refine (save20z c42).mono ?_
          rintro e zz ⟨rfl, hw⟩
          rw [hw]
          clear hw zz
          have qt := qt_nil
          have qs : (!(({ data := #[] } : ByteArray) ++ { data := #[] }).toList.isEmpty) = false := by rw [qt]; rfl
          obtain ⟨M, hmk0, hbM, hcM⟩ := make_zero z2 65537 (by omega)
          have hmk : Sem.run Tryz.prog (Instr.makeSlice 40 (.int .i64 65537) (.int .i64 65537)) z2 = .ok (.slice (some ⟨z2.heap.size, 0, none⟩) 65537 65537) M := hmk0
          obtain ⟨l, hll, hcv⟩ := conv_zero hcM
          have HBM := Lib.hid (HB2.out.trans (hbM.mono HB2.out.size))
          clear hmk0 hbM hcM c42 zl2
          go_wp2_with fail
          refine (load_long l (by omega) M).mono ?_
          rintro e v12 ⟨rfl, hb⟩
          have HBL := Lib.hid (HBM.out.trans (hb.mono HBM.out.size))
          clear hb HBM HB2 hmk hcv qs qt
          go_wp2_with fail
          refine name_world ?_
          intro W3 hW3
          have h3b : Below v12.heap.size v12 W3 := by rw [hW3]; exact below_alloc1 v12 _
          obtain ⟨cs, hcs, hall, hsz⟩ : ∃ cs : Array Value, W3.heap[v12.heap.size]? = some (.cells cs 9 (0, 0)) ∧ (cs.toList.all isStr) = true ∧ cs.size = 23 := ⟨_, by rw [hW3]; exact heap_alloc_new v12 _, rfl, rfl⟩
          have HST := Lib.hid (fun (n : Nat) (hn : n < 23) => strs_at hall (n := n) (by omega))
          have HC3 := Lib.hid hcs
          have HB3 := Lib.hid (HBL.out.trans (h3b.mono HBL.out.size))
          have l3 := heap_lt hcs
          clear hW3 h3b hcs hall hsz HBL
          go_loopw [24, 178] (fun _ ii wr => ∃ n : Nat, n ≤ 23 ∧ ii = .int .i64 n ∧ Below W3.heap.size W3 wr) (fun _ ii _ => 23 - (intOf ii).toNat)
          case atStart => exact ⟨0, by omega, rfl, Below.refl _ _⟩
          case round =>
            obtain ⟨n, hn, rfl, hbr⟩ := hrel
            have HBR := Lib.hid hbr
            have hsr := hbr.size
            clear hbr
            by_cases hlt : n < 23
            · have hltI : (n : Int) < 23 := by omega
              obtain ⟨x, hx⟩ := HST.out n hlt
              have cx := (HBR.out.cell (p := ⟨v12.heap.size, n, none⟩) l3).trans ((cellOf HC3.out).trans hx)
              have HBW := Lib.hid (HB3.out.trans (HBR.out.mono HB3.out.size))
              clear hx
              go_wp2_with fail
              refine (loads7 x (HE.out.below (HBW.out.mono hK)) (Nat.le_trans hK HBW.out.size)).mono ?_
              rintro e v13 ⟨rfl, hb⟩
              have HBN := Lib.hid (HBR.out.trans (hb.mono hsr))
              clear hb cx
              go_wp2_with fail
              exact ⟨⟨n + 1, by omega, by go_num, HBN.out⟩, by simp [intOf]; omega⟩
            · obtain rfl : n = 23 := by omega
              have HBW := Lib.hid (HB3.out.trans (HBR.out.mono HB3.out.size))
              clear hlt hn
              rw [show ((23 : Nat) : Int) = 23 from rfl]
              go_wp2_with fail
              go_ret
              exact ⟨rfl, HBW.out⟩
end Go.Proofs.YtkikokldijccnaaGreatDoor
