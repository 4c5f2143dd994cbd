/- Run of package ranging, for every input. -/
import Derived.Test.YtephkhaebkajkaaRgV
namespace Go.Proofs.Ytephkhaebkajkaa
open Go.RowKit
attribute [local go_sem ↓] Go.wp_at_zero Go.wp_at_succ
attribute [local go_sem] wrap_lit

theorem run_makeN {P : Program} (t e : TypeId) (i : TypeInfo) (z : Value) (ht : P.underlying t = some (.slice e)) (hi : P.info? e = some i) (hz : i.zero = some z)
    (n : Nat) (hb : i.bytes ≤ 1000) (hn : n ≤ 1000000) (w : World) :
    (Instr.makeSlice t (.int .i64 (n : Int)) (.int .i64 (n : Int))).run P w = .ok (.slice (some ⟨w.heap.size, 0, none⟩) n n) (w.alloc (.cells (madeCells z.cells (n * i.size)) e)) := by
  have h0 : i.bytes * n ≤ 1000 * 1000000 := Nat.mul_le_mul hb hn
  have h1 : (i.bytes : Int) * (n : Int) ≤ 281474976710656 := by
    have h : ((i.bytes * n : Nat) : Int) ≤ 281474976710656 := by omega
    rwa [Int.natCast_mul] at h
  have hr := run_make (P := P) w t e i z ht hi hz .i64 .i64 n n (by omega) (by omega) h1 (by omega)
  simp only [Int.toNat_natCast] at hr
  exact hr

theorem cell_in {w : World} {g : Nat} {cs : Array Value} {T : TypeId} (h : w.heap[g]? = some (.cells cs T (0, 0))) {i : Nat} (hi : i < cs.size) : (∃ u, w.cell? ⟨g, i, none⟩ = some u) ∧ w.frozen? ⟨g, i, none⟩ = false := by
  refine ⟨⟨cs[i], ?_⟩, ?_⟩ <;> simp [World.cell?, World.frozen?, h, hi]
theorem set3 {w : World} {g : Nat} {cs : Array Value} {T : TypeId} {i : Nat} {a b c : Value} (h : w.heap[g]? = some (.cells cs T (0, 0))) :
    (((w.setCell ⟨g, i, none⟩ a).setCell ⟨g, i + 1, none⟩ b).setCell ⟨g, i + 2, none⟩ c).heap[g]? = some (.cells (((cs.setIfInBounds i a).setIfInBounds (i + 1) b).setIfInBounds (i + 2) c) T (0, 0)) := by
  simp [World.setCell, Array.getElem?_modify, h]
theorem far3 {w : World} {g g' : Nat} {i j k : Nat} {a b c : Value} {o : Obj} (h : w.heap[g']? = some o) (hne : g' ≠ g) :
    (((w.setCell ⟨g, i, none⟩ a).setCell ⟨g, j, none⟩ b).setCell ⟨g, k, none⟩ c).heap[g']? = some o := by
  rw [Below.heap_setCell _ _ _ _ hne, Below.heap_setCell _ _ _ _ hne, Below.heap_setCell _ _ _ _ hne]; exact h
theorem outs_set (l : List Int) (k : Nat) (cs : Array Value) (hs : 3 * k + 3 ≤ cs.size) (h : ∀ j, j < 3 * k → cs[j]? = some (.int .i64 (nth (outs l k) j))) :
    ∀ j, j < 3 * (k + 1) → (((cs.setIfInBounds (k * 3) (.int .i64 (sR l (k + 1)))).setIfInBounds (k * 3 + 1) (.int .i64 (sV l (k + 1)))).setIfInBounds (k * 3 + 2) (.int .i64 (sN l (k + 1))))[j]? = some (.int .i64 (nth (outs l (k + 1)) j)) := by
  intro j hj
  have hl := outs_len l k
  simp only [Array.getElem?_setIfInBounds, Array.size_setIfInBounds]
  obtain ⟨h1, h2, h3⟩ := nth_outs l (k + 1) k (by omega)
  by_cases e2 : k * 3 + 2 = j
  · rw [if_pos e2, if_pos (by omega), ← e2, h3]
  · rw [if_neg e2]
    by_cases e1 : k * 3 + 1 = j
    · rw [if_pos e1, if_pos (by omega), ← e1, h2]
    · rw [if_neg e1]
      by_cases e0 : k * 3 = j
      · rw [if_pos e0, if_pos (by omega), ← e0, h1]
      · rw [if_neg e0, h j (by omega)]
        simp only [outs]
        rw [nth_append_left _ _ _ (by omega)]

def cL (l : List Int) (k : Nat) : Int := if sL l k < 0 then -17 else sL l k
def Blks (w0 w : World) (l : List Int) (k : Nat) : Prop :=
  w.heap[w0.heap.size + 1]? = some (.cells #[.int .i64 (sR l k), .int .i64 (sV l k), .int .i64 (sN l k)] 23 (0, 0)) ∧
  ∃ cs, w.heap[w0.heap.size]? = some (.cells cs 23 (0, 0)) ∧ cs.size = 3 * l.length ∧ ∀ j, j < 3 * k → cs[j]? = some (.int .i64 (nth (outs l k) j))

set_option maxHeartbeats 4000000 in
theorem run21 (A : Option Addr) (cap : Nat) (l : List Int) (w : World) (hA : Is .i64 w w.heap.size A l) (hok : okl l) (hl : l.length ≤ 256) :
    Calls Try.prog 21 #[.slice A l.length cap] w fun e w' => ∃ A' cap', e = .returned (.tuple #[.slice A' l.length cap', .int .i64 0]) ∧ Own .i64 w' w.heap.size A' 23 (outs l l.length) ∧ Below w.heap.size w w' := by
  obtain ⟨i0, hi0, hz0, hz1, hz2⟩ := info_parts rng_info
  have hmk := fun W => run_makeN (P := Try.prog) 38 23 i0 _ Try.underlying38 hi0 hz0 l.length (by omega) (by omega) W
  rw [hz1] at hmk
  have hok' := Lib.hid hok; clear hok
  go_enter Try.func21, Try.ntmps21
  go_wp2_with fail
  go_loop [16] (fun i => ∃ k : Nat, k ≤ l.length ∧ i = .int .i64 k) (fun i => l.length - (intOf i).toNat)
  case atStart => exact ⟨0, Nat.zero_le _, rfl⟩
  case round =>
    obtain ⟨k, hk, rfl⟩ := hrel
    by_cases hlt : k < l.length
    · obtain ⟨b, off, rfl, hbb, hc⟩ := hA (by omega)
      have hcell := hc k hlt
      clear hc
      obtain ⟨g1, g2⟩ := hok'.out k hlt
      have hlI : (k : Int) < (l.length : Int) := by omega
      go_wp2_with fail
      exact ⟨⟨k + 1, by omega, by go_num⟩, by simp [intOf]; omega⟩
    · obtain rfl : k = l.length := by omega
      go_wp2_with fail
      clear hmk
      go_loopw [8, 32] (fun la i wr => ∃ k : Nat, k ≤ l.length ∧ i = .int .i64 k ∧ la = .int .i64 (cL l k) ∧ Blks w wr l k ∧ Below w.heap.size w wr ∧ w.heap.size + 2 ≤ wr.heap.size) (fun _ i _ => l.length - (intOf i).toNat)
      case atStart =>
        refine ⟨0, Nat.zero_le _, rfl, rfl, ⟨?_, madeCells #[.int .i64 0, .int .i64 0, .int .i64 0] (l.length * 3), ?_, by rw [size_madeCells]; omega, fun j h => absurd h (by omega)⟩, ((Below.refl _ _).alloc (Nat.le_refl _) _).alloc (by simp) _, by simp⟩
        · have := heap_alloc_new (w.alloc (.cells (madeCells #[.int .i64 0, .int .i64 0, .int .i64 0] (l.length * 3)) 23)) (.cells #[.int .i64 0, .int .i64 0, .int .i64 0] 23)
          rw [World.size_alloc] at this
          exact this
        · exact (Below.heap_alloc _ _ _ (by simp)).trans (heap_alloc_new _ _)
      case round =>
        obtain ⟨k, hk, rfl, rfl, hblks, hb, hsz⟩ := hrel
        by_cases hlt : k < l.length
        · obtain ⟨b, off, rfl, hbb, hc⟩ := hA (by omega)
          have hcell : wr.cell? ⟨b, off + k, none⟩ = some (.int .i64 (nth l k)) := (hb.cell (p := ⟨b, off + k, none⟩) hbb).trans (hc k hlt)
          clear hc hA
          obtain ⟨hblk, cs, hcs, hsize, hdone⟩ := hblks
          have hv := Lib.hid (inv l hok'.out k hk)
          have HD := Lib.hid hdone; clear hdone
          have HS := Lib.hid hsize
          have hkG : k * 3 + 2 < cs.size := by omega
          clear hsize
          obtain ⟨f0, f1, f2, f3, f4, f5⟩ := blk3 hblk
          have hlI : (k : Int) < (l.length : Int) := by omega
          have hk0 : (0 : Int) ≤ (k : Int) := by omega
          have hzz : w.heap.size < wr.heap.size := by omega
          have hzz1 : w.heap.size + 1 < wr.heap.size := by omega
          have hbne : b ≠ w.heap.size := by omega
          have hbne1 : b ≠ w.heap.size + 1 := by omega
          obtain ⟨g1, g2⟩ := hok'.out k hlt
          by_cases h0 : nth l k < 0
          · have hs := Lib.hid (s_neg l k h0)
            obtain ⟨⟨u0, c0⟩, p0⟩ := cell_in hcs (i := k * 3) (by omega)
            obtain ⟨⟨u1, c1⟩, p1⟩ := cell_in hcs (i := k * 3 + 1) (by omega)
            obtain ⟨⟨u2, c2⟩, p2⟩ := cell_in hcs (i := k * 3 + 2) (by omega)
            go_wp2_with fail
            have hbl : Blks w ((((wr.setCell ⟨w.heap.size, k * 3, none⟩ (.int .i64 (sR l k))).setCell ⟨w.heap.size, k * 3 + 1, none⟩ (.int .i64 (sV l k))).setCell ⟨w.heap.size, k * 3 + 2, none⟩ (.int .i64 (sN l k)))) l (k + 1) := by
              refine ⟨?_, _, set3 hcs, by simp [HS.out], ?_⟩
              · rw [hs.out.1, hs.out.2.1, hs.out.2.2.1]; exact far3 hblk (by omega)
              · have := outs_set l k cs (by omega) HD.out
                rw [hs.out.1, hs.out.2.1, hs.out.2.2.1] at this
                exact this
            exact ⟨⟨k + 1, by omega, by go_num, by unfold cL; rw [hs.out.2.2.2], hbl, ((hb.setCell (by simp) _).setCell (by simp) _).setCell (by simp) _, by simp [World.setCell]; omega⟩, by simp [intOf]; omega⟩
          · by_cases hn : sL l k < 0 ∨ 16 < (k : Int) - sL l k
            · have hs := Lib.hid (s_new l k (by omega) hn)
              have HN := Lib.hid (new9 (nth l k))
              have hcl : 16 < (k : Int) - cL l k := by unfold cL; split <;> omega
              have hcl2 : -17 ≤ cL l k := by unfold cL; split <;> omega
              go_wp2_with fail
              refine (HN.out _).mono ?_
              rintro e w1 ⟨rfl, hb1⟩
              have e1 : (((wr.setCell ⟨w.heap.size + 1, 0, none⟩ (.int .i64 0)).setCell ⟨w.heap.size + 1, 1, none⟩ (.int .i64 0)).setCell ⟨w.heap.size + 1, 2, none⟩ (.int .i64 0)).heap.size = wr.heap.size := by simp [World.setCell]
              have hblk1 := (hb1.block (w.heap.size + 1) (by rw [e1]; omega)).trans (blk3_of hblk)
              have hcs1 := (hb1.block w.heap.size (by rw [e1]; omega)).trans (far3 hcs (by omega))
              have hlt1 : w.heap.size + 1 < w1.heap.size := by have := hb1.size; rw [e1] at this; omega
              have hlt2 : w.heap.size < w1.heap.size := by omega
              have hbt : Below w.heap.size w w1 := (((hb.setCell (by simp) _).setCell (by simp) _).setCell (by simp) _).trans (hb1.mono (by rw [e1]; omega))
              clear e1
              obtain ⟨d0, d1, d2, d3, d4, d5⟩ := blk3 hblk1
              obtain ⟨⟨u0, c0⟩, p0⟩ := cell_in hcs1 (i := k * 3) (by omega)
              obtain ⟨⟨u1, c1⟩, p1⟩ := cell_in hcs1 (i := k * 3 + 1) (by omega)
              obtain ⟨⟨u2, c2⟩, p2⟩ := cell_in hcs1 (i := k * 3 + 2) (by omega)
              go_wp2_with fail
              have hbl : Blks w ((((((w1.setCell ⟨w.heap.size + 1, 0, none⟩ (.int .i64 (nwR (nth l k)))).setCell ⟨w.heap.size + 1, 1, none⟩ (.int .i64 0)).setCell ⟨w.heap.size + 1, 2, none⟩ (.int .i64 (nwN (nth l k)))).setCell ⟨w.heap.size, k * 3, none⟩ (.int .i64 (nwR (nth l k)))).setCell ⟨w.heap.size, k * 3 + 1, none⟩ (.int .i64 0)).setCell ⟨w.heap.size, k * 3 + 2, none⟩ (.int .i64 (nwN (nth l k)))) l (k + 1) := by
                refine ⟨?_, _, set3 (far3 hcs1 (by omega)), by simp [HS.out], ?_⟩
                · rw [hs.out.1, hs.out.2.1, hs.out.2.2.1]; exact far3 (blk3_of hblk1) (by omega)
                · have := outs_set l k cs (by omega) HD.out
                  rw [hs.out.1, hs.out.2.1, hs.out.2.2.1] at this
                  exact this
              exact ⟨⟨k + 1, by omega, by go_num, by unfold cL; rw [hs.out.2.2.2, if_neg (by omega)], hbl, (((((hbt.setCell (by simp) _).setCell (by simp) _).setCell (by simp) _).setCell (by simp) _).setCell (by simp) _).setCell (by simp) _, by simp [World.setCell]; omega⟩, by simp [intOf]; omega⟩
            · have hs := Lib.hid (s_upd l k (by omega) hn)
              have HN := Lib.hid (upd13 (sR l k) (sV l k) (sN l k) (nth l k) (k - sL l k))
              have hL : 0 ≤ sL l k ∧ sL l k < k ∧ (k : Int) - sL l k ≤ 16 := by rcases hv.out with ⟨a, _⟩ | ⟨a, b, _⟩ <;> omega
              have hNN : 1 ≤ sN l k := by rcases hv.out with ⟨a, _⟩ | ⟨a, b, c⟩; omega; unfold okX at c; omega
              obtain ⟨hL1, hL2, hL3⟩ := hL
              have hc0 : cL l k = sL l k := by unfold cL; rw [if_neg (by omega)]
              rw [hc0]
              clear hc0
              go_wp2_with fail
              refine (HN.out _).mono ?_
              rintro e w1 ⟨rfl, hb1⟩
              have hblk1 := (hb1.block (w.heap.size + 1) (by omega)).trans hblk
              have hcs1 := (hb1.block w.heap.size (by omega)).trans hcs
              have hlt1 : w.heap.size + 1 < w1.heap.size := by have := hb1.size; omega
              have hlt2 : w.heap.size < w1.heap.size := by omega
              have hbt : Below w.heap.size w w1 := hb.trans (hb1.mono (by omega))
              obtain ⟨d0, d1, d2, d3, d4, d5⟩ := blk3 hblk1
              obtain ⟨⟨u0, c0⟩, p0⟩ := cell_in hcs1 (i := k * 3) (by omega)
              obtain ⟨⟨u1, c1⟩, p1⟩ := cell_in hcs1 (i := k * 3 + 1) (by omega)
              obtain ⟨⟨u2, c2⟩, p2⟩ := cell_in hcs1 (i := k * 3 + 2) (by omega)
              go_wp2_with fail
              have hbl : Blks w ((((((w1.setCell ⟨w.heap.size + 1, 0, none⟩ (.int .i64 (uR (sR l k) (sV l k) (sN l k) (nth l k) (k - sL l k)))).setCell ⟨w.heap.size + 1, 1, none⟩ (.int .i64 (uV (sR l k) (sV l k) (sN l k) (nth l k) (k - sL l k)))).setCell ⟨w.heap.size + 1, 2, none⟩ (.int .i64 (uN (sR l k) (sV l k) (sN l k) (nth l k) (k - sL l k)))).setCell ⟨w.heap.size, k * 3, none⟩ (.int .i64 (uR (sR l k) (sV l k) (sN l k) (nth l k) (k - sL l k)))).setCell ⟨w.heap.size, k * 3 + 1, none⟩ (.int .i64 (uV (sR l k) (sV l k) (sN l k) (nth l k) (k - sL l k)))).setCell ⟨w.heap.size, k * 3 + 2, none⟩ (.int .i64 (uN (sR l k) (sV l k) (sN l k) (nth l k) (k - sL l k)))) l (k + 1) := by
                refine ⟨?_, _, set3 (far3 hcs1 (by omega)), by simp [HS.out], ?_⟩
                · rw [hs.out.1, hs.out.2.1, hs.out.2.2.1]; exact far3 (blk3_of hblk1) (by omega)
                · have := outs_set l k cs (by omega) HD.out
                  rw [hs.out.1, hs.out.2.1, hs.out.2.2.1] at this
                  exact this
              exact ⟨⟨k + 1, by omega, by go_num, by unfold cL; rw [hs.out.2.2.2, if_neg (by omega)], hbl, (((((hbt.setCell (by simp) _).setCell (by simp) _).setCell (by simp) _).setCell (by simp) _).setCell (by simp) _).setCell (by simp) _, by simp [World.setCell]; omega⟩, by simp [intOf]; omega⟩
        · obtain rfl : k = l.length := by omega
          go_wp2_with fail
          go_ret2
          obtain ⟨_, cs, hcs, hsize, hdone⟩ := hblks
          exact ⟨_, _, rfl, fun hn => ⟨w.heap.size, cs, rfl, Nat.le_refl _, hcs, fun j hj => hdone j (by rw [outs_len] at hj; exact hj)⟩, hb⟩

theorem run21e (A : Option Addr) (cap : Nat) (l : List Int) (w : World) (hA : Is .i64 w w.heap.size A l) (hok : ¬ okl l) (hl : l.length ≤ 256) :
    Calls Try.prog 21 #[.slice A l.length cap] w fun e w' => e = .returned (.tuple #[.slice none 0 0, .int .i64 1]) ∧ Below w.heap.size w w' := by
  have hok' := Lib.hid hok; clear hok
  go_enter Try.func21, Try.ntmps21
  go_wp2_with fail
  go_loop [16] (fun i => ∃ k : Nat, k ≤ l.length ∧ i = .int .i64 k ∧ ∀ j, j < k → -1 ≤ nth l j ∧ nth l j ≤ 8192) (fun i => l.length - (intOf i).toNat)
  case atStart => exact ⟨0, Nat.zero_le _, rfl, fun j h => absurd h (by omega)⟩
  case round =>
    obtain ⟨k, hk, rfl, hall⟩ := hrel
    have Hall := Lib.hid hall; clear hall
    by_cases hlt : k < l.length
    · obtain ⟨b, off, rfl, hbb, hc⟩ := hA (by omega)
      have hcell := hc k hlt
      clear hc
      have hlI : (k : Int) < (l.length : Int) := by omega
      by_cases g1 : nth l k < -1
      · go_wp2_with fail
        go_ret2
        exact ⟨rfl, Below.refl _ _⟩
      · by_cases g2 : 8192 < nth l k
        · go_wp2_with fail
          go_ret2
          exact ⟨rfl, Below.refl _ _⟩
        · go_wp2_with fail
          refine ⟨⟨k + 1, by omega, by go_num, fun j hj => ?_⟩, by simp [intOf]; omega⟩
          by_cases hjk : j = k
          · subst hjk; omega
          · exact Hall.out j (by omega)
    · obtain rfl : k = l.length := by omega
      exact absurd Hall.out hok'.out

theorem run21L (A : Option Addr) (cap : Nat) (l : List Int) (w : World) (hl : 256 < l.length) :
    Calls Try.prog 21 #[.slice A l.length cap] w fun e w' => e = .returned (.tuple #[.slice none 0 0, .int .i64 4]) ∧ Below w.heap.size w w' := by
  have h : (256 : Int) < (l.length : Int) := by omega
  go_enter Try.func21, Try.ntmps21
  go_wp2_with fail
  go_ret2
  exact ⟨rfl, Below.refl _ _⟩

theorem run21a (A : Option Addr) (cap : Nat) (l : List Int) (w : World) (hA : Is .i64 w w.heap.size A l) :
    Calls Try.prog 21 #[.slice A l.length cap] w fun e w' => ∃ A' cap', e = .returned (.tuple #[.slice A' (runN l) cap', .int .i64 (runE l)]) ∧ Own .i64 w' w.heap.size A' 23 (runO l) ∧ Below w.heap.size w w' := by
  unfold runO runN runE
  by_cases h : 256 < l.length
  · simp only [if_pos h]
    exact (run21L A cap l w h).mono fun e w' ⟨he, hb⟩ => ⟨none, 0, he, fun hn => absurd hn (by simp [outs]), hb⟩
  · simp only [if_neg h]
    by_cases ho : okl l
    · simp only [if_pos ho]; exact run21 A cap l w hA ho (by omega)
    · simp only [if_neg ho]
      exact (run21e A cap l w hA ho (by omega)).mono fun e w' ⟨he, hb⟩ => ⟨none, 0, he, fun hn => absurd hn (by simp [outs]), hb⟩
end Go.Proofs.Ytephkhaebkajkaa
