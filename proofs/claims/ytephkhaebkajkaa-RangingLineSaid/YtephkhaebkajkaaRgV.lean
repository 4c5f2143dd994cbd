/- Run of the reference of package ranging, for every input. -/
import Derived.Test.YtephkhaebkajkaaRgR
import Derived.Test.YtephkhaebkajkaaK2
import Derived.Test.YtephkhaebkajkaaRgP
namespace Go.Proofs.Ytephkhaebkajkaa
open Go.RowKit
attribute [local go_sem ↓] Go.wp_at_zero Go.wp_at_succ
attribute [local go_sem] wrap_lit
theorem rng_info : (Try.prog.info? 23).map (fun i => (i.zero, i.size, i.bytes)) = some (some (.agg #[.int .i64 0, .int .i64 0, .int .i64 0]), 3, 24) := by kernel_rfl

theorem blk3 {w : World} {g : Nat} {a b c : Value} {T : TypeId} (h : w.heap[g]? = some (.cells #[a, b, c] T (0, 0))) : w.cell? ⟨g, 0, none⟩ = some a ∧ w.cell? ⟨g, 1, none⟩ = some b ∧ w.cell? ⟨g, 2, none⟩ = some c ∧ w.frozen? ⟨g, 0, none⟩ = false ∧ w.frozen? ⟨g, 1, none⟩ = false ∧ w.frozen? ⟨g, 2, none⟩ = false := by
  refine ⟨?_, ?_, ?_, ?_, ?_, ?_⟩ <;> simp [World.cell?, World.frozen?, h]
theorem blk3_of {w : World} {g : Nat} {T : TypeId} {a b c a' b' c' : Value} (h : w.heap[g]? = some (.cells #[a, b, c] T (0, 0))) :
    (((w.setCell ⟨g, 0, none⟩ a').setCell ⟨g, 1, none⟩ b').setCell ⟨g, 2, none⟩ c').heap[g]? = some (.cells #[a', b', c'] T (0, 0)) := by
  simp [World.setCell, Array.getElem?_modify, h]

set_option maxHeartbeats 2000000 in
theorem run22 (A : Option Addr) (cap : Nat) (l : List Int) (w : World) (hA : Is .i64 w w.heap.size A l) (hok : okl l) (hl : l.length ≤ 256) :
    Calls Try.prog 22 #[.slice A l.length cap] w fun e w' => ∃ A' cap', e = .returned (.tuple #[.slice A' l.length cap', .int .i64 0]) ∧ Own .i64 w' w.heap.size A' 23 (outs l l.length) ∧ Below w.heap.size w w' := by
  obtain ⟨i0, hi0, hz0, hz1, hz2⟩ := info_parts rng_info
  have hok' := Lib.hid hok; clear hok
  go_enter Try.func22, Try.ntmps22
  go_wp2_with fail
  go_loop [4] (fun i => ∃ k : Nat, k ≤ l.length ∧ i = .int .i64 k) (fun i => l.length - (intOf i).toNat)
  case atStart => exact ⟨0, Nat.zero_le _, rfl⟩
  case round =>
    obtain ⟨k, hk, rfl⟩ := hrel
    by_cases hlt : k < l.length
    · obtain ⟨b, off, rfl, hbb, hc⟩ := hA (by omega)
      have hcell := hc k hlt
      clear hc
      obtain ⟨g1, g2⟩ := hok'.out k hlt
      have hlI : (k : Int) < (l.length : Int) := by omega
      go_wp2_with fail
      exact ⟨⟨k + 1, by omega, by go_num⟩, by simp [intOf]; omega⟩
    · obtain rfl : k = l.length := by omega
      go_wp2_with fail
      go_loopw [5, 6, 8] (fun v la i wr => ∃ k : Nat, k ≤ l.length ∧ i = .int .i64 k ∧ la = .int .i64 (sL l k) ∧ wr.heap[w.heap.size]? = some (.cells #[.int .i64 (sR l k), .int .i64 (sV l k), .int .i64 (sN l k)] 23 (0, 0)) ∧ Acc .i64 wr (w.heap.size + 1) 23 3 v k (outs l k) ∧ Below w.heap.size w wr ∧ w.heap.size + 1 ≤ wr.heap.size) (fun _ _ i _ => l.length - (intOf i).toNat)
      case atStart => exact ⟨0, Nat.zero_le _, rfl, rfl, heap_alloc_new _ _, Acc.nil _ _ _ _ _, (Below.refl _ _).alloc (Nat.le_refl _) _, by simp⟩
      case round =>
        obtain ⟨k, hk, rfl, rfl, hblk, hacc, hb, hsz⟩ := hrel
        by_cases hlt : k < l.length
        · obtain ⟨b, off, rfl, hbb, hc⟩ := hA (by omega)
          have hcell : wr.cell? ⟨b, off + k, none⟩ = some (.int .i64 (nth l k)) := (hb.cell (p := ⟨b, off + k, none⟩) hbb).trans (hc k hlt)
          clear hc hA
          have hv := Lib.hid (inv l hok'.out k hk)
          obtain ⟨f0, f1, f2, f3, f4, f5⟩ := blk3 hblk
          have hlI : (k : Int) < (l.length : Int) := by omega
          obtain ⟨g1, g2⟩ := hok'.out k hlt
          by_cases h0 : nth l k < 0
          · have hs := Lib.hid (s_neg l k h0)
            go_wp2_with (at_builtin; refine wpList_appH rfl _ _ 38 rfl .i64 (w.heap.size + 1) 23 i0 _ 3 24 Try.underlying38 hi0 hz0 hz1 hz2 rfl (by decide) _ _ _ [sR l k, sV l k, sN l k] rfl hacc _ rfl _ rfl (by first | rfl | (simp [World.setCell]; done)) rfl (by omega) (by decide) hsz ?_; intro v' w4 hown4 hb4)
            refine ⟨⟨k + 1, by omega, by go_num, ?_, ?_, ?_, hb.trans (hb4.mono (by omega)), by have := hb4.size; omega⟩, by simp [intOf]; omega⟩
            · rw [hs.out.2.2.2]
            · rw [hs.out.1, hs.out.2.1, hs.out.2.2.1]; exact (hb4.block _ (by omega)).trans hblk
            · simp only [outs]; rw [hs.out.1, hs.out.2.1, hs.out.2.2.1]; exact hown4
          · by_cases hn : sL l k < 0 ∨ 16 < (k : Int) - sL l k
            · have hs := Lib.hid (s_new l k (by omega) hn)
              have hr : ∀ w : World, Calls Try.prog 10 #[.int .i64 (nth l k)] w fun e w' => e = .returned (.tuple #[.agg #[.int .i64 (nwR (nth l k)), .int .i64 0, .int .i64 (nwN (nth l k))], .int .i64 (nwE (nth l k))]) ∧ Below w.heap.size w w' := fun w => new10 _ w
              have HN := Lib.hid hr; clear hr
              have hL : -1 ≤ sL l k ∧ sL l k < k := by rcases hv.out with ⟨a, _⟩ | ⟨a, b, _⟩ <;> omega
              obtain ⟨hL1, hL2⟩ := hL
              by_cases hn1 : sL l k < 0
              all_goals
                go_wp2_with fail
                refine (HN.out _).mono ?_
                rintro e w1 ⟨rfl, hb1⟩
                have hlt1 : w.heap.size < w1.heap.size := by have := hb1.size; omega
                have hblk1 := (hb1.block w.heap.size (by omega)).trans hblk
                have hcl1 : w1.cell? ⟨b, off + k, none⟩ = some (.int .i64 (nth l k)) := (hb1.cell (p := ⟨b, off + k, none⟩) (by show b < wr.heap.size; omega)).trans hcell
                obtain ⟨d0, d1, d2, d3, d4, d5⟩ := blk3 hblk1
                have hacc1 := hacc.below hb1
                have hbb1 : b ≠ w.heap.size := by omega
                go_wp2_with (at_builtin; refine wpList_appH rfl _ _ 38 rfl .i64 (w.heap.size + 1) 23 i0 _ 3 24 Try.underlying38 hi0 hz0 hz1 hz2 rfl (by decide) _ _ _ [nwR (nth l k), 0, nwN (nth l k)] rfl (((hacc1.setCell (by simp) _).setCell (by simp) _).setCell (by simp) _) _ rfl _ rfl (by first | rfl | (simp [World.setCell]; done)) rfl (by omega) (by decide) (by simp [World.setCell]; omega) ?_; intro v' w4 hown4 hb4)
                refine ⟨⟨k + 1, by omega, by go_num, ?_, ?_, ?_, (((hb.trans (hb1.mono (by omega))).setCell (by simp) _).setCell (by simp) _).setCell (by simp) _ |>.trans (hb4.mono (by omega)), by have := hb4.size; simp [World.setCell] at this; omega⟩, by simp [intOf]; omega⟩
                · rw [hs.out.2.2.2]
                · rw [hs.out.1, hs.out.2.1, hs.out.2.2.1]; exact (hb4.block _ (by omega)).trans (blk3_of hblk1)
                · simp only [outs]; rw [hs.out.1, hs.out.2.1, hs.out.2.2.1]; exact hown4
            · have hs := Lib.hid (s_upd l k (by omega) hn)
              have HN := Lib.hid (upd14 (sR l k) (sV l k) (sN l k) (nth l k) (k - sL l k))
              have hL : 0 ≤ sL l k ∧ sL l k < k ∧ (k : Int) - sL l k ≤ 16 := by rcases hv.out with ⟨a, _⟩ | ⟨a, b, _⟩ <;> omega
              obtain ⟨hL1, hL2, hL3⟩ := hL
              have hq := Lib.hid (IntWalk.i64_in ((k : Int) - sL l k) (by omega))
              have hk0 : (0 : Int) ≤ (k : Int) := by omega
              go_wp2_with fail
              have hq' := hq.out
              go_region_with (go_at_call 14; refine (HN.out _).mono ?_; rintro e w1 ⟨rfl, hb1⟩; have hlt1 : w.heap.size < w1.heap.size := (by have := hb1.size; simp at this; omega); have hblk1 := (hb1.block w.heap.size (by simp; omega)).trans hblk; obtain ⟨d0, d1, d2, d3, d4, d5⟩ := blk3 hblk1; have hacc1 := Acc.below (show Acc .i64 wr.drew _ _ _ _ _ _ from hacc) hb1; have hbt : Below w.heap.size w w1 := (hb.drew.trans (hb1.mono (by simp; omega))))
              all_goals clear hq'
              all_goals
                go_wp2_with (at_builtin; refine wpList_appH rfl _ _ 38 rfl .i64 (w.heap.size + 1) 23 i0 _ 3 24 Try.underlying38 hi0 hz0 hz1 hz2 rfl (by decide) _ _ _ [uR (sR l k) (sV l k) (sN l k) (nth l k) (k - sL l k), uV (sR l k) (sV l k) (sN l k) (nth l k) (k - sL l k), uN (sR l k) (sV l k) (sN l k) (nth l k) (k - sL l k)] rfl (((hacc1.setCell (by simp) _).setCell (by simp) _).setCell (by simp) _) _ rfl _ rfl (by first | rfl | (simp [World.setCell]; done)) rfl (by omega) (by decide) (by simp [World.setCell]; omega) ?_; intro v' w4 hown4 hb4)
                refine ⟨⟨k + 1, by omega, by go_num, ?_, ?_, ?_, ((hbt.setCell (by simp) _).setCell (by simp) _).setCell (by simp) _ |>.trans (hb4.mono (by omega)), by have := hb4.size; simp [World.setCell] at this; omega⟩, by simp [intOf]; omega⟩
                · rw [hs.out.2.2.2]
                · rw [hs.out.1, hs.out.2.1, hs.out.2.2.1]; exact (hb4.block _ (by omega)).trans (blk3_of hblk1)
                · simp only [outs]; rw [hs.out.1, hs.out.2.1, hs.out.2.2.1]; exact hown4
        · obtain rfl : k = l.length := by omega
          go_wp2_with fail
          go_ret2
          obtain ⟨A', cap', rfl, ho⟩ := hacc.own
          exact ⟨A', cap', rfl, fun hn => by obtain ⟨g, cs, e1, e2, e3⟩ := ho hn; exact ⟨g, cs, e1, by omega, e3⟩, hb⟩

theorem run22e (A : Option Addr) (cap : Nat) (l : List Int) (w : World) (hA : Is .i64 w w.heap.size A l) (hok : ¬ okl l) (hl : l.length ≤ 256) :
    Calls Try.prog 22 #[.slice A l.length cap] w fun e w' => e = .returned (.tuple #[.slice none 0 0, .int .i64 1]) ∧ Below w.heap.size w w' := by
  have hok' := Lib.hid hok; clear hok
  go_enter Try.func22, Try.ntmps22
  go_wp2_with fail
  go_loop [4] (fun i => ∃ k : Nat, k ≤ l.length ∧ i = .int .i64 k ∧ ∀ j, j < k → -1 ≤ nth l j ∧ nth l j ≤ 8192) (fun i => l.length - (intOf i).toNat)
  case atStart => exact ⟨0, Nat.zero_le _, rfl, fun j h => absurd h (by omega)⟩
  case round =>
    obtain ⟨k, hk, rfl, hall⟩ := hrel
    have Hall := Lib.hid hall; clear hall
    by_cases hlt : k < l.length
    · obtain ⟨b, off, rfl, hbb, hc⟩ := hA (by omega)
      have hcell := hc k hlt
      clear hc
      have hlI : (k : Int) < (l.length : Int) := by omega
      by_cases g1 : nth l k < -1
      · go_wp2_with fail
        go_ret2
        exact ⟨rfl, Below.refl _ _⟩
      · by_cases g2 : 8192 < nth l k
        · go_wp2_with fail
          go_ret2
          exact ⟨rfl, Below.refl _ _⟩
        · go_wp2_with fail
          refine ⟨⟨k + 1, by omega, by go_num, fun j hj => ?_⟩, by simp [intOf]; omega⟩
          by_cases hjk : j = k
          · subst hjk; omega
          · exact Hall.out j (by omega)
    · obtain rfl : k = l.length := by omega
      exact absurd Hall.out hok'.out

theorem run22L (A : Option Addr) (cap : Nat) (l : List Int) (w : World) (hl : 256 < l.length) :
    Calls Try.prog 22 #[.slice A l.length cap] w fun e w' => e = .returned (.tuple #[.slice none 0 0, .int .i64 4]) ∧ Below w.heap.size w w' := by
  have h : (256 : Int) < (l.length : Int) := by omega
  go_enter Try.func22, Try.ntmps22
  go_wp2_with fail
  go_ret2
  exact ⟨rfl, Below.refl _ _⟩

theorem run22a (A : Option Addr) (cap : Nat) (l : List Int) (w : World) (hA : Is .i64 w w.heap.size A l) :
    Calls Try.prog 22 #[.slice A l.length cap] w fun e w' => ∃ A' cap', e = .returned (.tuple #[.slice A' (runN l) cap', .int .i64 (runE l)]) ∧ Own .i64 w' w.heap.size A' 23 (runO l) ∧ Below w.heap.size w w' := by
  unfold runO runN runE
  by_cases h : 256 < l.length
  · simp only [if_pos h]
    exact (run22L A cap l w h).mono fun e w' ⟨he, hb⟩ => ⟨none, 0, he, fun hn => absurd hn (by simp [outs]), hb⟩
  · simp only [if_neg h]
    by_cases ho : okl l
    · simp only [if_pos ho]; exact run22 A cap l w hA ho (by omega)
    · simp only [if_neg ho]
      exact (run22e A cap l w hA ho (by omega)).mono fun e w' ⟨he, hb⟩ => ⟨none, 0, he, fun hn => absurd hn (by simp [outs]), hb⟩
end Go.Proofs.Ytephkhaebkajkaa
