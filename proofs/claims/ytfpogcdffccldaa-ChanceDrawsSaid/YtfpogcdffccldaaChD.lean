/- Shuffle of package chance. -/
import Derived.Test.YtfpogcdffccldaaChC
namespace Go.Proofs.Ytfpogcdffccldaa
open Go.RowKit
attribute [local go_sem ↓] Go.wp_at_zero Go.wp_at_succ
attribute [local go_sem] wrap_lit

theorem run_makeN {P : Program} (t e : TypeId) (i : TypeInfo) (z : Value) (ht : P.underlying t = some (.slice e)) (hi : P.info? e = some i) (hz : i.zero = some z)
    (n : Nat) (hb : i.bytes ≤ 1000) (hn : n ≤ 1000000) (w : World) :
    (Instr.makeSlice t (.int .i64 (n : Int)) (.int .i64 (n : Int))).run P w = .ok (.slice (some ⟨w.heap.size, 0, none⟩) n n) (w.alloc (.cells (madeCells z.cells (n * i.size)) e)) := by
  have h0 : i.bytes * n ≤ 1000 * 1000000 := Nat.mul_le_mul hb hn
  have h1 : (i.bytes : Int) * (n : Int) ≤ 281474976710656 := by
    have h : ((i.bytes * n : Nat) : Int) ≤ 281474976710656 := by omega
    rwa [Int.natCast_mul] at h
  have hr := run_make (P := P) w t e i z ht hi hz .i64 .i64 n n (by omega) (by omega) h1 (by omega)
  simp only [Int.toNat_natCast] at hr
  exact hr

/-- A block of numbers that is known whole. -/
def Row (w : World) (g : Nat) (L : List Int) : Prop := ∃ cs, w.heap[g]? = some (.cells cs 3 (0, 0)) ∧ L.length ≤ cs.size ∧ ∀ j, j < L.length → cs[j]? = some (.int .i64 (nth L j))
theorem Row.cell {w : World} {g : Nat} {L : List Int} (h : Row w g L) {j : Nat} (hj : j < L.length) : w.cell? ⟨g, j, none⟩ = some (.int .i64 (nth L j)) ∧ w.frozen? ⟨g, j, none⟩ = false := by
  obtain ⟨cs, hh, _, hc⟩ := h
  refine ⟨?_, ?_⟩ <;> simp [World.cell?, World.frozen?, hh, hc j hj]
theorem Row.lt {w : World} {g : Nat} {L : List Int} (h : Row w g L) : g < w.heap.size := by obtain ⟨cs, hh, _⟩ := h; exact heap_lt hh
theorem Row.below {w w1 : World} {g B : Nat} {L : List Int} (h : Row w g L) (hb : Below B w w1) (hg : g < B) : Row w1 g L := by
  obtain ⟨cs, hh, h2⟩ := h; exact ⟨cs, (hb.block g hg).trans hh, h2⟩
theorem Row.alloc {w : World} {g : Nat} {L : List Int} (h : Row w g L) (o : Obj) : Row (w.alloc o) g L := by
  have := h.lt
  obtain ⟨cs, hh, h2⟩ := h; exact ⟨cs, (Below.heap_alloc w o g this).trans hh, h2⟩
theorem Row.far {w : World} {g : Nat} {L : List Int} (h : Row w g L) {p : Addr} (hp : g ≠ p.block) (u : Value) : Row (w.setCell p u) g L := by
  obtain ⟨cs, hh, h2⟩ := h; exact ⟨cs, (Below.heap_setCell w p u g hp).trans hh, h2⟩
theorem Row.drewN {w : World} {g : Nat} {L : List Int} (h : Row w g L) (n : Nat) : Row (w.drewN n) g L := h
theorem Row.set {w : World} {g : Nat} {L : List Int} (h : Row w g L) {i : Nat} (hi : i < L.length) (v : Int) : Row (w.setCell ⟨g, i, none⟩ (.int .i64 v)) g (L.set i v) := by
  obtain ⟨cs, hh, h1, h2⟩ := h
  refine ⟨_, set1 hh, by simpa using h1, fun j hj => ?_⟩
  rw [List.length_set] at hj
  rw [Array.getElem?_setIfInBounds, nth_set _ _ _ _ hi]
  by_cases e : i = j
  · rw [if_pos e, if_pos e, if_pos (by omega)]
  · rw [if_neg e, if_neg e]; exact h2 j hj
theorem Row.own {w : World} {g B : Nat} {L : List Int} (h : Row w g L) (hB : B ≤ g) : Own .i64 w B (some ⟨g, 0, none⟩) 3 L := fun _ => by
  obtain ⟨cs, hh, _, h2⟩ := h; exact ⟨g, cs, rfl, hB, hh, h2⟩
theorem grown_setB {w0 w : World} {g g' : Nat} (h : w0.grownBy w (some g)) (i : Nat) (u : Value) (hg' : w0.heap.size ≤ g') : w0.grownBy (w.setCell ⟨g', i, none⟩ u) (some g) :=
  ⟨h.os, h.tape, h.output, by simpa [World.setCell] using h.size, fun k hk hne => (Below.heap_setCell w ⟨g', i, none⟩ u k (by show k ≠ g'; omega)).trans (h.block k hk hne)⟩
theorem grown_drew {a w : World} {r : Option Nat} (h : a.grownBy w r) : a.grownBy w.drew r := ⟨h.os, h.tape, h.output, h.size, h.block⟩
theorem grown_drewN {a w : World} {r : Option Nat} (h : a.grownBy w r) (n : Nat) : a.grownBy (w.drewN n) r := ⟨h.os, h.tape, h.output, h.size, h.block⟩
theorem row_made (w : World) (n : Nat) : Row (w.alloc (.cells (madeCells #[.int .i64 0] n) 3)) w.heap.size (List.replicate n 0) := by
  refine ⟨_, heap_alloc_new _ _, by simp [size_madeCells], fun j hj => ?_⟩
  have hj' : j < n := by simpa using hj
  rw [← Array.getElem?_toList, toList_madeCells_one]
  simp [nth, List.getD_eq_getElem?_getD, hj']

set_option maxHeartbeats 400000 in
theorem shuffle11y (g : Nat) (x : Int) (n : Nat) (w : World) (h : Src w g x true) (h0 : 1 ≤ x) (h1 : x < 2147483647) (hn : n ≤ 256) :
    Calls Try.prog 11 #[.pointer (some ⟨g, 0, none⟩), .int .i64 n] w fun e w' => ∃ A cap, e = .returned (.tuple #[.slice A n cap, .int .i64 0]) ∧ Own .i64 w' w.heap.size A 3 (shuf n x).1 ∧ Src w' g (shuf n x).2 true ∧ w.grownBy w' (some g) := by
  have H := Lib.hid (check32t g x true w h)
  obtain ⟨i0, hi0, hz0, hz1, hz2⟩ := info_parts int_info
  have hmk := fun W => run_makeN (P := Try.prog) 25 3 i0 _ Try.underlying25 hi0 hz0 n (by omega) (by omega) W
  rw [hz1, Nat.mul_one] at hmk
  have hg := h.lt
  obtain ⟨-, ck, -, -⟩ := h.cells
  have HS := Lib.hid h
  clear h
  have hnI : decide ((n : Int) ≤ 256) = true := by simp; omega
  go_enter Try.func11, Try.ntmps11
  go_wp2_with fail
  refine H.out.mono ?_
  rintro e w1 ⟨rfl, rfl⟩
  clear H
  go_wp2_with fail
  go_region_held3 (fun w' => w'.cell? ⟨g, 1, none⟩ = some (.bool true)) (go_keep) (first | (go_at_call 33; refine (draw33 g _).mono ?_; rintro e w1 ⟨rfl, rfl⟩))
  all_goals clear hmk
  · go_wp2_with fail
    go_loopw [29] (fun i wr => ∃ k : Nat, k ≤ n ∧ i = .int .i64 k ∧ Src wr g x true ∧ wr.heap[(w.heap.size + 1)]? = some (.cells #[.pointer (some ⟨g, 0, none⟩)] 23 (0, 0)) ∧ (∃ L, L.length = n ∧ (∀ j, j < k → nth L j = j) ∧ Row wr w.heap.size L) ∧ w.grownBy wr (some g)) (fun i _ => n - (intOf i).toNat)
    case atStart =>
      refine ⟨0, Nat.zero_le _, rfl, (HS.out.alloc _).alloc _, (by have := heap_alloc_new (w.alloc (.cells (madeCells #[.int .i64 0] n) 3)) (.cells #[.pointer (some ⟨g, 0, none⟩)] 23); rw [World.size_alloc] at this; exact this), ⟨List.replicate n 0, by simp, fun j h => absurd h (by omega), (row_made w n).alloc _⟩, grown_drew (grown_alloc (grown_alloc (grown_refl _ _) _) _)⟩
    case round =>
      obtain ⟨k, hk, rfl, hs, hbx, ⟨L, hL, hLk, hrow⟩, hgw⟩ := hrel
      by_cases hlt : k < n
      · have HK := Lib.hid hLk; have HL := Lib.hid hL; have HR := Lib.hid hrow; have HS := Lib.hid hs; have HB := Lib.hid hbx
        obtain ⟨c0, p0⟩ := hrow.cell (j := k) (by omega)
        clear hLk hL hrow hs hbx
        have hlI : (k : Int) < (n : Int) := by omega
        go_wp2_with fail
        refine ⟨⟨k + 1, by omega, by go_num, HS.out.far (by show g ≠ w.heap.size; omega) _, (Below.heap_setCell _ _ _ _ (by show (w.heap.size + 1) ≠ w.heap.size; omega)).trans HB.out, ⟨_, by rw [List.length_set]; exact HL.out, fun j hj => ?_, HR.out.set (by rw [HL.out]; omega) _⟩, grown_setB hgw _ _ (by omega)⟩, by simp [intOf]; omega⟩
        rw [nth_set _ _ _ _ (by rw [HL.out]; omega)]
        by_cases e : k = j
        · rw [if_pos e, e]
        · rw [if_neg e]; exact HK.out j (by omega)
      · obtain rfl : k = n := by omega
        have hLr : L = rng k := nth_ext (by rw [hL, rng_len]) fun j hj => by rw [hLk j (by omega), nth_rng _ _ (by omega)]
        subst hLr
        clear hLk hL
        have HR := Lib.hid hrow; have HS := Lib.hid hs; have HB := Lib.hid hbx
        clear hrow hs hbx
        go_wp2_with fail
        by_cases hk1 : k ≤ 1
        · have hst : shuf k x = (rng k, x) := by unfold shuf; rw [show k - 1 = 0 by omega]; rfl
          have HST := Lib.hid hst; clear hst
          refine wp_loop_rounds 1 ?_
          rw [rounds_succ]
          go_wp2_with fail
          go_ret2
          rw [HST.out]
          exact ⟨_, _, rfl, HR.out.own (by omega), HS.out, hgw⟩
        · have hki : IntKind.i64.wrap ((k : Int) - 1) = ((k - 1 : Nat) : Int) := by rw [IntWalk.i64_in _ (by omega)]; omega
          have hke : (k : Int) - 1 = ((k - 1 : Nat) : Int) := by omega
          rw [hke]
          go_loopw [10] (fun i wr => ∃ (m : Nat) (L : List Int) (X : Int), m < k ∧ i = .int .i64 m ∧ L.length = k ∧ shGo m L X = shuf k x ∧ 1 ≤ X ∧ X < 2147483647 ∧ Src wr g X true ∧ wr.heap[(w.heap.size + 1)]? = some (.cells #[.pointer (some ⟨g, 0, none⟩)] 23 (0, 0)) ∧ Row wr w.heap.size L ∧ w.grownBy wr (some g)) (fun i _ => (intOf i).toNat)
          case atStart => exact ⟨k - 1, rng k, x, by omega, rfl, rng_len k, rfl, h0, h1, HS.out, HB.out, HR.out, hgw⟩
          case round =>
            obtain ⟨m, L, X, hm, rfl, hL, hsh, hX0, hX1, hs, hbx, hrow, hgw⟩ := hrel
            by_cases hm0 : m = 0
            · subst hm0
              have he : shuf k x = (L, X) := hsh.symm
              have HE := Lib.hid he
              have HR2 := Lib.hid hrow; have HS2 := Lib.hid hs
              clear hrow hs hbx he hsh
              go_wp2_with fail
              go_ret2
              rw [HE.out]
              exact ⟨_, _, rfl, HR2.out.own (by omega), HS2.out, hgw⟩
            · have hd := drw_bd X (m + 1) (by omega)
              obtain ⟨j, hj⟩ := Int.eq_ofNat_of_zero_le hd.1
              have hjm : j ≤ m := by omega
              obtain ⟨m', rfl⟩ : ∃ m', m = m' + 1 := ⟨m - 1, by omega⟩
              have hsh' : shGo m' (swapL L (m' + 1) j) (tms X 48271) = shuf k x := by
                rw [← hsh, shGo]
                have : drw X (m' + 2) = (j : Int) := by rw [← hj]; congr 1
                rw [this]; rfl
              have hlg : g < wr.heap.size := hs.lt
              obtain ⟨k1, k2, k3, k4⟩ := hs.cells
              have hbc : wr.cell? ⟨(w.heap.size + 1), 0, none⟩ = some (.pointer (some ⟨g, 0, none⟩)) := by simp [World.cell?, hbx]
              have HD := draw36 g (w.heap.size + 1) X ((m' : Int) + 1 + 1) wr hbc k1 k3 hX0 hX1 (by omega) (by omega)
              rw [show drw X ((m' : Int) + 1 + 1) = (j : Int) by rw [← hj]; congr 1] at HD
              obtain ⟨c0, p0⟩ := hrow.cell (j := m' + 1) (by omega)
              obtain ⟨c1, p1⟩ := hrow.cell (j := j) (by omega)
              have HR2 := Lib.hid hrow; have HS2 := Lib.hid hs; have HB2 := Lib.hid hbx; have HSH := Lib.hid hsh'; have HL2 := Lib.hid hL; have HJ := Lib.hid hj; have HDD := Lib.hid HD
              clear hrow hs hbx hsh hsh' hL hj hd HD
              have hneg : g ≠ w.heap.size := by omega
              have hj0 : (0 : Int) ≤ (j : Int) := by omega
              have hj1 : (j : Int) < (k : Int) := by omega
              have hm1 : (m' : Int) + 1 < (k : Int) := by omega
              go_wp2_with fail
              refine HDD.out.mono ?_
              rintro e w1 ⟨rfl, rfl⟩
              go_wp2_with fail
              by_cases hne : j = m' + 1
              · subst hne
                go_region
                all_goals go_wp2_with fail
                refine ⟨⟨m', swapL L (m' + 1) (m' + 1), tms X 48271, by omega, rfl, by rw [swapL_len]; exact HL2.out, HSH.out, tms_pos X hX0 hX1, (tms_bd X _).2, ((HS2.out.set _).far (by show g ≠ w.heap.size; exact hneg) _).far (by show g ≠ w.heap.size; exact hneg) _, ?_, ?_, grown_drew (grown_setB (grown_setB (grown_set hgw _) _ _ (by omega)) _ _ (by omega))⟩, by simp [intOf]⟩
                · exact ((Below.heap_setCell _ _ _ _ (by show (w.heap.size + 1) ≠ w.heap.size; omega)).trans ((Below.heap_setCell _ _ _ _ (by show (w.heap.size + 1) ≠ w.heap.size; omega)).trans ((Below.heap_setCell _ _ _ _ (by show (w.heap.size + 1) ≠ g; omega)).trans HB2.out)))
                · exact ((HR2.out.far (by show w.heap.size ≠ g; omega) _).set (by rw [HL2.out]; omega) _).set (by rw [List.length_set, HL2.out]; omega) _
              · go_region
                all_goals go_wp2_with fail
                refine ⟨⟨m', swapL L (m' + 1) j, tms X 48271, by omega, rfl, by rw [swapL_len]; exact HL2.out, HSH.out, tms_pos X hX0 hX1, (tms_bd X _).2, ((HS2.out.set _).far (by show g ≠ w.heap.size; exact hneg) _).far (by show g ≠ w.heap.size; exact hneg) _, ?_, ?_, grown_drew (grown_setB (grown_setB (grown_set hgw _) _ _ (by omega)) _ _ (by omega))⟩, by simp [intOf]⟩
                · exact ((Below.heap_setCell _ _ _ _ (by show (w.heap.size + 1) ≠ w.heap.size; omega)).trans ((Below.heap_setCell _ _ _ _ (by show (w.heap.size + 1) ≠ w.heap.size; omega)).trans ((Below.heap_setCell _ _ _ _ (by show (w.heap.size + 1) ≠ g; omega)).trans HB2.out)))
                · exact ((HR2.out.far (by show w.heap.size ≠ g; omega) _).set (by rw [HL2.out]; omega) _).set (by rw [List.length_set, HL2.out]; omega) _
  · go_wp2_with fail
    go_loopw [29] (fun i wr => ∃ k : Nat, k ≤ n ∧ i = .int .i64 k ∧ Src wr g x true ∧ wr.heap[w.heap.size]? = some (.cells #[.pointer (some ⟨g, 0, none⟩)] 23 (0, 0)) ∧ (∃ L, L.length = n ∧ (∀ j, j < k → nth L j = j) ∧ Row wr (w.heap.size + 1) L) ∧ w.grownBy wr (some g)) (fun i _ => n - (intOf i).toNat)
    case atStart =>
      refine ⟨0, Nat.zero_le _, rfl, (HS.out.alloc _).alloc _, (Below.heap_alloc _ _ _ (by simp)).trans (heap_alloc_new _ _), ⟨List.replicate n 0, by simp, fun j h => absurd h (by omega), (by have := row_made (w.alloc (.cells #[.pointer (some ⟨g, 0, none⟩)] 23)) n; rw [World.size_alloc] at this; exact this)⟩, grown_drew (grown_alloc (grown_alloc (grown_refl _ _) _) _)⟩
    case round =>
      obtain ⟨k, hk, rfl, hs, hbx, ⟨L, hL, hLk, hrow⟩, hgw⟩ := hrel
      by_cases hlt : k < n
      · have HK := Lib.hid hLk; have HL := Lib.hid hL; have HR := Lib.hid hrow; have HS := Lib.hid hs; have HB := Lib.hid hbx
        obtain ⟨c0, p0⟩ := hrow.cell (j := k) (by omega)
        clear hLk hL hrow hs hbx
        have hlI : (k : Int) < (n : Int) := by omega
        go_wp2_with fail
        refine ⟨⟨k + 1, by omega, by go_num, HS.out.far (by show g ≠ (w.heap.size + 1); omega) _, (Below.heap_setCell _ _ _ _ (by show w.heap.size ≠ (w.heap.size + 1); omega)).trans HB.out, ⟨_, by rw [List.length_set]; exact HL.out, fun j hj => ?_, HR.out.set (by rw [HL.out]; omega) _⟩, grown_setB hgw _ _ (by omega)⟩, by simp [intOf]; omega⟩
        rw [nth_set _ _ _ _ (by rw [HL.out]; omega)]
        by_cases e : k = j
        · rw [if_pos e, e]
        · rw [if_neg e]; exact HK.out j (by omega)
      · obtain rfl : k = n := by omega
        have hLr : L = rng k := nth_ext (by rw [hL, rng_len]) fun j hj => by rw [hLk j (by omega), nth_rng _ _ (by omega)]
        subst hLr
        clear hLk hL
        have HR := Lib.hid hrow; have HS := Lib.hid hs; have HB := Lib.hid hbx
        clear hrow hs hbx
        go_wp2_with fail
        by_cases hk1 : k ≤ 1
        · have hst : shuf k x = (rng k, x) := by unfold shuf; rw [show k - 1 = 0 by omega]; rfl
          have HST := Lib.hid hst; clear hst
          refine wp_loop_rounds 1 ?_
          rw [rounds_succ]
          go_wp2_with fail
          go_ret2
          rw [HST.out]
          exact ⟨_, _, rfl, HR.out.own (by omega), HS.out, hgw⟩
        · have hki : IntKind.i64.wrap ((k : Int) - 1) = ((k - 1 : Nat) : Int) := by rw [IntWalk.i64_in _ (by omega)]; omega
          have hke : (k : Int) - 1 = ((k - 1 : Nat) : Int) := by omega
          rw [hke]
          go_loopw [10] (fun i wr => ∃ (m : Nat) (L : List Int) (X : Int), m < k ∧ i = .int .i64 m ∧ L.length = k ∧ shGo m L X = shuf k x ∧ 1 ≤ X ∧ X < 2147483647 ∧ Src wr g X true ∧ wr.heap[w.heap.size]? = some (.cells #[.pointer (some ⟨g, 0, none⟩)] 23 (0, 0)) ∧ Row wr (w.heap.size + 1) L ∧ w.grownBy wr (some g)) (fun i _ => (intOf i).toNat)
          case atStart => exact ⟨k - 1, rng k, x, by omega, rfl, rng_len k, rfl, h0, h1, HS.out, HB.out, HR.out, hgw⟩
          case round =>
            obtain ⟨m, L, X, hm, rfl, hL, hsh, hX0, hX1, hs, hbx, hrow, hgw⟩ := hrel
            by_cases hm0 : m = 0
            · subst hm0
              have he : shuf k x = (L, X) := hsh.symm
              have HE := Lib.hid he
              have HR2 := Lib.hid hrow; have HS2 := Lib.hid hs
              clear hrow hs hbx he hsh
              go_wp2_with fail
              go_ret2
              rw [HE.out]
              exact ⟨_, _, rfl, HR2.out.own (by omega), HS2.out, hgw⟩
            · have hd := drw_bd X (m + 1) (by omega)
              obtain ⟨j, hj⟩ := Int.eq_ofNat_of_zero_le hd.1
              have hjm : j ≤ m := by omega
              obtain ⟨m', rfl⟩ : ∃ m', m = m' + 1 := ⟨m - 1, by omega⟩
              have hsh' : shGo m' (swapL L (m' + 1) j) (tms X 48271) = shuf k x := by
                rw [← hsh, shGo]
                have : drw X (m' + 2) = (j : Int) := by rw [← hj]; congr 1
                rw [this]; rfl
              have hlg : g < wr.heap.size := hs.lt
              obtain ⟨k1, k2, k3, k4⟩ := hs.cells
              have hbc : wr.cell? ⟨w.heap.size, 0, none⟩ = some (.pointer (some ⟨g, 0, none⟩)) := by simp [World.cell?, hbx]
              have HD := draw36 g w.heap.size X ((m' : Int) + 1 + 1) wr hbc k1 k3 hX0 hX1 (by omega) (by omega)
              rw [show drw X ((m' : Int) + 1 + 1) = (j : Int) by rw [← hj]; congr 1] at HD
              obtain ⟨c0, p0⟩ := hrow.cell (j := m' + 1) (by omega)
              obtain ⟨c1, p1⟩ := hrow.cell (j := j) (by omega)
              have HR2 := Lib.hid hrow; have HS2 := Lib.hid hs; have HB2 := Lib.hid hbx; have HSH := Lib.hid hsh'; have HL2 := Lib.hid hL; have HJ := Lib.hid hj; have HDD := Lib.hid HD
              clear hrow hs hbx hsh hsh' hL hj hd HD
              have hneg : g ≠ (w.heap.size + 1) := by omega
              have hj0 : (0 : Int) ≤ (j : Int) := by omega
              have hj1 : (j : Int) < (k : Int) := by omega
              have hm1 : (m' : Int) + 1 < (k : Int) := by omega
              go_wp2_with fail
              refine HDD.out.mono ?_
              rintro e w1 ⟨rfl, rfl⟩
              go_wp2_with fail
              by_cases hne : j = m' + 1
              · subst hne
                go_region
                all_goals go_wp2_with fail
                refine ⟨⟨m', swapL L (m' + 1) (m' + 1), tms X 48271, by omega, rfl, by rw [swapL_len]; exact HL2.out, HSH.out, tms_pos X hX0 hX1, (tms_bd X _).2, ((HS2.out.set _).far (by show g ≠ (w.heap.size + 1); exact hneg) _).far (by show g ≠ (w.heap.size + 1); exact hneg) _, ?_, ?_, grown_drew (grown_setB (grown_setB (grown_set hgw _) _ _ (by omega)) _ _ (by omega))⟩, by simp [intOf]⟩
                · exact ((Below.heap_setCell _ _ _ _ (by show w.heap.size ≠ (w.heap.size + 1); omega)).trans ((Below.heap_setCell _ _ _ _ (by show w.heap.size ≠ (w.heap.size + 1); omega)).trans ((Below.heap_setCell _ _ _ _ (by show w.heap.size ≠ g; omega)).trans HB2.out)))
                · exact ((HR2.out.far (by show (w.heap.size + 1) ≠ g; omega) _).set (by rw [HL2.out]; omega) _).set (by rw [List.length_set, HL2.out]; omega) _
              · go_region
                all_goals go_wp2_with fail
                refine ⟨⟨m', swapL L (m' + 1) j, tms X 48271, by omega, rfl, by rw [swapL_len]; exact HL2.out, HSH.out, tms_pos X hX0 hX1, (tms_bd X _).2, ((HS2.out.set _).far (by show g ≠ (w.heap.size + 1); exact hneg) _).far (by show g ≠ (w.heap.size + 1); exact hneg) _, ?_, ?_, grown_drew (grown_setB (grown_setB (grown_set hgw _) _ _ (by omega)) _ _ (by omega))⟩, by simp [intOf]⟩
                · exact ((Below.heap_setCell _ _ _ _ (by show w.heap.size ≠ (w.heap.size + 1); omega)).trans ((Below.heap_setCell _ _ _ _ (by show w.heap.size ≠ (w.heap.size + 1); omega)).trans ((Below.heap_setCell _ _ _ _ (by show w.heap.size ≠ g; omega)).trans HB2.out)))
                · exact ((HR2.out.far (by show (w.heap.size + 1) ≠ g; omega) _).set (by rw [HL2.out]; omega) _).set (by rw [List.length_set, HL2.out]; omega) _

end Go.Proofs.Ytfpogcdffccldaa
