/- Fates of package chance. -/
import Derived.Test.YtfpogcdffccldaaChE
namespace Go.Proofs.Ytfpogcdffccldaa
open Go.RowKit
attribute [local go_sem ↓] Go.wp_at_zero Go.wp_at_succ
attribute [local go_sem] wrap_lit

theorem nth_app_left (xs ys : List Int) (j : Nat) (h : j < xs.length) : nth (xs ++ ys) j = nth xs j := by
  simp [nth, List.getD_eq_getElem?_getD, List.getElem?_append_left h]
theorem nth_app_right (xs ys : List Int) (j : Nat) (h : xs.length ≤ j) : nth (xs ++ ys) j = nth ys (j - xs.length) := by
  simp [nth, List.getD_eq_getElem?_getD, List.getElem?_append_right h]

set_option maxHeartbeats 4000000 in
theorem fates23y (g : Nat) (x : Int) (n : Nat) (lose delay run : Int) (w : World) (h : Src w g x true) (h0 : 1 ≤ x) (h1 : x < 2147483647) (hn : n ≤ 256) (l0 : 0 ≤ lose) (l1 : lose ≤ 100) (d0 : 0 ≤ delay) (d1 : delay ≤ 8) (r0 : 0 ≤ run) :
    Calls Try.prog 23 #[.pointer (some ⟨g, 0, none⟩), .int .i64 n, .int .i64 lose, .int .i64 delay, .int .i64 run] w fun e w' => ∃ A cap, n ≤ cap ∧ e = .returned (.tuple #[.slice A n cap, .int .i64 0]) ∧ Own .i64 w' w.heap.size A 3 (ftL lose delay run x n) ∧ Src w' g (ftX lose delay run x n) true ∧ w.grownBy w' (some g) := by
  have H := Lib.hid (check32t g x true w h)
  obtain ⟨i0, hi0, hz0, hz1, hz2⟩ := info_parts int_info
  have hmk := fun W => run_makeN (P := Try.prog) 25 3 i0 _ Try.underlying25 hi0 hz0 n (by omega) (by omega) W
  rw [hz1, Nat.mul_one] at hmk
  have hg := h.lt
  obtain ⟨-, ck, -, -⟩ := h.cells
  have HS := Lib.hid h
  clear h
  have hnI : decide ((n : Int) ≤ 256) = true := by simp; omega
  go_enter Try.func23, Try.ntmps23
  go_wp2_with fail
  refine H.out.mono ?_
  rintro e w1 ⟨rfl, rfl⟩
  clear H
  go_wp2_with fail
  go_region_held3 (fun w' => w'.cell? ⟨g, 1, none⟩ = some (.bool true)) (go_keep) (first | (go_at_call 33; refine (draw33 g _).mono ?_; rintro e w1 ⟨rfl, rfl⟩))
  all_goals clear hmk ck
  · go_wp2_with fail
    go_loopw [15, 55] (fun lo i wr => ∃ k : Nat, k ≤ n ∧ i = .int .i64 k ∧ lo = .int .i64 (ftC lose delay run x k) ∧ Src wr g (ftX lose delay run x k) true ∧ wr.heap[(w.heap.size + 1)]? = some (.cells #[.pointer (some ⟨g, 0, none⟩)] 23 (0, 0)) ∧ (∃ L, L.length = n ∧ (∀ j, j < k → nth L j = nth (ftL lose delay run x k) j) ∧ Row wr w.heap.size L) ∧ w.grownBy wr (some g)) (fun _ i _ => n - (intOf i).toNat)
    case atStart =>
      refine ⟨0, Nat.zero_le _, rfl, rfl, (HS.out.alloc _).alloc _, (by have := heap_alloc_new (w.alloc (.cells (madeCells #[.int .i64 0] n) 3)) (.cells #[.pointer (some ⟨g, 0, none⟩)] 23); rw [World.size_alloc] at this; exact this), ⟨List.replicate n 0, by simp, fun j h => absurd h (by omega), (row_made w n).alloc _⟩, grown_drew (grown_alloc (grown_alloc (grown_refl _ _) _) _)⟩
    case round =>
      obtain ⟨k, hk, rfl, rfl, hs, hbx, ⟨L, hL, hLk, hrow⟩, hgw⟩ := hrel
      by_cases hlt : k < n
      · obtain ⟨x0, x1⟩ := ft_xbd lose delay run x h0 h1 k
        obtain ⟨y0, y1⟩ := ft_cbd lose delay run x k
        have hp1 := tms_pos _ x0 x1
        have hp2 := (tms_bd (ftX lose delay run x k) 48271).2
        have hlen := ft_len lose delay run x k
        have hhit := fun h => ft_hit lose delay run x k h
        have hmiss := fun h => ft_miss lose delay run x k h
        have HH := Lib.hid hhit; have HM := Lib.hid hmiss; have HLN := Lib.hid hlen
        clear hhit hmiss hlen
        have hbc : wr.cell? ⟨(w.heap.size + 1), 0, none⟩ = some (.pointer (some ⟨g, 0, none⟩)) := by simp [World.cell?, hbx]
        have hgl : g < wr.heap.size := hs.lt
        generalize hX : ftX lose delay run x k = X at *
        generalize hC : ftC lose delay run x k = C at *
        have HX := Lib.hid hX; have HC := Lib.hid hC; clear hX hC
        have s1 := hs.set (tms X 48271)
        have hneB : (w.heap.size + 1) ≠ g := by omega
        have hneL : w.heap.size ≠ g := by omega
        have hneL2 : g ≠ w.heap.size := by omega
        have bc1 : (wr.setCell ⟨g, 0, none⟩ (.int .i64 (tms X 48271))).cell? ⟨(w.heap.size + 1), 0, none⟩ = some (.pointer (some ⟨g, 0, none⟩)) := by rw [World.cell?_setCell_other _ _ _ _ (by simp <;> omega)]; exact hbc
        have D1 := draw36 g (w.heap.size + 1) X 100 wr hbc hs.cells.1 hs.cells.2.2.1 x0 x1 (by omega) (by omega)
        have D2 := draw36 g (w.heap.size + 1) (tms X 48271) (delay + 1) (wr.setCell ⟨g, 0, none⟩ (.int .i64 (tms X 48271))) bc1 s1.cells.1 s1.cells.2.2.1 hp1 hp2 (by omega) (by omega)
        have r2 := (hrow.far (p := ⟨g, 0, none⟩) hneL (.int .i64 (tms X 48271))).far (p := ⟨g, 0, none⟩) hneL (.int .i64 (tms (tms X 48271) 48271))
        obtain ⟨c0, p0⟩ := r2.cell (j := k) (by omega)
        have HD1 := Lib.hid D1; have HD2 := Lib.hid D2; have HR2 := Lib.hid r2; have HS2 := Lib.hid (s1.set (tms (tms X 48271) 48271)); have HL := Lib.hid hL; have HLk := Lib.hid hLk; have HBX := Lib.hid hbx
        clear D1 D2 r2 s1 hs hrow hL hLk hbx hbc bc1
        have hlI : (k : Int) < (n : Int) := by omega
        have hk0 : (0 : Int) ≤ (k : Int) := by omega
        have hCn : C ≤ 256 := by omega
        have hbxf : (((wr.setCell ⟨g, 0, none⟩ (.int .i64 (tms X 48271))).setCell ⟨g, 0, none⟩ (.int .i64 (tms (tms X 48271) 48271)))).heap[(w.heap.size + 1)]? = some (.cells #[.pointer (some ⟨g, 0, none⟩)] 23 (0, 0)) := (Below.heap_setCell _ _ _ _ hneB).trans ((Below.heap_setCell _ _ _ _ hneB).trans HBX.out)
        have HBF := Lib.hid hbxf; clear hbxf
        have hg2 := grown_set (grown_set hgw (.int .i64 (tms X 48271))) (.int .i64 (tms (tms X 48271) 48271))
        have hone : ∀ (v : Int) (F : List Int), F = ftL lose delay run x k ++ [v] → ∀ j, j < k + 1 → nth (L.set k v) j = nth F j := by
          intro v F hF j hj
          rw [hF, nth_set _ _ _ _ (by rw [HL.out]; omega)]
          by_cases e : k = j
          · rw [if_pos e, ← e, nth_app_right _ _ _ (by rw [HLN.out]; omega), HLN.out, Nat.sub_self]; rfl
          · rw [if_neg e, nth_app_left _ _ _ (by rw [HLN.out]; omega)]; exact HLk.out j (by omega)
        have HONE := Lib.hid hone; clear hone
        by_cases ha : drw X 100 < lose
        · by_cases hb : C < run
          · have hf := HH.out ⟨ha, hb⟩
            have HF := Lib.hid hf; clear hf
            go_wp2_with fail
            refine HD1.out.mono ?_
            rintro e w1 ⟨rfl, rfl⟩
            go_wp2_with fail
            refine HD2.out.mono ?_
            rintro e w1 ⟨rfl, rfl⟩
            go_wp2_with fail
            refine ⟨⟨k + 1, by omega, by go_num, by rw [HF.out.2.2], ?_, ?_, ⟨(L.set k (drw (tms X 48271) (delay + 1))).set k (-1), by simp [HL.out], ?_, (HR2.out.set (by rw [HL.out]; omega) _).set (by rw [List.length_set, HL.out]; omega) _⟩, grown_setB (grown_setB hg2 _ _ (by omega)) _ _ (by omega)⟩, by simp [intOf]; omega⟩
            · rw [HF.out.2.1]; exact (HS2.out.far hneL2 _).far hneL2 _
            · exact (Below.heap_setCell _ _ _ _ (by show (w.heap.size + 1) ≠ w.heap.size; omega)).trans ((Below.heap_setCell _ _ _ _ (by show (w.heap.size + 1) ≠ w.heap.size; omega)).trans HBF.out)
            · rw [List.set_set]; exact HONE.out _ _ HF.out.1
          · have hf := HM.out (fun h => hb h.2)
            have HF := Lib.hid hf; clear hf
            go_wp2_with fail
            refine HD1.out.mono ?_
            rintro e w1 ⟨rfl, rfl⟩
            go_wp2_with fail
            refine HD2.out.mono ?_
            rintro e w1 ⟨rfl, rfl⟩
            go_wp2_with fail
            refine ⟨⟨k + 1, by omega, by go_num, by rw [HF.out.2.2], ?_, ?_, ⟨L.set k (drw (tms X 48271) (delay + 1)), by simp [HL.out], ?_, HR2.out.set (by rw [HL.out]; omega) _⟩, grown_setB hg2 _ _ (by omega)⟩, by simp [intOf]; omega⟩
            · rw [HF.out.2.1]; exact HS2.out.far hneL2 _
            · exact (Below.heap_setCell _ _ _ _ (by show (w.heap.size + 1) ≠ w.heap.size; omega)).trans HBF.out
            · exact HONE.out _ _ HF.out.1
        · have hf := HM.out (fun h => ha h.1)
          have HF := Lib.hid hf; clear hf
          go_wp2_with fail
          refine HD1.out.mono ?_
          rintro e w1 ⟨rfl, rfl⟩
          go_wp2_with fail
          refine HD2.out.mono ?_
          rintro e w1 ⟨rfl, rfl⟩
          go_wp2_with fail
          refine ⟨⟨k + 1, by omega, by go_num, by rw [HF.out.2.2], ?_, ?_, ⟨L.set k (drw (tms X 48271) (delay + 1)), by simp [HL.out], ?_, HR2.out.set (by rw [HL.out]; omega) _⟩, grown_setB hg2 _ _ (by omega)⟩, by simp [intOf]; omega⟩
          · rw [HF.out.2.1]; exact HS2.out.far hneL2 _
          · exact (Below.heap_setCell _ _ _ _ (by show (w.heap.size + 1) ≠ w.heap.size; omega)).trans HBF.out
          · exact HONE.out _ _ HF.out.1
      · obtain rfl : k = n := by omega
        have hLr : L = ftL lose delay run x k := nth_ext (by rw [hL, ft_len]) fun j hj => hLk j (by omega)
        subst hLr
        have HR := Lib.hid hrow; have HS3 := Lib.hid hs
        clear hrow hs hbx hLk hL
        go_wp2_with fail
        go_ret2
        exact ⟨_, _, Nat.le_refl _, rfl, HR.out.own (by omega), HS3.out, hgw⟩
  · go_wp2_with fail
    go_loopw [15, 55] (fun lo i wr => ∃ k : Nat, k ≤ n ∧ i = .int .i64 k ∧ lo = .int .i64 (ftC lose delay run x k) ∧ Src wr g (ftX lose delay run x k) true ∧ wr.heap[w.heap.size]? = some (.cells #[.pointer (some ⟨g, 0, none⟩)] 23 (0, 0)) ∧ (∃ L, L.length = n ∧ (∀ j, j < k → nth L j = nth (ftL lose delay run x k) j) ∧ Row wr (w.heap.size + 1) L) ∧ w.grownBy wr (some g)) (fun _ i _ => n - (intOf i).toNat)
    case atStart =>
      refine ⟨0, Nat.zero_le _, rfl, rfl, (HS.out.alloc _).alloc _, (Below.heap_alloc _ _ _ (by simp)).trans (heap_alloc_new _ _), ⟨List.replicate n 0, by simp, fun j h => absurd h (by omega), (by have := row_made (w.alloc (.cells #[.pointer (some ⟨g, 0, none⟩)] 23)) n; rw [World.size_alloc] at this; exact this)⟩, grown_drew (grown_alloc (grown_alloc (grown_refl _ _) _) _)⟩
    case round =>
      obtain ⟨k, hk, rfl, rfl, hs, hbx, ⟨L, hL, hLk, hrow⟩, hgw⟩ := hrel
      by_cases hlt : k < n
      · obtain ⟨x0, x1⟩ := ft_xbd lose delay run x h0 h1 k
        obtain ⟨y0, y1⟩ := ft_cbd lose delay run x k
        have hp1 := tms_pos _ x0 x1
        have hp2 := (tms_bd (ftX lose delay run x k) 48271).2
        have hlen := ft_len lose delay run x k
        have hhit := fun h => ft_hit lose delay run x k h
        have hmiss := fun h => ft_miss lose delay run x k h
        have HH := Lib.hid hhit; have HM := Lib.hid hmiss; have HLN := Lib.hid hlen
        clear hhit hmiss hlen
        have hbc : wr.cell? ⟨w.heap.size, 0, none⟩ = some (.pointer (some ⟨g, 0, none⟩)) := by simp [World.cell?, hbx]
        have hgl : g < wr.heap.size := hs.lt
        generalize hX : ftX lose delay run x k = X at *
        generalize hC : ftC lose delay run x k = C at *
        have HX := Lib.hid hX; have HC := Lib.hid hC; clear hX hC
        have s1 := hs.set (tms X 48271)
        have hneB : w.heap.size ≠ g := by omega
        have hneL : (w.heap.size + 1) ≠ g := by omega
        have hneL2 : g ≠ (w.heap.size + 1) := by omega
        have bc1 : (wr.setCell ⟨g, 0, none⟩ (.int .i64 (tms X 48271))).cell? ⟨w.heap.size, 0, none⟩ = some (.pointer (some ⟨g, 0, none⟩)) := by rw [World.cell?_setCell_other _ _ _ _ (by simp <;> omega)]; exact hbc
        have D1 := draw36 g w.heap.size X 100 wr hbc hs.cells.1 hs.cells.2.2.1 x0 x1 (by omega) (by omega)
        have D2 := draw36 g w.heap.size (tms X 48271) (delay + 1) (wr.setCell ⟨g, 0, none⟩ (.int .i64 (tms X 48271))) bc1 s1.cells.1 s1.cells.2.2.1 hp1 hp2 (by omega) (by omega)
        have r2 := (hrow.far (p := ⟨g, 0, none⟩) hneL (.int .i64 (tms X 48271))).far (p := ⟨g, 0, none⟩) hneL (.int .i64 (tms (tms X 48271) 48271))
        obtain ⟨c0, p0⟩ := r2.cell (j := k) (by omega)
        have HD1 := Lib.hid D1; have HD2 := Lib.hid D2; have HR2 := Lib.hid r2; have HS2 := Lib.hid (s1.set (tms (tms X 48271) 48271)); have HL := Lib.hid hL; have HLk := Lib.hid hLk; have HBX := Lib.hid hbx
        clear D1 D2 r2 s1 hs hrow hL hLk hbx hbc bc1
        have hlI : (k : Int) < (n : Int) := by omega
        have hk0 : (0 : Int) ≤ (k : Int) := by omega
        have hCn : C ≤ 256 := by omega
        have hbxf : (((wr.setCell ⟨g, 0, none⟩ (.int .i64 (tms X 48271))).setCell ⟨g, 0, none⟩ (.int .i64 (tms (tms X 48271) 48271)))).heap[w.heap.size]? = some (.cells #[.pointer (some ⟨g, 0, none⟩)] 23 (0, 0)) := (Below.heap_setCell _ _ _ _ hneB).trans ((Below.heap_setCell _ _ _ _ hneB).trans HBX.out)
        have HBF := Lib.hid hbxf; clear hbxf
        have hg2 := grown_set (grown_set hgw (.int .i64 (tms X 48271))) (.int .i64 (tms (tms X 48271) 48271))
        have hone : ∀ (v : Int) (F : List Int), F = ftL lose delay run x k ++ [v] → ∀ j, j < k + 1 → nth (L.set k v) j = nth F j := by
          intro v F hF j hj
          rw [hF, nth_set _ _ _ _ (by rw [HL.out]; omega)]
          by_cases e : k = j
          · rw [if_pos e, ← e, nth_app_right _ _ _ (by rw [HLN.out]; omega), HLN.out, Nat.sub_self]; rfl
          · rw [if_neg e, nth_app_left _ _ _ (by rw [HLN.out]; omega)]; exact HLk.out j (by omega)
        have HONE := Lib.hid hone; clear hone
        by_cases ha : drw X 100 < lose
        · by_cases hb : C < run
          · have hf := HH.out ⟨ha, hb⟩
            have HF := Lib.hid hf; clear hf
            go_wp2_with fail
            refine HD1.out.mono ?_
            rintro e w1 ⟨rfl, rfl⟩
            go_wp2_with fail
            refine HD2.out.mono ?_
            rintro e w1 ⟨rfl, rfl⟩
            go_wp2_with fail
            refine ⟨⟨k + 1, by omega, by go_num, by rw [HF.out.2.2], ?_, ?_, ⟨(L.set k (drw (tms X 48271) (delay + 1))).set k (-1), by simp [HL.out], ?_, (HR2.out.set (by rw [HL.out]; omega) _).set (by rw [List.length_set, HL.out]; omega) _⟩, grown_setB (grown_setB hg2 _ _ (by omega)) _ _ (by omega)⟩, by simp [intOf]; omega⟩
            · rw [HF.out.2.1]; exact (HS2.out.far hneL2 _).far hneL2 _
            · exact (Below.heap_setCell _ _ _ _ (by show w.heap.size ≠ (w.heap.size + 1); omega)).trans ((Below.heap_setCell _ _ _ _ (by show w.heap.size ≠ (w.heap.size + 1); omega)).trans HBF.out)
            · rw [List.set_set]; exact HONE.out _ _ HF.out.1
          · have hf := HM.out (fun h => hb h.2)
            have HF := Lib.hid hf; clear hf
            go_wp2_with fail
            refine HD1.out.mono ?_
            rintro e w1 ⟨rfl, rfl⟩
            go_wp2_with fail
            refine HD2.out.mono ?_
            rintro e w1 ⟨rfl, rfl⟩
            go_wp2_with fail
            refine ⟨⟨k + 1, by omega, by go_num, by rw [HF.out.2.2], ?_, ?_, ⟨L.set k (drw (tms X 48271) (delay + 1)), by simp [HL.out], ?_, HR2.out.set (by rw [HL.out]; omega) _⟩, grown_setB hg2 _ _ (by omega)⟩, by simp [intOf]; omega⟩
            · rw [HF.out.2.1]; exact HS2.out.far hneL2 _
            · exact (Below.heap_setCell _ _ _ _ (by show w.heap.size ≠ (w.heap.size + 1); omega)).trans HBF.out
            · exact HONE.out _ _ HF.out.1
        · have hf := HM.out (fun h => ha h.1)
          have HF := Lib.hid hf; clear hf
          go_wp2_with fail
          refine HD1.out.mono ?_
          rintro e w1 ⟨rfl, rfl⟩
          go_wp2_with fail
          refine HD2.out.mono ?_
          rintro e w1 ⟨rfl, rfl⟩
          go_wp2_with fail
          refine ⟨⟨k + 1, by omega, by go_num, by rw [HF.out.2.2], ?_, ?_, ⟨L.set k (drw (tms X 48271) (delay + 1)), by simp [HL.out], ?_, HR2.out.set (by rw [HL.out]; omega) _⟩, grown_setB hg2 _ _ (by omega)⟩, by simp [intOf]; omega⟩
          · rw [HF.out.2.1]; exact HS2.out.far hneL2 _
          · exact (Below.heap_setCell _ _ _ _ (by show w.heap.size ≠ (w.heap.size + 1); omega)).trans HBF.out
          · exact HONE.out _ _ HF.out.1
      · obtain rfl : k = n := by omega
        have hLr : L = ftL lose delay run x k := nth_ext (by rw [hL, ft_len]) fun j hj => hLk j (by omega)
        subst hLr
        have HR := Lib.hid hrow; have HS3 := Lib.hid hs
        clear hrow hs hbx hLk hL
        go_wp2_with fail
        go_ret2
        exact ⟨_, _, Nat.le_refl _, rfl, HR.out.own (by omega), HS3.out, hgw⟩

theorem fates23e (g : Nat) (x n lose delay run : Int) (w : World) (h : Src w g x true) (hn : ¬ okF n lose delay run) :
    Calls Try.prog 23 #[.pointer (some ⟨g, 0, none⟩), .int .i64 n, .int .i64 lose, .int .i64 delay, .int .i64 run] w fun e w' => e = .returned (.tuple #[.slice none 0 0, .int .i64 1]) ∧ w = w' := by
  have H0 := check32t g x false w h
  simp only [Bool.false_eq_true, if_false] at H0
  have H := Lib.hid H0
  clear H0 h
  have hd : decide (0 ≤ n) = false ∨ (0 ≤ n ∧ decide (n ≤ 256) = false) ∨ (0 ≤ n ∧ n ≤ 256 ∧ decide (0 ≤ lose) = false) ∨ (0 ≤ n ∧ n ≤ 256 ∧ 0 ≤ lose ∧ decide (lose ≤ 100) = false) ∨ (0 ≤ n ∧ n ≤ 256 ∧ 0 ≤ lose ∧ lose ≤ 100 ∧ decide (0 ≤ delay) = false) ∨ (0 ≤ n ∧ n ≤ 256 ∧ 0 ≤ lose ∧ lose ≤ 100 ∧ 0 ≤ delay ∧ decide (delay ≤ 8) = false) ∨ (0 ≤ n ∧ n ≤ 256 ∧ 0 ≤ lose ∧ lose ≤ 100 ∧ 0 ≤ delay ∧ delay ≤ 8 ∧ decide (0 ≤ run) = false) := by
    unfold okF at hn
    simp only [decide_eq_false_iff_not]; omega
  clear hn
  rcases hd with d | ⟨d0, d⟩ | ⟨d0, d1, d⟩ | ⟨d0, d1, d2, d⟩ | ⟨d0, d1, d2, d3, d⟩ | ⟨d0, d1, d2, d3, d4, d⟩ | ⟨d0, d1, d2, d3, d4, d5, d⟩
  all_goals
    go_enter Try.func23, Try.ntmps23
    go_wp2_with fail
    refine H.out.mono ?_
    rintro e w1 ⟨rfl, rfl⟩
    go_wp2_with fail
    go_ret2
    exact ⟨rfl, rfl⟩
theorem fates23f (g : Nat) (x n lose delay run : Int) (w : World) (h : Src w g x false) :
    Calls Try.prog 23 #[.pointer (some ⟨g, 0, none⟩), .int .i64 n, .int .i64 lose, .int .i64 delay, .int .i64 run] w fun e w' => e = .returned (.tuple #[.slice none 0 0, .int .i64 11]) ∧ w = w' := by
  have H := Lib.hid (fun r => check32f g x r w h)
  clear h
  by_cases hn : okF n lose delay run
  · obtain ⟨d0, d1, d2, d3, d4, d5, d6⟩ := hn
    go_enter Try.func23, Try.ntmps23
    go_wp2_with fail
    refine (H.out true).mono ?_
    rintro e w1 ⟨rfl, rfl⟩
    go_wp2_with fail
    go_ret2
    exact ⟨rfl, rfl⟩
  · have hd : decide (0 ≤ n) = false ∨ (0 ≤ n ∧ decide (n ≤ 256) = false) ∨ (0 ≤ n ∧ n ≤ 256 ∧ decide (0 ≤ lose) = false) ∨ (0 ≤ n ∧ n ≤ 256 ∧ 0 ≤ lose ∧ decide (lose ≤ 100) = false) ∨ (0 ≤ n ∧ n ≤ 256 ∧ 0 ≤ lose ∧ lose ≤ 100 ∧ decide (0 ≤ delay) = false) ∨ (0 ≤ n ∧ n ≤ 256 ∧ 0 ≤ lose ∧ lose ≤ 100 ∧ 0 ≤ delay ∧ decide (delay ≤ 8) = false) ∨ (0 ≤ n ∧ n ≤ 256 ∧ 0 ≤ lose ∧ lose ≤ 100 ∧ 0 ≤ delay ∧ delay ≤ 8 ∧ decide (0 ≤ run) = false) := by
      unfold okF at hn
      simp only [decide_eq_false_iff_not]; omega
    clear hn
    rcases hd with d | ⟨d0, d⟩ | ⟨d0, d1, d⟩ | ⟨d0, d1, d2, d⟩ | ⟨d0, d1, d2, d3, d⟩ | ⟨d0, d1, d2, d3, d4, d⟩ | ⟨d0, d1, d2, d3, d4, d5, d⟩
    all_goals
      go_enter Try.func23, Try.ntmps23
      go_wp2_with fail
      refine (H.out false).mono ?_
      rintro e w1 ⟨rfl, rfl⟩
      go_wp2_with fail
      go_ret2
      exact ⟨rfl, rfl⟩
end Go.Proofs.Ytfpogcdffccldaa
