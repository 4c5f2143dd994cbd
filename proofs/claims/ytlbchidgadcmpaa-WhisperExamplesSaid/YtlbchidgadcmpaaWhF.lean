/- Plan of package whisper. -/
import Derived.Test.YtlbchidgadcmpaaRows
import Derived.WalkKit
import Derived.WalkLawsBesides
import Derived.WalkSpells
import Derived.ProofKit
import Derived.Below
import Derived.Outline
import Derived.Lib.Hide
import Derived.Deep.RegionWith
import Derived.Deep.RegionHeld3
import Derived.Deep.DrawnRows
import Derived.StillTailTactics
import Derived.BigQuiet
import Derived.Deep.QuietTactic
import Derived.Deep.LoopGhost
import Derived.IntWalk
import Derived.Test.YtlbchidgadcmpaaWhE
namespace Go.Proofs.Ytlbchidgadcmpaa
open Go.RowKit Go.Maps
attribute [local go_sem ↓] Go.wp_at_zero Go.wp_at_succ
attribute [local go_sem] wrap_lit

theorem Step_info : (Try.prog.info? 44).map (fun i => (i.zero, i.size, i.bytes)) = some (some (.agg #[.int .i64 0, .int .i64 0]), 2, 16) := by kernel_rfl
theorem info256 : (Try.prog.info? 53).map (fun i => i.zero) = some (some (.agg (Array.replicate 256 (.int .i64 0)))) := by kernel_rfl
theorem zero256 (W : World) : Sem.run Try.prog (zeroValue 53) W = .ok (.agg (Array.replicate 256 (.int .i64 0))) W := by
  have h := info256
  rcases hi : Try.prog.info? 53 with _ | i
  · rw [hi] at h; cases h
  · rw [hi] at h
    simp only [Option.map_some, Option.some.injEq] at h
    simp [zeroValue, typeInfo, hi, h]
/-- The table while it is counted, and while it is summed. -/
def c1L (xs : List Int) (k : Nat) : List Int := (List.range 256).map fun s => (cnt (xs.take k) (((s : Nat) : Int) - 1) ((s : Nat) : Int) : Int)
def c2L (xs : List Int) (m : Nat) : List Int := (List.range 256).map fun s => if s < m then (cnt xs 0 ((s : Nat) : Int) : Int) else (cnt xs (((s : Nat) : Int) - 1) ((s : Nat) : Int) : Int)
theorem c1L_len (xs : List Int) (k : Nat) : (c1L xs k).length = 256 := by unfold c1L; rw [List.length_map, List.length_range]
theorem c2L_len (xs : List Int) (k : Nat) : (c2L xs k).length = 256 := by unfold c2L; rw [List.length_map, List.length_range]
theorem nth_map_range (f : Nat → Int) (n s : Nat) (h : s < n) : nth ((List.range n).map f) s = f s := by
  unfold nth; rw [List.getD_eq_getElem?_getD]; simp [h]
theorem c1L_nth (xs : List Int) (k s : Nat) (h : s < 256) : nth (c1L xs k) s = (cnt (xs.take k) ((s : Int) - 1) (s : Int) : Int) := nth_map_range _ _ _ h
theorem c2L_nth (xs : List Int) (k s : Nat) (h : s < 256) : nth (c2L xs k) s = if s < k then (cnt xs 0 (s : Int) : Int) else (cnt xs ((s : Int) - 1) (s : Int) : Int) := nth_map_range _ _ _ h
theorem c1L_zero (xs : List Int) : c1L xs 0 = List.replicate 256 0 := by
  apply nth_ext (by rw [c1L_len, List.length_replicate])
  intro j hj
  rw [c1L_len] at hj
  rw [c1L_nth _ _ _ hj, nth_zero]; rfl
theorem c1L_step (xs : List Int) (k x : Nat) (hk : k < xs.length) (hx : nth xs k = (x : Int)) (h256 : x < 256) : c1L xs (k + 1) = (c1L xs k).set x ((cnt (xs.take k) ((x : Int) - 1) (x : Int) : Int) + 1) := by
  apply nth_ext (by rw [c1L_len, List.length_set, c1L_len])
  intro j hj
  rw [c1L_len] at hj
  rw [c1L_nth _ _ _ hj, nth_set _ _ _ _ (by rw [c1L_len]; omega), c1L_nth _ _ _ hj, take_nth _ _ hk, cnt_snoc, hx]
  by_cases e : j = x
  · subst e; rw [if_pos rfl, if_pos (by omega)]; push_cast; rfl
  · rw [if_neg e, if_neg (by omega), Nat.add_zero]
theorem cnt_pos : ∀ (xs : List Int), (∀ k, k < xs.length → 1 ≤ nth xs k) → cnt xs (-1) 0 = 0
  | [], _ => rfl
  | x :: xs, h => by
    have h0 : 1 ≤ x := h 0 (by simp)
    have ih := cnt_pos xs fun k hk => h (k + 1) (by simpa using hk)
    unfold cnt at ih ⊢
    rw [List.filter_cons, if_neg (by simp; omega)]
    exact ih
theorem c1L_c2L (xs : List Int) (h : ∀ k, k < xs.length → 1 ≤ nth xs k) : c1L xs xs.length = c2L xs 1 := by
  apply nth_ext (by rw [c1L_len, c2L_len])
  intro j hj
  rw [c1L_len] at hj
  rw [c1L_nth _ _ _ hj, c2L_nth _ _ _ hj, List.take_length]
  by_cases e : j < 1
  · obtain rfl : j = 0 := by omega
    rw [if_pos e, cnt_none (show ((0 : Nat) : Int) ≤ 0 by omega)]
    have := cnt_pos xs h
    rw [show (((0 : Nat) : Int) - 1) = -1 by omega, show ((0 : Nat) : Int) = 0 from rfl, this]; rfl
  · rw [if_neg e]
theorem c2L_step (xs : List Int) (s : Nat) (h : s + 1 < 256) : c2L xs (s + 1 + 1) = (c2L xs (s + 1)).set (s + 1) ((cnt xs (s : Int) ((s + 1 : Nat) : Int) : Int) + (cnt xs 0 (s : Int) : Int)) := by
  apply nth_ext (by rw [c2L_len, List.length_set, c2L_len])
  intro j hj
  rw [c2L_len] at hj
  rw [c2L_nth _ _ _ hj, nth_set _ _ _ _ (by rw [c2L_len]; omega), c2L_nth _ _ _ hj]
  by_cases e : j = s + 1
  · subst e
    rw [if_pos (by omega), if_pos rfl, cnt_split xs 0 (s : Int) ((s + 1 : Nat) : Int) (by omega) (by omega)]; push_cast; omega
  · rw [if_neg e]
    by_cases g : j < s + 1
    · rw [if_pos g, if_pos (by omega)]
    · rw [if_neg g, if_neg (by omega)]
theorem c2L_up (xs : List Int) : c2L xs 256 = upL xs := by
  apply nth_ext (by rw [c2L_len, upL_len])
  intro j hj
  rw [c2L_len] at hj
  rw [c2L_nth _ _ _ hj, upL_nth _ _ hj, if_pos hj]
theorem plE_n {xs : List Int} {most : Int} (h : ¬ ckN xs = 0) : plE xs most = ckN xs := by unfold plE; rw [if_neg h]
theorem plE_1 {xs : List Int} {most : Int} (h : ckN xs = 0) (hm : most < 1) : plE xs most = 1 := by unfold plE; rw [if_pos h, if_pos hm]
theorem plE_9 {xs : List Int} {most : Int} (h : ckN xs = 0) (hm : 1 ≤ most) {s : Nat} (hs : s < 255) (h9 : most < (cnt xs s ((s + 1 : Nat) : Int) : Int)) : plE xs most = 9 := by
  unfold plE
  rw [if_pos h, if_neg (by omega), if_neg]
  intro hA
  have := hA s hs
  push_cast at h9
  omega
theorem plE_4 {xs : List Int} {most : Int} (h : ckN xs = 0) (hm : 1 ≤ most) (hf : ∀ s : Nat, s < 255 → (cnt xs s ((s + 1 : Nat) : Int) : Int) ≤ most) (h4 : 32 < F (Al xs most) 0) : plE xs most = 4 := by
  unfold plE
  rw [if_pos h, if_neg (by omega), if_pos (fun s hs => by have := hf s hs; push_cast at this; exact this), if_pos h4]
theorem KmD.init (xs : List Int) (most : Int) : KmD xs most ((DataW.map [] : DataW Unit).put (.int .i64 255) (.lit (.int .i64 0))) := by
  refine ⟨isMap_empty.put _ _, has_put_same isMap_empty (by trivial) _, fun x hx hh => ?_⟩
  by_cases e : x = 255
  · subst e; exact atKey_put_same isMap_empty (by trivial) _ _
  · rw [has_put_other fun g => e (by injection g with _ g; omega)] at hh
    cases hh
def PlP (w : World) (E : Int) (l : List (Int × Int)) (e : Ending) (w' : World) : Prop := ∃ v, e = .returned (.tuple #[v, .int .i64 E]) ∧ Acc .i64 w' w.heap.size 44 2 v l.length (flatS l) ∧ Below w.heap.size w w'
theorem plp_nil {w w' : World} {E : Int} (h : Below w.heap.size w w') : PlP w E [] (.returned (.tuple #[.slice none 0 0, .int .i64 E])) w' := ⟨_, rfl, Acc.nil _ _ _ _ _, h⟩
theorem PlS.below {xs : List Int} {most : Int} {kB uB oB fB mB n Q : Nat} {W W' : World} (h : PlS xs most kB uB oB fB mB W n) (hb : Below Q W W') (hk : kB < Q) (hu : uB < Q) (ho : oB < Q) (hf : fB < Q) (hm : mB < Q) : PlS xs most kB uB oB fB mB W' n where
  kc := (hb.cell (p := ⟨kB, 0, none⟩) hk).trans h.kc
  up := by
    obtain ⟨cs, h1, h2⟩ := h.up
    exact ⟨cs, (hb.block uB hu).trans h1, h2⟩
  oc := (hb.cell (p := ⟨oB, 0, none⟩) ho).trans h.oc
  fc := (hb.cell (p := ⟨fB, 0, none⟩) hf).trans h.fc
  mp := by
    obtain ⟨D, ⟨es, clock, h1, h2⟩, h3⟩ := h.mp
    exact ⟨D, ⟨es, clock, (hb.block mB hm).trans h1, h2⟩, h3⟩
  nk := h.nk
  nu := h.nu
  no := h.no
  nf := h.nf
theorem Below.ofGrown {B m : Nat} {a w w' : World} (h : Below B a w) (hg : w.grownBy w' (some m)) (hm : B ≤ m) (hs : B ≤ w.heap.size) : Below B a w' :=
  ⟨hg.os.trans h.os, hg.tape.trans h.tape, hg.output.trans h.output, Nat.le_trans h.size hg.size, fun k hk => (hg.block k (by omega) (by simp; omega)).trans (h.block k hk)⟩
theorem Acc.grown9 {w w' : World} {m base : Nat} {e : TypeId} {size n : Nat} {v : Value} {ys : List Int} (h : Acc .i64 w base e size v n ys) (hg : w.grownBy w' (some m)) (hm : m < base) : Acc .i64 w' base e size v n ys := by
  obtain ⟨hl, h0 | ⟨g, cap, cur, e1, hb, hh, hrest⟩⟩ := h
  · exact ⟨hl, .inl h0⟩
  · exact ⟨hl, .inr ⟨g, cap, cur, e1, hb, (hg.block g (heap_lt hh) (by simp; omega)).trans hh, hrest⟩⟩

set_option maxHeartbeats 1000000 in
theorem plan25a (A : Option Addr) (cap : Nat) (xs : List Int) (most : Int) (B : Nat) (w : World) (hB : B ≤ w.heap.size) (hA : Is .i64 w B A xs) (hl : xs.length ≤ 1000000) (h : ¬ ckN xs = 0 ∨ most < 1) :
    Calls Try.prog 25 #[.slice A xs.length cap, .int .i64 most] w (PlP w (plE xs most) (plL xs most)) := by
  have C := Lib.hid (sens30 A cap xs B (w.alloc (.cells #[.int .i64 most] 3)) (hA.below ((Below.refl _ _).alloc hB _)) hl)
  have Bw := Lib.hid (show Below w.heap.size w (w.alloc (.cells #[.int .i64 most] 3)) from (Below.refl _ _).alloc (Nat.le_refl _) _)
  by_cases h0 : ckN xs = 0
  · have hm : most < 1 := h.resolve_left (fun g => g h0)
    have e := plE_1 h0 hm
    rw [plL_bad (by rw [e]; decide), e]
    have b1 : (ckN xs != 0) = false := by simp [h0]
    clear hA h h0 e
    go_enter Try.func25, Try.ntmps25
    go_wp2_with fail
    refine C.out.mono ?_
    rintro e w1 ⟨rfl, rfl⟩
    go_wp2_with fail
    go_ret2
    exact plp_nil Bw.out
  · have e := plE_n (most := most) h0
    rw [plL_bad (by rw [e]; exact h0), e]
    have b1 : (ckN xs != 0) = true := by simp [h0]
    clear hA h h0 e
    go_enter Try.func25, Try.ntmps25
    go_wp2_with fail
    refine C.out.mono ?_
    rintro e w1 ⟨rfl, rfl⟩
    go_wp2_with fail
    go_ret2
    exact plp_nil Bw.out
set_option maxRecDepth 100000 in
set_option maxHeartbeats 8000000 in
theorem plan25b (A : Option Addr) (cap : Nat) (xs : List Int) (most : Int) (B : Nat) (w : World) (hB : B ≤ w.heap.size) (hA : Is .i64 w B A xs) (hl : xs.length ≤ 1000000) (h0 : ckN xs = 0) (hm : 1 ≤ most) :
    Calls Try.prog 25 #[.slice A xs.length cap, .int .i64 most] w (PlP w (plE xs most) (plL xs most)) := by
  obtain ⟨oB, hoB⟩ : ∃ oB, oB = w.heap.size := ⟨_, rfl⟩
  have C := sens30 A cap xs B (w.alloc (.cells #[.int .i64 most] 3)) (hA.below ((Below.refl _ _).alloc hB _)) hl
  rw [h0] at C
  have C := Lib.hid C
  have H0 := Lib.hid h0
  obtain ⟨l64, hok⟩ := ckN_ok.1 h0
  have HOK := Lib.hid hok
  have HA := Lib.hid hA
  obtain ⟨Z, hZ⟩ : ∃ Z, Z = Array.replicate 256 (Value.int .i64 0) := ⟨_, rfl⟩
  have z0 : ∀ W : World, Sem.run Try.prog (zeroValue 53) W = .ok (.agg Z) W := by rw [hZ]; exact zero256
  have z1 : ¬ Z = #[] := by rw [hZ]; exact fun e => by have := congrArg Array.size e; simp at this
  have HZ := Lib.hid hZ
  have hmd : decide (most < 1) = false := decide_eq_false (by omega)
  clear hZ h0 hok hA
  go_enter Try.func25, Try.ntmps25
  go_wp2_with fail
  refine C.out.mono ?_
  rintro e w1 ⟨rfl, rfl⟩
  go_wp2_with fail
  clear z0 z1 hmd
  obtain ⟨X, hX⟩ : ∃ X, X = w.alloc (.cells #[.int .i64 most] 3) := ⟨_, rfl⟩
  have BX : Below w.heap.size w X := by rw [hX]; exact (Below.refl _ _).alloc (Nat.le_refl _) _
  have zX : X.heap.size = oB + 1 := by rw [hX, hoB]; simp
  have oX : X.heap[oB]? = some (.cells #[.int .i64 most] 3 (0, 0)) := by rw [hX, hoB]; exact heap_alloc_new w _
  have HI := Lib.hid (show OutB (X.alloc (.cells Z 53)) (oB + 1) 53 (c1L xs 0) ∧ (X.alloc (.cells Z 53)).heap[oB]? = some (.cells #[.int .i64 most] 3 (0, 0)) ∧ Below w.heap.size w (X.alloc (.cells Z 53)) by
    rw [c1L_zero, HZ.out, ← zX]; exact ⟨OutB.madeA X 256 _, (Below.heap_alloc X _ _ (by omega)).trans oX, BX.alloc BX.size _⟩)
  have hwo : w.heap.size ≤ oB := by omega
  have eo : w.heap.size = oB := hoB.symm
  rw [← hX]
  rw [eo]
  have Heo := Lib.hid eo
  clear hX zX oX BX eo hoB
  go_loopw [24] (fun i wr => ∃ k : Nat, k ≤ xs.length ∧ i = .int .i64 k ∧ OutB wr (oB + 1) 53 (c1L xs k) ∧ wr.heap[oB]? = some (.cells #[.int .i64 most] 3 (0, 0)) ∧ Below w.heap.size w wr) (fun i _ => xs.length - (intOf i).toNat)
  case atStart => exact ⟨0, Nat.zero_le _, rfl, HI.out⟩
  case round =>
    clear HI
    obtain ⟨k, hk, rfl, hO, ho, hb⟩ := hrel
    have HO := Lib.hid hO
    have HB := Lib.hid hb
    have Ho := Lib.hid ho
    clear hO hb ho
    by_cases hlt : k < xs.length
    · obtain ⟨b, off, rfl, hbb, hc⟩ := (HA.out.below (HB.out.mono hB)) (by omega)
      have c1 := hc k hlt
      have hkI : (k : Int) < (xs.length : Int) := by omega
      have hk0 : (0 : Int) ≤ (k : Int) := by omega
      have hs := snOk_at HOK.out hlt
      obtain ⟨x, hx⟩ : ∃ x : Nat, nth xs k = (x : Int) := ⟨(nth xs k).toNat, by omega⟩
      rw [hx] at c1 hs
      have HS := Lib.hid (c1L_step xs k x hlt hx (by omega))
      have o1 := HO.out.cell (j := x) (by rw [c1L_len]; omega)
      have o2 := HO.out.frozen x
      rw [c1L_nth _ _ _ (by omega)] at o1
      have l1 := cnt_le (xs.take k) ((x : Int) - 1) (x : Int)
      have l2 := List.length_take_le k xs
      obtain ⟨v, hv⟩ : ∃ v : Int, v = (cnt (xs.take k) ((x : Int) - 1) (x : Int) : Int) := ⟨_, rfl⟩
      rw [← hv] at o1 HS
      have v0 : 0 ≤ v := by omega
      have v1 : v ≤ 64 := by omega
      have e1 : (x : Int) < 256 := by omega
      have e2 : (0 : Int) ≤ (x : Int) := by omega
      clear hc hs hx hv l1 l2
      go_wp2_with fail
      exact ⟨⟨k + 1, by omega, by go_num, by rw [HS.out]; exact HO.out.set x (v + 1) (by rw [c1L_len]; omega), (Below.heap_setCell _ _ _ _ (by show oB ≠ oB + 1; omega)).trans Ho.out, HB.out.setCell (p := ⟨oB + 1, x, none⟩) (by show w.heap.size ≤ oB + 1; omega) _⟩, by simp [intOf]; omega⟩
    · obtain rfl : k = xs.length := by omega
      have HI := Lib.hid (show OutB wr (oB + 1) 53 (c2L xs 1) by rw [← c1L_c2L xs fun k hk => (snOk_at HOK.out hk).1]; exact HO.out)
      clear HO
      go_wp2_with fail
      go_loopw [4, 5, 10] (fun o z i wr => ∃ s : Nat, s ≤ 255 ∧ i = .int .i64 ((s + 1 : Nat) : Int) ∧ o = .slice none 0 0 ∧ z = .int .i64 0 ∧ OutB wr (oB + 1) 53 (c2L xs (s + 1)) ∧ wr.heap[oB]? = some (.cells #[.int .i64 most] 3 (0, 0)) ∧ Below w.heap.size w wr ∧ (∀ t, t < s → (cnt xs (t : Int) ((t + 1 : Nat) : Int) : Int) ≤ most)) (fun _ _ i _ => 256 - (intOf i).toNat)
      case atStart => exact ⟨0, by omega, rfl, rfl, rfl, HI.out, Ho.out, HB.out, fun t h => absurd h (by omega)⟩
      case round =>
        clear HI HB Ho
        obtain ⟨s, hs, rfl, rfl, rfl, hO, ho, hb, hfit⟩ := hrel
        have HO := Lib.hid hO
        have HB := Lib.hid hb
        have Ho := Lib.hid ho
        have HFit := Lib.hid hfit
        clear hO hb hfit
        by_cases hlt : s < 255
        · have o1 := HO.out.cell (j := s + 1) (by rw [c2L_len]; omega)
          have o2 := HO.out.frozen (s + 1)
          have o3 := HO.out.cell (j := s) (by rw [c2L_len]; omega)
          rw [c2L_nth _ _ _ (by omega), if_neg (by omega), show ((s + 1 : Nat) : Int) - 1 = (s : Int) by omega] at o1
          rw [c2L_nth _ _ _ (by omega), if_pos (by omega)] at o3
          have o4 : wr.cell? ⟨oB, 0, none⟩ = some (.int .i64 most) := by simp [World.cell?, ho]
          have HS := Lib.hid (c2L_step xs s (by omega))
          have l1 := cnt_le xs (s : Int) ((s + 1 : Nat) : Int)
          have l2 := cnt_le xs 0 (s : Int)
          have h9 := fun h9 => plE_9 H0.out hm hlt h9
          have HF := Lib.hid (show (cnt xs (s : Int) ((s + 1 : Nat) : Int) : Int) ≤ most → ∀ t, t < s + 1 → (cnt xs (t : Int) ((t + 1 : Nat) : Int) : Int) ≤ most from fun h t ht => by
            rcases Nat.lt_or_ge t s with g | g
            · exact HFit.out t g
            · obtain rfl : t = s := by omega
              exact h)
          obtain ⟨v, hv⟩ : ∃ v : Int, v = (cnt xs (s : Int) ((s + 1 : Nat) : Int) : Int) := ⟨_, rfl⟩
          obtain ⟨u, hu⟩ : ∃ u : Int, u = (cnt xs 0 (s : Int) : Int) := ⟨_, rfl⟩
          rw [← hv] at o1 HS h9 HF
          rw [← hu] at o3 HS
          have v0 : 0 ≤ v := by omega
          have v1 : v ≤ 64 := by omega
          have u0 : 0 ≤ u := by omega
          have u1 : u ≤ 64 := by omega
          have H9 := Lib.hid h9
          have e1 : (s : Int) + 1 < 256 := by omega
          have e2 : (0 : Int) ≤ (s : Int) + 1 := by omega
          have e3 : (s : Int) + 1 ≤ 255 := by omega
          have e4 : ((s : Int) + 1) - 1 = (s : Int) := by omega
          have e5 : (0 : Int) ≤ (s : Int) := by omega
          have e6 : (s : Int) < 256 := by omega
          clear hv hu l1 l2 h9 ho
          by_cases g : most < v
          · have hE := H9.out g
            have HPl := Lib.hid (show plL xs most = [] from plL_bad (by rw [hE]; decide))
            have HE := Lib.hid hE
            have d1 : decide (most < v) = true := decide_eq_true g
            clear hE
            go_wp2_with fail
            go_quiet (fail)
            go_wp2_with fail
            go_ret2
            rw [HPl.out, HE.out]
            exact plp_nil (below_drewN HB.out _)
          · have d1 : decide (most < v) = false := decide_eq_false g
            have hvm : v ≤ most := by omega
            have ws : IntKind.i64.wrap (v + u) = v + u := IntWalk.i64_in _ (by omega)
            have wq : IntKind.i64.wrap (s : Int) = (s : Int) := IntWalk.i64_in _ (by omega)
            have wr1 : IntKind.i64.wrap ((s : Int) + 1 - 1) = (s : Int) := by rw [e4]; exact wq
            go_wp2_with fail
            go_quiet (fail)
            obtain ⟨Y, hY⟩ : ∃ Y, Y = wr.drewN nq := ⟨_, rfl⟩
            have q1 : Y.cell? ⟨oB + 1, s + 1, none⟩ = some (.int .i64 v) := by rw [hY]; exact o1
            have q2 : Y.frozen? ⟨oB + 1, s + 1, none⟩ = false := by rw [hY]; exact o2
            have q3 : Y.cell? ⟨oB + 1, s, none⟩ = some (.int .i64 u) := by rw [hY]; exact o3
            have HY := Lib.hid (show OutB Y (oB + 1) 53 (c2L xs (s + 1)) ∧ Y.heap[oB]? = some (.cells #[.int .i64 most] 3 (0, 0)) ∧ Below w.heap.size w Y by rw [hY]; exact ⟨HO.out.drewN nq, Ho.out, below_drewN HB.out nq⟩)
            rw [← hY]
            clear hY o1 o2 o3 o4 d1 g
            go_wp2_with fail
            refine still_drew 8 (by kernel_rfl) (by kernel_rfl) ?_
            simp only [List.take_succ_cons, List.take_zero, List.drop_succ_cons, List.drop_zero]
            repeat still_step
            refine wpStill_nil ?_
            go_wp2_with fail
            obtain ⟨y1, y2, y3⟩ := HY.out
            exact ⟨⟨s + 1, by omega, by go_num, rfl, rfl, by rw [HS.out]; exact (y1.set (s + 1) (v + u) (by rw [c2L_len]; omega)).drew, (Below.heap_setCell _ _ _ _ (by show oB ≠ oB + 1; omega)).trans y2, (y3.setCell (p := ⟨oB + 1, s + 1, none⟩) (by show w.heap.size ≤ oB + 1; omega) _).drew, HF.out hvm⟩, by simp [intOf]; omega⟩
        · obtain rfl : s = 255 := by omega
          have HU := Lib.hid (show OutB wr (oB + 1) 53 (upL xs) by rw [← c2L_up]; exact HO.out)
          clear HO ho
          obtain ⟨V, hV⟩ : ∃ V : World, V = wr := ⟨_, rfl⟩
          subst hV
          obtain ⟨W7, hrun, own7, g7⟩ := (World.ownsMap_made V Try.prog 3 (plainElem (H := Unit) Try.prog 3)).update (key := .int .i64 255) (val := .int .i64 0) keys Try.underlying54 (by unfold maxLen; omega) (keyOf_int_mk Try.underlying3 (WalkArith.wf_i64 (by omega))) (plainElem_int Try.underlying3 (WalkArith.wf_i64 (by omega)))
          have Own7 := Lib.hid own7
          have G7 := Lib.hid g7
          have hmm := @run_makeMap Try.prog
          have hsf := fun (a : Addr) (c : Array Value) (w : World) => run_store Try.prog w a (.func (.func 33) #[] c) .plain rfl
          clear own7 g7
          go_wp2_with fail
          clear hmm hsf hrun
          obtain ⟨kB, hkB⟩ : ∃ kB, kB = W7.heap.size := ⟨_, rfl⟩
          obtain ⟨mB, hmB⟩ : ∃ mB, mB = V.heap.size := ⟨_, rfl⟩
          rw [← hmB] at Own7 G7
          have zV : (V.alloc (.map #[] 0)).heap.size = mB + 1 := by rw [hmB]; simp
          have lou : oB + 1 < mB := by rw [hmB]; exact HU.out.lt
          have lmk : mB < kB := by have := G7.out.size; omega
          obtain ⟨Y, hY⟩ : ∃ Y, Y = (W7.alloc (.cells #[.map (some mB)] 54)).alloc (.cells #[(.func (.func 33) #[] #[.pointer (some ⟨kB, 0, none⟩), .pointer (some ⟨oB + 1, 0, none⟩), .pointer (some ⟨oB, 0, none⟩), .pointer (some ⟨kB + 1, 0, none⟩)])] 55) := ⟨_, rfl⟩
          have BY : Below kB W7 Y := by rw [hY, hkB]; exact ((Below.refl _ _).alloc (Nat.le_refl _) _).alloc (by simp) _
          have b7 : Below mB V W7 := Below.ofGrown ((Below.refl _ _).alloc (by omega) _) G7.out (Nat.le_refl _) (by omega)
          have bw : Below w.heap.size w Y := (HB.out.trans (b7.mono (by omega))).trans (BY.mono (by omega))
          have hS : PlS xs most kB (oB + 1) oB (kB + 1) mB Y 1 := by
            refine ⟨?_, ?_, ?_, ?_, ?_, by omega, by omega, by omega, by omega⟩
            · rw [hY, World.cell?_alloc_old _ _ _ (by simp; omega), hkB]; exact World.cell?_alloc_at _ _ _ _ rfl
            · obtain ⟨cs, e1, e2⟩ := HU.out
              exact ⟨cs, (BY.block (oB + 1) (by omega)).trans ((b7.block (oB + 1) lou).trans e1), e2⟩
            · have e := (BY.block oB (by omega)).trans ((b7.block oB (by omega)).trans Ho.out)
              simp [World.cell?, e]
            · rw [hY]; exact World.cell?_alloc_at _ _ _ _ (by simp; omega)
            · obtain ⟨es, clock, e1, e2⟩ := Own7.out
              exact ⟨_, ⟨es, clock, (BY.block mB lmk).trans e1, e2⟩, KmD.init xs most⟩
          have sY : kB + 1 < Y.heap.size := cell_lt hS.fc
          have HS := Lib.hid hS
          have HBY := Lib.hid bw
          have c0 : Y.cell? ⟨kB + 1, 0, none⟩ = some (.func (.func 33) #[] #[.pointer (some ⟨kB, 0, none⟩), .pointer (some ⟨oB + 1, 0, none⟩), .pointer (some ⟨oB, 0, none⟩), .pointer (some ⟨kB + 1, 0, none⟩)]) := hS.fc
          first | rw [← hY] | (rw [← hkB, ← hmB, ← hY]) | (rw [← hkB, ← hY]) | skip
          clear hY hS bw b7 BY zV Own7 G7 HU HB Ho
          try rw [← hkB]
          clear hkB hmB
          have hC0 := few33 xs most kB (oB + 1) oB (kB + 1) mB (by omega) 255 0 (by omega) (by omega) Y 1 (by omega) HS.out
          rw [show ((0 : Nat) : Int) = 0 from rfl] at hC0
          have HC0 := Lib.hid hC0
          clear hC0
          refine HC0.out.mono ?_
          rintro e w8 ⟨rfl, hS8, hg8⟩
          have HB8 := Lib.hid (Below.ofGrown HBY.out hg8 (by omega) (by have := HBY.out.size; omega))
          have s8 := hg8.size
          have HS8 := Lib.hid hS8
          have fits : ∀ s : Nat, s < 255 → (cnt xs (s : Int) ((s + 1 : Nat) : Int) : Int) ≤ most := HFit.out
          have HAn := Lib.hid (Al_anti (fits_of fun s hs => by have := fits s hs; push_cast at this; exact this))
          have fb := F_bd (Al xs most) _ 0 (Nat.le_refl _)
          have H4 := Lib.hid (fun h4 => plE_4 H0.out hm fits h4)
          have H00 := Lib.hid (fun h4 => plE_ok.2 ⟨H0.out, hm, fun s hs => (by have := fits s hs; push_cast at this; exact this), h4⟩)
          clear hS8 hg8 fits HC0 c0 HS
          by_cases g32 : 32 < F (Al xs most) 0
          · have hE := H4.out g32
            have HPl := Lib.hid (show plL xs most = [] from plL_bad (by rw [hE]; decide))
            have HE := Lib.hid hE
            have gI : (32 : Int) < ((F (Al xs most) 0 : Nat) : Int) := by omega
            clear hE g32
            go_wp2_with fail
            go_ret2
            rw [HPl.out, HE.out]
            exact plp_nil HB8.out
          · have hE := H00.out (by omega)
            have HPl := Lib.hid (show plL xs most = (Pl (Al xs most) 0).map fun p => ((p.1 : Int), (p.2 : Int)) from plL_ok hE)
            have HE := Lib.hid hE
            have gI : ((F (Al xs most) 0 : Nat) : Int) ≤ 32 := by omega
            clear hE g32
            obtain ⟨i0, hi0, hz0, hz1, hz2⟩ := info_parts Step_info
            obtain ⟨Q, hQ⟩ : ∃ Q, Q = w8.heap.size := ⟨_, rfl⟩
            have lkQ : kB + 1 < Q := by omega
            have lwQ : w.heap.size ≤ Q := by have := HB8.out.size; omega
            have HQ := Lib.hid hQ
            clear hQ
            go_wp2_with fail
            go_loopw [4, 13] (fun o i wr => ∃ (low n : Nat) (pf : List (Nat × Nat)), low ≤ 255 ∧ i = .int .i64 (low : Nat) ∧ pf ++ Pl (Al xs most) low = Pl (Al xs most) 0 ∧ pf.length ≤ low ∧ n ≤ 2000 + 600 * low ∧ PlS xs most kB (oB + 1) oB (kB + 1) mB wr n ∧ Acc .i64 wr Q 44 2 o pf.length (flatS (pf.map fun p => ((p.1 : Int), (p.2 : Int)))) ∧ Below w.heap.size w wr ∧ Q ≤ wr.heap.size) (fun _ i _ => 255 - (intOf i).toNat)
            case atStart => exact ⟨0, _, [], by omega, rfl, rfl, Nat.le_refl _, by omega, HS8.out, Acc.nil _ _ _ _ _, HB8.out, by have := HQ.out; omega⟩
            case round =>
              clear HS8 HB8
              obtain ⟨low, n, pf, hlow, rfl, hpf, hpl, hn, hS, hacc, hb, hQs⟩ := hrel
              have HS := Lib.hid hS
              have HB := Lib.hid hb
              have HPf := Lib.hid hpf
              have HAcc := Lib.hid hacc
              obtain ⟨A5, C5, rfl, -⟩ := hacc.own
              clear hS hb hpf hacc
              by_cases hlt : low < 255
              · have hlI : (low : Int) < 255 := by omega
                have hl0 : (0 : Int) ≤ (low : Int) := by omega
                have hNx := Nx_spec HAn.out hlt
                have HNx := Lib.hid hNx
                obtain ⟨nx1, nx2, -, -, -⟩ := hNx
                go_wp2_with fail
                go_loopw [14] (fun i wx => ∃ h n' : Nat, low < h ∧ h ≤ Nx (Al xs most) low ∧ i = .int .i64 (h : Nat) ∧ n' + 600 ≤ 2000 + 600 * h ∧ PlS xs most kB (oB + 1) oB (kB + 1) mB wx n' ∧ Acc .i64 wx Q 44 2 (.slice A5 pf.length C5) pf.length (flatS (pf.map fun p => ((p.1 : Int), (p.2 : Int)))) ∧ Below w.heap.size w wx ∧ Q ≤ wx.heap.size) (fun i _ => 256 - (intOf i).toNat)
                case atStart => exact ⟨low + 1, n, by omega, by omega, by go_num, by omega, HS.out, HAcc.out, HB.out, hQs⟩
                case round =>
                  clear HS HB HAcc hQs
                  obtain ⟨h, n', hh1, hh2, rfl, hn', hS, hacc, hb, hQs⟩ := hrel
                  have HS := Lib.hid hS
                  have HB := Lib.hid hb
                  have HAcc := Lib.hid hacc
                  have c0 : wr.drew.cell? ⟨kB + 1, 0, none⟩ = some (.func (.func 33) #[] #[.pointer (some ⟨kB, 0, none⟩), .pointer (some ⟨oB + 1, 0, none⟩), .pointer (some ⟨oB, 0, none⟩), .pointer (some ⟨kB + 1, 0, none⟩)]) := hS.fc
                  have HSd := Lib.hid (show PlS xs most kB (oB + 1) oB (kB + 1) mB wr.drew n' from hS.drewN 1)
                  have fb1 := F_bd (Al xs most) _ low (Nat.le_refl _)
                  have fb2 := F_bd (Al xs most) _ h (Nat.le_refl _)
                  have ws : IntKind.i64.wrap (((F (Al xs most) low : Nat) : Int) - 1) = ((F (Al xs most) low : Nat) : Int) - 1 := IntWalk.i64_in _ (by omega)
                  clear hS hb hacc
                  have key : (((F (Al xs most) h : Nat) : Int) != ((F (Al xs most) low : Nat) : Int) - 1) = !decide (F (Al xs most) h + 1 = F (Al xs most) low) := by
                    by_cases e : F (Al xs most) h + 1 = F (Al xs most) low
                    · rw [decide_eq_true e]; simp; omega
                    · rw [decide_eq_false e]; simp; omega
                  have HKey := Lib.hid key
                  clear key
                  go_wp2_with fail
                  go_region_held3 (fun w' => w'.cell? ⟨kB + 1, 0, none⟩ = some (.func (.func 33) #[] #[.pointer (some ⟨kB, 0, none⟩), .pointer (some ⟨oB + 1, 0, none⟩), .pointer (some ⟨oB, 0, none⟩), .pointer (some ⟨kB + 1, 0, none⟩)])) (first | exact c6 | exact c5 | exact c0 | go_keep) (first
                    | ((with_reducible refine (few33 xs most kB (oB + 1) oB (kB + 1) mB (by omega) 255 h (by omega) (by omega) wr.drew n' (by omega) HSd.out).mono ?_); rintro e w5 ⟨rfl, hS5, hg5⟩; have c5 : w5.cell? ⟨kB + 1, 0, none⟩ = some (.func (.func 33) #[] #[.pointer (some ⟨kB, 0, none⟩), .pointer (some ⟨oB + 1, 0, none⟩), .pointer (some ⟨oB, 0, none⟩), .pointer (some ⟨kB + 1, 0, none⟩)]) := hS5.fc; have HS5 := Lib.hid hS5; have HG5 := Lib.hid hg5; clear hS5 hg5)
                    | ((with_reducible refine (few33 xs most kB (oB + 1) oB (kB + 1) mB (by omega) 255 low (by omega) (by omega) w5 _ (by omega) HS5.out).mono ?_); rintro e w6 ⟨rfl, hS6, hg6⟩; have c6 : w6.cell? ⟨kB + 1, 0, none⟩ = some (.func (.func 33) #[] #[.pointer (some ⟨kB, 0, none⟩), .pointer (some ⟨oB + 1, 0, none⟩), .pointer (some ⟨oB, 0, none⟩), .pointer (some ⟨kB + 1, 0, none⟩)]) := hS6.fc; have HS6 := Lib.hid hS6; have HG6 := Lib.hid (grownBy_trans HG5.out hg6); clear hS6 hg6))
                  have HB6 := Lib.hid (Below.ofGrown HB.out.drew HG6.out (by omega) (by show w.heap.size ≤ wr.heap.size; omega))
                  have HA6 := Lib.hid (Acc.grown9 HAcc.out.drew HG6.out (by omega))
                  have hs6 : wr.heap.size ≤ w6.heap.size := HG6.out.size
                  clear c0 c5 c6 HB HAcc HG6 HG5 HS5 HSd HS
                  by_cases e : F (Al xs most) h + 1 = F (Al xs most) low
                  · have hk : (((F (Al xs most) h : Nat) : Int) != ((F (Al xs most) low : Nat) : Int) - 1) = false := by rw [HKey.out, decide_eq_true e]; rfl
                    have hN : h = Nx (Al xs most) low := by
                      rcases Nat.lt_or_ge h (Nx (Al xs most) low) with g | g
                      · exact absurd e (HNx.out.2.2.2.2 h (by omega) g)
                      · omega
                    have HN := Lib.hid hN
                    have hPl := Lib.hid (show (pf ++ [(low, h)]) ++ Pl (Al xs most) h = Pl (Al xs most) 0 by
                      rw [← HPf.out, Pl_in (Al xs most) hlt, ← HN.out, List.append_assoc]; rfl)
                    have hQ6 : Q ≤ w6.heap.size := by omega
                    clear e hN
                    go_wp2_with (at_builtin; refine wpList_app rfl _ _ 22 rfl .i64 Q 44 i0 _ 2 16 Try.underlying22 hi0 hz0 hz1 hz2 rfl (by decide) _ _ _ [(low : Int), (h : Int)] rfl HA6.out _ rfl rfl rfl (by omega) (by decide) hQ6 ?_; intro v' w9 hown9 hb9)
                    have hs9 := hb9.size
                    refine ⟨⟨h, _, pf ++ [(low, h)], by omega, rfl, hPl.out, by simp; omega, by omega, HS6.out.below hb9 (by omega) (by omega) (by omega) (by omega) (by omega), ?_, HB6.out.trans (hb9.mono lwQ), by omega⟩, by simp [intOf]; omega⟩
                    rw [List.map_append, List.map_cons, List.map_nil, flatS_snoc, List.length_append]
                    exact hown9
                  · have hk : (((F (Al xs most) h : Nat) : Int) != ((F (Al xs most) low : Nat) : Int) - 1) = true := by rw [HKey.out, decide_eq_false e]; rfl
                    have hN : h < Nx (Al xs most) low := by
                      rcases Nat.lt_or_ge h (Nx (Al xs most) low) with g | g
                      · exact g
                      · exact absurd (by rw [show h = Nx (Al xs most) low by omega]; exact HNx.out.2.2.1) e
                    clear e
                    go_wp2_with fail
                    exact ⟨⟨h + 1, _, by omega, by omega, by go_num, by omega, HS6.out, HA6.out, HB6.out, by omega⟩, by simp [intOf]; omega⟩
              · obtain rfl : low = 255 := by omega
                have HR := Lib.hid (show plL xs most = pf.map fun p => ((p.1 : Int), (p.2 : Int)) by rw [HPl.out, ← HPf.out, Pl_end, List.append_nil])
                go_wp2_with fail
                go_ret2
                rw [HR.out, HE.out]
                exact ⟨_, rfl, by rw [List.length_map]; exact HAcc.out.mono lwQ, HB.out⟩
theorem plan25 (A : Option Addr) (cap : Nat) (xs : List Int) (most : Int) (B : Nat) (w : World) (hB : B ≤ w.heap.size) (hA : Is .i64 w B A xs) (hl : xs.length ≤ 1000000) :
    Calls Try.prog 25 #[.slice A xs.length cap, .int .i64 most] w (PlP w (plE xs most) (plL xs most)) := by
  by_cases h0 : ckN xs = 0
  · by_cases hm : most < 1
    · exact plan25a A cap xs most B w hB hA hl (.inr hm)
    · exact plan25b A cap xs most B w hB hA hl h0 (by omega)
  · exact plan25a A cap xs most B w hB hA hl (.inl h0)
end Go.Proofs.Ytlbchidgadcmpaa
