/- TauHolds returns true for every input: a held class is at least the class of the cycle, and decreases only when it was not confirmed for hold cycles. -/
import Derived.Lib.MinMax
import Derived.Test.YtbonniladhablaaTaG
import Derived.WalkKit
import Derived.ProofKit
import Derived.OpenShut
import Derived.ShutString
import Derived.ChangeOld
import Derived.Below
import Derived.Lib.SmallJoins
namespace Go.Proofs.Ytbonniladhablaa
open Go.RowKit
attribute [local go_sem ↓] Go.wp_at_zero Go.wp_at_succ
attribute [local go_sem] wrap_lit

theorem holdsL (A : Option Addr) (cap : Nat) (l : List Int) (hold : Int) (w : World) (hl : 200 < l.length) (h0 : 0 ≤ hold) (h1 : hold ≤ 255) : Calls Try.prog 5 #[.slice A l.length cap, .int .u8 hold] w fun e w' => e = .returned (.bool true) ∧ Below w.heap.size w w' := by
  have h : (200 : Int) < (l.length : Int) := by omega
  go_enter Try.func5, Try.ntmps5
  go_wp2_with fail
  refine (awake15 _).mono ?_
  rintro e w1 ⟨rfl, hb1⟩
  go_wp2_with fail
  go_ret
  exact ⟨rfl, hb1⟩

def HInv (k : Nat) (K A C : Int) : Prop := 0 ≤ K ∧ K ≤ 3 ∧ 0 ≤ A ∧ A ≤ 60 ∧ 0 ≤ C ∧ C ≤ k ∧ (k = 0 → K = 0 ∧ A = 0) ∧ (0 < k → A = k - 1 - C)
def HRel (w w0 wr : World) (k : Nat) (c : Value) : Prop := ∃ K A C : Int, c = .int .i64 C ∧ HInv k K A C ∧ wr.heap[w0.heap.size]? = some (.cells #[.int .u8 K, .int .i64 A] 41 (0, 0)) ∧ Below w.heap.size w wr ∧ w0.heap.size < wr.heap.size
theorem blk2 {w : World} {g : Nat} {x y : Value} {T : TypeId} (h : w.heap[g]? = some (.cells #[x, y] T (0, 0))) : w.cell? ⟨g, 0, none⟩ = some x ∧ w.cell? ⟨g, 1, none⟩ = some y ∧ w.frozen? ⟨g, 0, none⟩ = false ∧ w.frozen? ⟨g, 1, none⟩ = false := by
  simp [World.cell?, World.frozen?, h]
theorem set2 {w : World} {g : Nat} {x y a b : Value} {T : TypeId} (h : w.heap[g]? = some (.cells #[x, y] T (0, 0))) : ((w.setCell ⟨g, 0, none⟩ a).setCell ⟨g, 1, none⟩ b).heap[g]? = some (.cells #[a, b] T (0, 0)) := by
  simp [World.setCell, Array.getElem?_modify, h]

set_option maxHeartbeats 4000000 in
theorem holds5 (A : Option Addr) (cap : Nat) (l : List Int) (hold : Int) (w : World) (hA : Is .u8 w w.heap.size A l) (hw : ∀ j, j < l.length → 0 ≤ nth l j ∧ nth l j ≤ 255) (hl : l.length ≤ 200) (h0 : 0 ≤ hold) (h1 : hold ≤ 255) : Calls Try.prog 5 #[.slice A l.length cap, .int .u8 hold] w fun e w' => e = .returned (.bool true) ∧ Below w.heap.size w w' := by
  have HW := Lib.hid hw; clear hw
  have h : (l.length : Int) ≤ 200 := by omega
  go_enter Try.func5, Try.ntmps5
  go_wp2_with fail
  refine (awake15 _).mono ?_
  rintro e w1 ⟨rfl, hb1⟩
  have hs1 := hb1.size
  go_wp2_with fail
  go_loopw [7, 8] (fun c i wr => ∃ k : Nat, k ≤ l.length ∧ i = .int .i64 k ∧ HRel w w1 wr k c) (fun _ i _ => l.length - (intOf i).toNat)
  case atStart => exact ⟨0, Nat.zero_le _, rfl, 0, 0, 0, rfl, ⟨by omega, by omega, by omega, by omega, by omega, by omega, fun _ => ⟨rfl, rfl⟩, fun h => absurd h (by omega)⟩, heap_alloc_new _ _, hb1.alloc hs1 _, by simp⟩
  case round =>
    obtain ⟨k, hk, rfl, K, Ag, C, rfl, ⟨i1, i2, i3, i4, i5, i6, i7, i8⟩, hblk, hb, hsz⟩ := hrel
    by_cases hlt : k < l.length
    · obtain ⟨b, off, rfl, hbb, hc⟩ := hA (by omega)
      have hcell : wr.cell? ⟨b, off + k, none⟩ = some (.int .u8 (nth l k)) := (hb.cell (p := ⟨b, off + k, none⟩) hbb).trans (hc k hlt)
      clear hc hA
      obtain ⟨v0, v1⟩ := HW.out k hlt
      obtain ⟨f0, f1, f2, f3⟩ := blk2 hblk
      have hkI : (k : Int) < (l.length : Int) := by omega
      have hk0 : (0 : Int) ≤ (k : Int) := by omega
      have g0 : 0 ≤ hold % 61 := by omega
      have g1 : hold % 61 ≤ 60 := by omega
      have I7 := Lib.hid i7
      have I8 := Lib.hid i8
      clear i7 i8
      have hbne : b ≠ w1.heap.size := by omega
      by_cases c1 : K ≤ nth l k % 4
      · have T := Lib.hid (fun W => hold16c K Ag (nth l k % 4) (hold % 61) W i2 (by omega) ⟨i3, i4, g0, g1⟩ c1)
        go_wp2_with fail
        refine (T.out _).mono ?_
        rintro e w2 ⟨rfl, hb2⟩
        have hs2 := hb2.size
        have hz2 : w1.heap.size < w2.heap.size := by omega
        have hz3 : b < w2.heap.size := by omega
        have hblk2 := (hb2.block w1.heap.size hsz).trans hblk
        obtain ⟨d0, d1, d2, d3⟩ := blk2 hblk2
        have B2 : Below w.heap.size w w2 := hb.trans (hb2.mono (by omega))
        clear f0 f1 f2 f3
        go_wp2_with fail
        refine ⟨⟨k + 1, by omega, by go_num, nth l k % 4, 0, k, rfl, ⟨by omega, by omega, by omega, by omega, by omega, by omega, fun h => absurd h (by omega), fun _ => by omega⟩, (Below.heap_alloc _ _ _ (by simp [World.setCell]; omega)).trans (set2 hblk2), ((B2.setCell (by show _ ≤ w1.heap.size; omega) _).setCell (by show _ ≤ w1.heap.size; omega) _).alloc (by simp [World.setCell]; omega) _, by simp [World.setCell]; omega⟩, by simp [intOf]; omega⟩
      · by_cases c2 : hold % 61 ≤ Ag + 1
        · have hk1 : 0 < k := by
            rcases Nat.eq_zero_or_pos k with h | h
            · have := (I7.out h).1; omega
            · exact h
          have hAg := I8.out hk1
          have hAC : hold % 61 ≤ (k : Int) - C := by omega
          have hCk : C < (k : Int) := by omega
          have HAg := Lib.hid hAg; clear hAg
          have T := Lib.hid (fun W => hold16d K Ag (nth l k % 4) (hold % 61) W i2 (by omega) ⟨i3, i4, g0, g1⟩ (by omega) c2)
          go_wp2_with fail
          refine (T.out _).mono ?_
          rintro e w2 ⟨rfl, hb2⟩
          have hs2 := hb2.size
          have hz2 : w1.heap.size < w2.heap.size := by omega
          have hz3 : b < w2.heap.size := by omega
          have hblk2 := (hb2.block w1.heap.size hsz).trans hblk
          obtain ⟨d0, d1, d2, d3⟩ := blk2 hblk2
          have B2 : Below w.heap.size w w2 := hb.trans (hb2.mono (by omega))
          clear f0 f1 f2 f3
          go_wp2_with fail
          refine ⟨⟨k + 1, by omega, by go_num, nth l k % 4, 0, k, rfl, ⟨by omega, by omega, by omega, by omega, by omega, by omega, fun h => absurd h (by omega), fun _ => by omega⟩, (Below.heap_alloc _ _ _ (by simp [World.setCell]; omega)).trans (set2 hblk2), ((B2.setCell (by show _ ≤ w1.heap.size; omega) _).setCell (by show _ ≤ w1.heap.size; omega) _).alloc (by simp [World.setCell]; omega) _, by simp [World.setCell]; omega⟩, by simp [intOf]; omega⟩
        · have hk1 : 0 < k := by
            rcases Nat.eq_zero_or_pos k with h | h
            · have := (I7.out h).1; omega
            · exact h
          have hAg := I8.out hk1
          have hAC : Ag + 1 = (k : Int) - C := by omega
          have hne : ((Ag + 1) != ((k : Int) - C)) = false := by simp; omega
          have HAC := Lib.hid hAC; clear hAC hAg
          have T := Lib.hid (fun W => hold16e K Ag (nth l k % 4) (hold % 61) W i2 (by omega) ⟨i3, i4, g0, g1⟩ (by omega) (by omega))
          go_wp2_with fail
          refine (T.out _).mono ?_
          rintro e w2 ⟨rfl, hb2⟩
          have hs2 := hb2.size
          have hz2 : w1.heap.size < w2.heap.size := by omega
          have hz3 : b < w2.heap.size := by omega
          have hblk2 := (hb2.block w1.heap.size hsz).trans hblk
          obtain ⟨d0, d1, d2, d3⟩ := blk2 hblk2
          have B2 : Below w.heap.size w w2 := hb.trans (hb2.mono (by omega))
          clear f0 f1 f2 f3
          go_wp2_with fail
          refine ⟨⟨k + 1, by omega, by go_num, K, Ag + 1, C, rfl, ⟨by omega, by omega, by omega, by omega, by omega, by omega, fun h => absurd h (by omega), fun _ => by have := HAC.out; omega⟩, (Below.heap_alloc _ _ _ (by simp [World.setCell]; omega)).trans (set2 hblk2), ((B2.setCell (by show _ ≤ w1.heap.size; omega) _).setCell (by show _ ≤ w1.heap.size; omega) _).alloc (by simp [World.setCell]; omega) _, by simp [World.setCell]; omega⟩, by simp [intOf]; omega⟩
    · obtain rfl : k = l.length := by omega
      go_wp2_with fail
      go_ret
      exact ⟨rfl, hb⟩

theorem holds_ (a : Option Addr) (len cap : Nat) (zs : List Int) (hold : Int) {w : World} (h : IsRow .u8 w a len cap zs) (h0 : 0 ≤ hold ∧ hold ≤ 255) : Calls Try.prog 5 #[.slice a len cap, .int .u8 hold] w fun e w' => e = .returned (.bool true) ∧ Below w.heap.size w w' := by
  obtain ⟨h1, h2, _, h3⟩ := Is.of_row h
  rw [← h2]
  by_cases hl : (zs.take len).length ≤ 200
  · refine holds5 a cap _ hold w h1 (fun j hj => ?_) hl h0.1 h0.2
    have := bounds_u8 (h3 (nth (zs.take len) j) (by
      have e : nth (zs.take len) j = (zs.take len)[j] := by simp [nth, List.getD_eq_getElem?_getD, List.getElem?_eq_getElem hj]
      rw [e]; exact List.getElem_mem hj))
    exact this
  · exact holdsL a cap _ hold w (by omega) h0.1 h0.2

namespace tauHoldsRow
open Go.ChangeShapes Go.WideShapes Go.ChangeAt Go.RowKit
open Go.ChangeMaps (open_string shut_string)
set_option linter.unusedVariables false
theorem own : ownKnob Try.prog.godebug = none := by kernel_rfl
theorem laidOut : laidOutB Try.prog = true := by kernel_rfl
set_option maxRecDepth 100000 in
theorem lifted (os : Os) (started : os.Started) (H : Type) (enc : TypeId × Value → H) :
    ReturnsInHanded {} Try.checked os 5 .any (Rows.tauHoldsSpec.pre6 enc Try.prog Try.f5 Rows.tauHoldsRow.domain false) (Rows.tauHoldsSpec.post enc Try.prog Try.f5 false true false false) := by
  refine returnsInHanded_of_change (C := Try.checked) own started (by kernel_rfl) Try.func5
    (ChangeSpec.witness6 (enc := enc) (C := Try.checked) false ⟨#[], #[.slice none 0 0, .int .u8 0], []⟩ 8 (by kernel_rfl) (by kernel_rfl) (by kernel_rfl) (by kernel_rfl)) ?_
  intro W base args ds gs before hval0 hW hcnd _hsz
  have hval : ∀ (j : Nat) t v, Try.f5.params[j]? = some t → args[j]? = some v → Value.okWide Try.prog W .any base t v := hval0
  have hW' := hW
  obtain ⟨p, q, hA0, hV, rfl, hfz, hnd⟩ := hW
  have hA : DataW.TrodAll enc Try.prog W 0 (fun _ => true) true Try.f5.params.toList args.toList ds p := hA0
  rw [Try.params5] at hA hval
  obtain ⟨v0, vs0, d0, ds0, p0, q0, hargs, rfl, rfl, h0, r0⟩ := trodAll_cons hA
  obtain ⟨v1, vs1, d1, ds1, p1, q1, rfl, rfl, rfl, h1, r1⟩ := trodAll_cons r0
  obtain ⟨rfl, rfl, rfl⟩ := trodAll_nil r1
  obtain rfl : args = #[v0, v1] := by cases args; simp_all
  obtain ⟨rfl, rfl⟩ := trodVars_none hV
  have k0 := h0
  have lt0 : ∀ x ∈ p0, x.block < W.heap.size := by obtain ⟨m, hm⟩ := k0; exact DataW.trod_lt m _ _ _ hm
  have k1 := h1
  have lt1 : ∀ x ∈ p1, x.block < W.heap.size := by obtain ⟨m, hm⟩ := k1; exact DataW.trod_lt m _ _ _ hm
  obtain ⟨a0, len0, cap0, rfl⟩ := okWide_slice Try.underlying39 (hval 0 39 v0 rfl rfl)
  obtain ⟨z0, w0⟩ : ∃ zs, IsRow .u8 W a0 len0 cap0 zs := by
    obtain ⟨fuel, hf⟩ := h0
    rcases open_ints Try.underlying39 Try.underlying5 (by kernel_rfl) hf with ⟨hcs, _⟩ | ⟨x, l, c, zs, hcs, _, hl, hm, hz, _, hcell, hwz⟩
    · simp [Value.cells] at hcs
      obtain ⟨rfl, rfl, rfl⟩ := hcs
      exact ⟨[], .inl ⟨rfl, rfl, rfl, rfl⟩⟩
    · simp [Value.cells] at hcs
      obtain ⟨rfl, rfl, rfl⟩ := hcs
      exact ⟨zs, .inr ⟨_, rfl, hl, hm, by simpa using hz, hcell, hwz⟩⟩
  obtain ⟨a1, rfl, -, -, w1⟩ := open_int Try.underlying5 (hval 1 5 v1 rfl rfl) h1
  clear hA0 hval0
  refine (holds_ a0 len0 cap0 z0 a1 w0 (bounds_u8 w1)).mono fun e W' ⟨he, bel⟩ => ?_
  subst he
  exact ⟨_, rfl, _, _, _, [], _, [], hW', trodAll_mk1 (shut_bool Try.underlying4 _), (trodAll_cons_mk (Below.trod laidOut (by kernel_rfl) (of_decide_eq_true (by kernel_rfl)) k0 bel lt0) (trodAll_cons_mk (Below.trod laidOut (by kernel_rfl) (of_decide_eq_true (by kernel_rfl)) k1 bel lt1) trodAll_mk0)), rfl, bel.frame _, fun h => by cases h⟩

theorem over : Rows.tauHoldsRow.holds Try.pinned (OpenSpec.ofChange Rows.tauHoldsSpec) :=
  OpenClaim.holds_of_wide 5 Try.f5 rfl rfl rfl rfl rfl rfl rfl ⟨rfl, rfl, rfl, rfl, rfl⟩ rfl rfl rfl rfl rfl (by kernel_rfl) Try.func5 (by kernel_rfl)
    (of_decide_eq_true (by kernel_rfl)) (by unfold Func.isWrapper; first | (rw [if_pos (by decide +kernel)]; kernel_rfl) | (rw [if_neg (by decide +kernel)]; exact ⟨rfl, rfl⟩))
    (fun os started H enc _ => lifted os started H enc)
theorem proved : Rows.TauHoldsSaid := over
end tauHoldsRow
end Go.Proofs.Ytbonniladhablaa
