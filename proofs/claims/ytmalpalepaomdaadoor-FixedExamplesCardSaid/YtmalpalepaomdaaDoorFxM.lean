/- strconv.ParseUint(s, 10, 23). -/
import Derived.Test.YtmalpalepaomdaaDoorRows
import Derived.WalkKit
import Derived.WalkLawsBesides
import Derived.WalkSpells
import Derived.ProofKit
import Derived.Below
import Derived.Outline
import Derived.Lib.Hide
import Derived.Deep.RegionWith
import Derived.Deep.RegionHeld3
import Derived.Deep.DrawnRows
import Derived.StillTailTactics
import Derived.BigQuiet
import Derived.Deep.QuietTactic
import Derived.Deep.LoopGhost
import Derived.IntWalk
import Derived.Lib.ConvBytes
import Derived.Lib.ParseIntBMem
import Derived.Laws.Strings3
import Derived.Laws.Closers25
import Derived.Laws.Closers25b
import Derived.BigCall
import Derived.BigGuard
import Derived.Test.YtmalpalepaomdaaDoorFxG
import Derived.Test.YtmalpalepaomdaaDoorSh2
namespace Go.Proofs.YtmalpalepaomdaaDoor
open Go.RowKit
set_option maxHeartbeats 32000000 in
set_option maxRecDepth 100000 in
theorem inner57 (t : ByteArray) (hne : t.size ≠ 0) (hmax : t.size ≤ 1000) (w : World) :
    Calls Tryd.prog 57 #[.string t, .int .i64 10, .int .i64 23] w fun e w' => e = .returned (Lib.uintTupleM 75 8388607 (Lib.parseUintM 8388607 0 t.data.toList)) ∧ w' = Lib.bytesWorld w 5 t := by
  have hemp : t.toList.isEmpty = false := by
    rw [← decide_eq_emptyBytes]
    exact decide_eq_false (fun h => hne (by rw [h]; rfl))
  have hcv := Lib.run_convert_string_bytes (P := Tryd.prog) w 9 64 5 t (u := .string) Tryd.underlying9 Tryd.underlying64 Tryd.underlying5
  have hB : ∀ j, j < t.size → (Lib.bytesWorld w 5 t).cell? ⟨w.heap.size, j, none⟩ = some (.int .u8 (t.data.toList.getD j 0).toNat) := fun j hj => Lib.bytesWorld_cell w 5 t j hj
  obtain ⟨W1, hW1⟩ : ∃ W1, W1 = Lib.bytesWorld w 5 t := ⟨_, rfl⟩
  rw [← hW1] at hcv hB ⊢
  clear hW1
  obtain ⟨bs, hL⟩ : ∃ bs, bs = t.data.toList := ⟨_, rfl⟩
  have hLn : bs.length = t.size := by rw [hL, Lib.size_eq]
  rw [← hL] at hB ⊢
  clear hL
  have hmv : IntKind.u64.wrap (IntKind.u64.wrap 8388608 - 1) = 8388607 := by
    rw [IntKind.wrap_u64, IntKind.wrap_u64]
    decide
  go_enter Tryd.func57, Tryd.ntmps57
  go_wp2
  go_loop [12, 13, 101] (fun vu vn vi => ∃ (k acc : Nat) (a : Int), vu = .bool false ∧ vn = .int .u64 a ∧ vi = .int .i64 k ∧ k ≤ t.size ∧ Hid (a = (acc : Int) ∧ acc ≤ 8388607 ∧ Lib.parseUintM 8388607 0 bs = Lib.parseUintM 8388607 acc (bs.drop k))) (fun _ _ vi => t.size - (intOf vi).toNat)
  case atStart => exact ⟨0, 0, 0, rfl, rfl, rfl, by omega, rfl, by omega, rfl⟩
  case round =>
    obtain ⟨k, acc, a, rfl, rfl, rfl, hk, hh⟩ := hrel
    obtain ⟨ha, hacc, hdec⟩ := hh.out
    clear hh
    have a0 : 0 ≤ a := by omega
    have a1 : a ≤ 8388607 := by omega
    by_cases hkn : k < t.size
    · have hc := hB k hkn
      have hdrop : bs.drop k = bs[k]'(by omega) :: bs.drop (k + 1) := List.drop_eq_getElem_cons (by omega)
      have hget : bs.getD k 0 = bs[k]'(by omega) := by simp [List.getD, List.getElem?_eq_getElem (show k < bs.length by omega)]
      rw [hdrop] at hdec
      rw [hget] at hc
      generalize bs[k]'(by omega) = c at hc hdec
      have hc256 : c.toNat < 256 := c.toNat_lt
      clear hB hdrop hget
      by_cases hdig : 48 ≤ c.toNat ∧ c.toNat ≤ 57
      · obtain ⟨hd0, hd1⟩ := hdig
        have hcut : ¬ 1844674407370955162 ≤ acc := by omega
        by_cases hov : 8388607 < acc * 10 + (c.toNat - 48)
        · have hF : Lib.parseUintM 8388607 acc (c :: bs.drop (k + 1)) = .range := by simp [Lib.parseUintM, hd0, hd1, hcut, hov]
          rw [hF] at hdec
          have iov : 8388607 < a * 10 + ((c.toNat : Int) - 48) := by omega
          clear hcut hacc hF hov ha
          go_wp2
          go_ret2
          exact ⟨rfl, rfl⟩
        · have hF : Lib.parseUintM 8388607 acc (c :: bs.drop (k + 1)) = Lib.parseUintM 8388607 (acc * 10 + (c.toNat - 48)) (bs.drop (k + 1)) := by simp [Lib.parseUintM, hd0, hd1, hcut, hov]
          have HN : Hid (a * 10 + ((c.toNat : Int) - 48) = ((acc * 10 + (c.toNat - 48) : Nat) : Int) ∧ acc * 10 + (c.toNat - 48) ≤ 8388607 ∧ Lib.parseUintM 8388607 0 bs = Lib.parseUintM 8388607 (acc * 10 + (c.toNat - 48)) (bs.drop (k + 1))) := Lib.hid ⟨by omega, by omega, by rw [hdec, hF]⟩
          have iov : a * 10 + ((c.toNat : Int) - 48) ≤ 8388607 := by omega
          clear hcut hacc hF hov hdec ha
          go_wp2
          refine ⟨⟨k + 1, acc * 10 + (c.toNat - 48), a * 10 + ((c.toNat : Int) - 48), rfl, (by first | rfl | (congr 1; omega)), (by first | rfl | (congr 1; omega)), by omega, HN⟩, by simp [intOf]; omega⟩
      · have hF : Lib.parseUintM 8388607 acc (c :: bs.drop (k + 1)) = .syntax := by simp [Lib.parseUintM, hdig]
        rw [hF] at hdec
        clear hacc hF ha
        have hv0 := bits_lo_u8 .or (c.toNat : Int) 32
        have hv1 := bits_hi_u8 .or (c.toNat : Int) 32
        have hu0 := bits_lo_u8 .or 95 32
        have hu1 := bits_hi_u8 .or 95 32
        go_wp2_with (go_at_call 65; refine (Tryd.internal_strconv_lower _ _).mono ?_; rintro e w' ⟨rfl, rfl⟩)
        all_goals go_ret2
        all_goals first | exact ⟨rfl, rfl⟩ | exact ⟨by rw [hdec]; rfl, rfl⟩
    · have hkk : k = t.size := by omega
      subst hkk
      have hF : Lib.parseUintM 8388607 acc (bs.drop t.size) = .ok acc := by rw [List.drop_eq_nil_of_le (by omega)]; rfl
      rw [hF] at hdec
      subst ha
      clear hacc hF a0 a1
      go_wp2
      go_ret2
      exact ⟨rfl, rfl⟩
set_option maxRecDepth 100000 in
set_option maxHeartbeats 2000000 in
theorem inner57e (w : World) : Calls Tryd.prog 57 #[.string ⟨#[]⟩, .int .i64 10, .int .i64 23] w fun e w' => e = .returned (.tuple #[.int .u64 0, .iface 75 (.int .i64 2)]) ∧ w = w' := by
  go_enter Tryd.func57, Tryd.ntmps57
  go_wp2
  go_ret2
  exact ⟨rfl, rfl⟩
structure Env (w : World) : Prop where
  tab : Tab w
  syn : ∃ t p, w.cell? ⟨2, 0, none⟩ = some (.iface t p)
  rng : ∃ t p, w.cell? ⟨3, 0, none⟩ = some (.iface t p)
  mx : ∃ m, w.cell? ⟨1, 0, none⟩ = some (.int .i64 m)
theorem cell_lt {w : World} {b o : Nat} {v : Value} (h : w.cell? ⟨b, o, none⟩ = some v) : b < w.heap.size := by
  rcases Nat.lt_or_ge b w.heap.size with g | g
  · exact g
  · simp [World.cell?, Array.getElem?_eq_none g] at h
theorem Env.below {w w' : World} (h : Env w) (hb : Below w.heap.size w w') : Env w' where
  tab := h.tab.below hb
  syn := by obtain ⟨t, p, e⟩ := h.syn; exact ⟨t, p, (hb.cell (p := ⟨_, 0, none⟩) (cell_lt e)).trans e⟩
  rng := by obtain ⟨t, p, e⟩ := h.rng; exact ⟨t, p, (hb.cell (p := ⟨_, 0, none⟩) (cell_lt e)).trans e⟩
  mx := by obtain ⟨m, e⟩ := h.mx; exact ⟨m, (hb.cell (p := ⟨_, 0, none⟩) (cell_lt e)).trans e⟩
def pU (l : List UInt8) : Lib.NumEnd Nat := if l = [] then .syntax else Lib.parseUintM 8388607 0 l
theorem inner57b (l : List UInt8) (hmax : l.length ≤ 1000) (w : World) : Calls Tryd.prog 57 #[.string (S l), .int .i64 10, .int .i64 23] w fun e w' => e = .returned (Lib.uintTupleM 75 8388607 (pU l)) ∧ Below w.heap.size w w' := by
  by_cases h : l = []
  · subst h
    refine (inner57e w).mono ?_
    rintro e w' ⟨rfl, rfl⟩
    exact ⟨rfl, Below.refl _ _⟩
  · have e : pU l = Lib.parseUintM 8388607 0 l := if_neg h
    rw [e]
    refine (inner57 (S l) (by rw [S_size]; intro h0; exact h (List.length_eq_zero_iff.1 h0)) (by rw [S_size]; exact hmax) w).mono ?_
    rintro e w' ⟨rfl, rfl⟩
    exact ⟨rfl, Lib.bytesWorld_below _ _ _⟩
def NoNum (e : Ending) : Prop := ∃ (v : Int) (t : TypeId) (p : Value), e = .returned (.tuple #[.int .u64 v, .iface t p])
set_option maxHeartbeats 2000000 in
theorem parse49 (l : List UInt8) (hmax : l.length ≤ 1000) (u : Nat) (h : pU l = .ok u) (w : World) : Calls Tryd.prog 49 #[.string (S l), .int .i64 10, .int .i64 23] w fun e w' => e = .returned (.tuple #[.int .u64 u, .nilIface]) ∧ Below w.heap.size w w' := by
  have K := inner57b l hmax w
  rw [h] at K
  have HK := Lib.hid K
  clear h K
  go_enter Tryd.func49, Tryd.ntmps49
  go_wp2_with fail
  refine HK.out.mono ?_
  rintro e w1 ⟨rfl, hb⟩
  unfold Lib.uintTupleM
  go_wp2_with fail
  go_ret2
  exact ⟨rfl, hb⟩
set_option maxHeartbeats 2000000 in
theorem parse49n (l : List UInt8) (hmax : l.length ≤ 1000) (h : ∀ u, pU l ≠ .ok u) (w : World) (E : Env w) : Calls Tryd.prog 49 #[.string (S l), .int .i64 10, .int .i64 23] w fun e w' => NoNum e ∧ Below w.heap.size w w' := by
  have HE := Lib.hid E
  clear E
  have hz := S_size l
  rcases hp : pU l with u | _ | _
  · exact absurd hp (h u)
  · have K := inner57b l hmax w
    rw [hp] at K
    have HK := Lib.hid K
    clear h K hp
    go_enter Tryd.func49, Tryd.ntmps49
    go_wp2_with fail
    refine HK.out.mono ?_
    rintro e w1 ⟨rfl, hb⟩
    unfold Lib.uintTupleM
    obtain ⟨t, p, hc⟩ := (HE.out.below hb).syn
    have HC := Lib.hid hc
    have HB := Lib.hid hb
    clear hc hb
    go_wp2_with fail
    refine (Tryd.strconv_toError_syntax _ (S l) 10 23 _ _ (by omega) HC.out (.inr ⟨t, p, rfl⟩)).mono ?_
    rintro e w2 ⟨N, rfl, -, -, hb2⟩
    go_wp2_with fail
    go_ret2
    exact ⟨⟨_, _, _, rfl⟩, HB.out.trans (hb2.mono HB.out.size)⟩
  · have K := inner57b l hmax w
    rw [hp] at K
    have HK := Lib.hid K
    clear h K hp
    go_enter Tryd.func49, Tryd.ntmps49
    go_wp2_with fail
    refine HK.out.mono ?_
    rintro e w1 ⟨rfl, hb⟩
    unfold Lib.uintTupleM
    obtain ⟨t, p, hc⟩ := (HE.out.below hb).rng
    have HC := Lib.hid hc
    have HB := Lib.hid hb
    clear hc hb
    go_wp2_with fail
    refine (Tryd.strconv_toError_range _ (S l) 10 23 _ _ (by omega) HC.out (.inr ⟨t, p, rfl⟩)).mono ?_
    rintro e w2 ⟨N, rfl, -, -, hb2⟩
    go_wp2_with fail
    go_ret2
    exact ⟨⟨_, _, _, rfl⟩, HB.out.trans (hb2.mono HB.out.size)⟩
end Go.Proofs.YtmalpalepaomdaaDoor
