/- encounter: the lines of a text, as an iterator. -/
import Derived.RangeFuncNested
import Derived.RangeFuncBound
import Derived.RangeFuncCalls
import Derived.RangeFuncLeaves
import Derived.RangeFuncBox
import Derived.Shelf.Abstract
import Derived.Shelf.RegionOpen
import Derived.OwnWalkIn
import Derived.TacticsInMore
import Derived.LoopNIn
import Derived.LoopIn
import Derived.WalkKit
import Derived.Outline
import Derived.Test.YtnnnpliigdfipaaGreatDoorEnR
import Derived.Test.YtnnnpliigdfipaaGreatDoorEnX
namespace Go.Proofs.YtnnnpliigdfipaaGreatDoor
open Go.RowKit Go.Shelf
attribute [local go_sem] Oper.semAt_some
theorem wide_fn (f : FuncId) : Fence.wide.fn f = True := rfl
attribute [local go_sem] wide_fn
theorem lines68 (s : Tx) (w : World) : Calls Tryz.prog 68 #[.string (S s)] w fun e w' => e = .returned (.func (.func 96) #[] #[.pointer (some ⟨w.heap.size, 0, none⟩)]) ∧ w.alloc (.cells #[.string (S s)] 9) = w' := by
  go_enter Tryz.func68, Tryz.ntmps68
  go_wp2_with fail
  go_ret
  exact ⟨rfl, rfl⟩
/-- the words of the first line; none if it has no line feed -/
def wdsT (t : Tx) : List Tx := if (Lib.cut t [10]).2.2 = true then splitC 32 (Lib.cut t [10]).1 else []
def rstT (t : Tx) : Tx := (Lib.cut t [10]).2.1
theorem cut_len {t : Tx} (h : t ≠ []) : (Lib.cut t [10]).1.length ≤ t.length ∧ (rstT t).length + 1 ≤ t.length := by
  unfold rstT
  rcases find_c 10 t with h1 | ⟨a, m, rfl, h1⟩
  · rw [cut_none h1]
    have : 0 < t.length := List.length_pos_iff.2 h
    exact ⟨Nat.le_refl _, by simp only [List.length_nil]; omega⟩
  · rw [cut_at h1]; simp <;> omega
structure YL (K : Nat) (s : Nat × Tx) (args : Array Value) (W : World) : Prop where
  ne : s.2 ≠ []
  len : s.1 + s.2.length ≤ 100000
  k1 : 1 ≤ s.1
  env : Env K W
  hK : K ≤ W.heap.size
  ex : ∃ A c, args = #[.int .i64 s.1, .slice A (wdsT s.2).length c] ∧ InT W W.heap.size A (wdsT s.2) ∧ (wdsT s.2).length ≤ c
theorem YL.put {K : Nat} {s : Nat × Tx} {args : Array Value} {W : World} {l : Nat} {o o' : Obj} (h : YL K s args W) (hl : K ≤ l) (ho : W.heap[l]? = some o) (hc : o.isCells = false) : YL K s args (W.putObj l o') where
  ne := h.ne
  len := h.len
  k1 := h.k1
  env := h.env.below ⟨rfl, rfl, rfl, by simp, fun i hi => World.putObj_heap_other (by omega)⟩
  hK := by have := h.hK; simp; exact this
  ex := by
    obtain ⟨A, c, e, hi, hcc⟩ := h.ex
    refine ⟨A, c, e, fun hn => ?_, hcc⟩
    obtain ⟨bk, off, e', hlt, hx⟩ := hi hn
    refine ⟨bk, off, e', by simp; exact hlt, fun j x hj => ?_⟩
    have h1 := hx j x hj
    have hne : bk ≠ l := by
      rintro rfl
      simp only [World.cell?, ho] at h1
      cases o <;> simp_all [Obj.isCells]
    rw [← h1]
    exact World.cell?_of_block (World.putObj_heap_other hne)
theorem words_at {w : World} {g : Nat} {ws : List Tx} {T : TypeId} (h : w.heap[g]? = some (.cells (wordsV ws) T (0, 0))) {j : Nat} {y : Tx} (hj : ws[j]? = some y) : w.cell? ⟨g, j, none⟩ = some (.string (S y)) := by
  simp [World.cell?, h, wordsV, hj]
theorem J_below {Bs : Nat} {J : World → Prop} (h : Steady Bs J) {W W' : World} (hj : J W) (hb : Below W.heap.size W W') : J W' := h _ _ hj (grown_below hb)
theorem lines_iter (K Bs : Nat) (s0 : Tx) (n : Nat) (hn : 1 ≤ n) (hl : s0.length ≤ 90000) (W : World) (E : Env K W) (hK : K ≤ Bs) (hc : W.heap[Bs]? = some (.cells #[.string (S s0)] 9 (0, 0))) :
    Iter n 96 #[.pointer (some ⟨Bs, 0, none⟩)] K Bs (YL K) (fun s => (s.1 + 1, rstT s.2)) (fun s => s.2 = []) (1, s0) W := by
  intro l J Jx hJ hJx hY h0
  refine callsIn_of_wp Tryz.func96 rfl trivial ?_ rfl
  simp only [Tryz.ntmps96, List.size_toArray, List.length_cons, List.length_nil, Nat.reduceAdd, Nat.reduceSub, Array.replicate_succ, Array.replicate_zero, List.push_toArray, List.append_toArray, List.nil_append, List.cons_append]
  gi_wp2
  gi_loopw [3] (fun i wr => ∃ (k : Nat) (t : Tx), i = .int .i64 k ∧ 1 ≤ k ∧ k + t.length ≤ 1 + s0.length ∧ J (k, t) wr ∧ Env K wr ∧ wr.heap[Bs]? = some (.cells #[.string (S t)] 9 (0, 0)))
    (fun i _ => s0.length + 2 - (intOf i).toNat)
  case atStart => exact ⟨1, s0, rfl, Nat.le_refl _, by omega, h0, E, hc⟩
  case round =>
    obtain ⟨k, t, rfl, hk1, hkt, hJk, E', hcs⟩ := hrel
    have c0 : wr.cell? ⟨Bs, 0, none⟩ = some (.string (S t)) := by simp [World.cell?, hcs]
    have hBl := heap_lt hcs
    have HJ := Lib.hid hJ
    have HX := Lib.hid hJx
    have HY := Lib.hid hY
    have HP := Lib.hid hJk
    have HE := Lib.hid E'
    have HC := Lib.hid hcs
    clear hJ hJx hY hJk E E' hcs hc h0
    by_cases ht : t = []
    · subst ht
      have he : List.isEmpty ([] : Tx) = true := rfl
      gi_wp2
      go_end0
      exact ⟨⟨_, rfl⟩, .inl ⟨(k, []), rfl, HP.out⟩⟩
    · have he : List.isEmpty t = false := by cases t <;> simp_all
      have hle := cut_len ht
      have CUT := fun w (E : Env K w) => cut97 t (by omega) K w E
      have hne := Lib.hid ht
      clear ht
      obtain ⟨x, m, f, hcut⟩ : ∃ x m f, Lib.cut t [10] = (x, m, f) := ⟨_, _, _, rfl⟩
      have hx : x.length ≤ 100000 ∧ m.length + 1 ≤ t.length := by
        have h2 := hle
        unfold rstT at h2
        rw [hcut] at h2
        exact ⟨by have := h2.1; simp only at this; omega, h2.2⟩
      have hrst : Hid (rstT t = m) := Lib.hid (by unfold rstT; rw [hcut])
      rw [hcut] at CUT
      clear hle
      cases f with
      | false =>
        have hws : Hid (wdsT t = []) := Lib.hid (by unfold wdsT; rw [hcut]; rfl)
        have CU := Lib.hid CUT
        clear CUT hcut
        gi_wp2
        refine (callsIn_wide.2 (CU.out _ HE.out)).mono ?_
        rintro e W1 ⟨rfl, hb1⟩
        have E1 := Lib.hid (HE.out.below (hb1.mono (by omega)))
        have P1 := Lib.hid (J_below (HJ.out _) HP.out hb1)
        have C1 := Lib.hid ((hb1.block _ hBl).trans HC.out)
        have hBl1 := heap_lt C1.out
        clear hb1
        gi_wp2
        refine (callsIn_wide.2 (split98 x hx.1 K _ E1.out)).mono ?_
        rintro e W2 ⟨rfl, hW2⟩
        have E2 := Lib.hid (E1.out.below (w' := W2) (by rw [← hW2]; exact (Below.refl _ _).alloc (by omega) _))
        have P2 := Lib.hid (HJ.out _ _ W2 P1.out (by rw [← hW2]; exact World.grownBy_alloc _ _ _))
        have C2 : Hid (W2.heap[Bs]? = some (.cells #[.string (S t)] 9 (0, 0))) := Lib.hid (by rw [← hW2]; exact (Below.heap_alloc _ _ _ hBl1).trans C1.out)
        have hBl2 := heap_lt C2.out
        clear hW2 E1 P1 C1
        obtain ⟨fn, tmps, assign, body, hy', hR⟩ := HY.out (k, t) #[.int .i64 k, .slice none 0 0] W2 P2.out ⟨hne.out, by simp only; omega, hk1, E2.out, by omega, none, 0, by rw [hws.out]; rfl, by rw [hws.out]; exact fun h => absurd h (by simp), by rw [hws.out]; exact Nat.le_refl _⟩
        have HR := Lib.hid hR
        clear hR
        gi_wp2
        refine HR.out.mono ?_
        rintro e W3 (⟨rfl, hJ3, hk3⟩ | ⟨rfl, hJx3⟩)
        · have C3 := Lib.hid (hk3.cell.trans C2.out)
          have E3 := Lib.hid (E2.out.below hk3.below)
          have c3 : W3.cell? ⟨Bs, 0, none⟩ = some (.string (S t)) := by simp [World.cell?, C3.out]
          have f3 : W3.frozen? ⟨Bs, 0, none⟩ = false := by simp [World.frozen?, C3.out]
          have J3 := Lib.hid hJ3
          clear hJ3 hk3 HR E2 P2 C2
          gi_wp2
          have hb3 : Below K W3 (W3.setCell ⟨Bs, 0, none⟩ (.string (S m))) := (Below.refl _ _).setCell (p := ⟨Bs, 0, none⟩) hK _
          exact ⟨⟨k + 1, m, by go_num, by omega, by omega, (HJ.out _) _ _ (by have := J3.out; rw [hrst.out] at this; exact this) (grownBy_set _ _ _ _), E3.out.below hb3, setCell_heap _ _ _ _ _ _ _ C3.out⟩, by simp [intOf]; omega⟩
        · gi_wp2
          refine bodyPost_ret (results_none rfl _ _ _) rfl ?_
          exact ⟨⟨_, rfl⟩, .inr hJx3⟩
      | true =>
        have hws : Hid (wdsT t = splitC 32 x) := Lib.hid (by unfold wdsT; rw [hcut]; rfl)
        have CU := Lib.hid CUT
        clear CUT hcut
        gi_wp2
        refine (callsIn_wide.2 (CU.out _ HE.out)).mono ?_
        rintro e W1 ⟨rfl, hb1⟩
        have E1 := Lib.hid (HE.out.below (hb1.mono (by omega)))
        have P1 := Lib.hid (J_below (HJ.out _) HP.out hb1)
        have C1 := Lib.hid ((hb1.block _ hBl).trans HC.out)
        have hBl1 := heap_lt C1.out
        clear hb1
        gi_wp2
        refine (callsIn_wide.2 (split98 x hx.1 K _ E1.out)).mono ?_
        rintro e W2 ⟨rfl, hW2⟩
        have E2 := Lib.hid (E1.out.below (w' := W2) (by rw [← hW2]; exact (Below.refl _ _).alloc (by omega) _))
        have P2 := Lib.hid (HJ.out _ _ W2 P1.out (by rw [← hW2]; exact World.grownBy_alloc _ _ _))
        have C2 : Hid (W2.heap[Bs]? = some (.cells #[.string (S t)] 9 (0, 0))) := Lib.hid (by rw [← hW2]; exact (Below.heap_alloc _ _ _ hBl1).trans C1.out)
        have hBl2 := heap_lt C2.out
        have hIn : InT W2 W2.heap.size (some ⟨W1.heap.size, 0, none⟩) (splitC 32 x) := fun _ => ⟨W1.heap.size, 0, rfl, by rw [← hW2]; simp, fun j y hj => by
          have := words_at (w := W2) (g := W1.heap.size) (ws := splitC 32 x) (T := 9) (by rw [← hW2]; exact heap_alloc_new _ _) hj
          rw [Nat.zero_add]; exact this⟩
        clear hW2 E1 P1 C1
        obtain ⟨fn, tmps, assign, body, hy', hR⟩ := HY.out (k, t) #[.int .i64 k, .slice (some ⟨W1.heap.size, 0, none⟩) (splitC 32 x).length (splitC 32 x).length] W2 P2.out ⟨hne.out, by simp only; omega, hk1, E2.out, by omega, some ⟨W1.heap.size, 0, none⟩, (splitC 32 x).length, by rw [hws.out], by rw [hws.out]; exact hIn, by rw [hws.out]; exact Nat.le_refl _⟩
        have HR := Lib.hid hR
        clear hR hIn
        gi_wp2
        refine HR.out.mono ?_
        rintro e W3 (⟨rfl, hJ3, hk3⟩ | ⟨rfl, hJx3⟩)
        · have C3 := Lib.hid (hk3.cell.trans C2.out)
          have E3 := Lib.hid (E2.out.below hk3.below)
          have c3 : W3.cell? ⟨Bs, 0, none⟩ = some (.string (S t)) := by simp [World.cell?, C3.out]
          have f3 : W3.frozen? ⟨Bs, 0, none⟩ = false := by simp [World.frozen?, C3.out]
          have J3 := Lib.hid hJ3
          clear hJ3 hk3 HR E2 P2 C2
          gi_wp2
          have hb3 : Below K W3 (W3.setCell ⟨Bs, 0, none⟩ (.string (S m))) := (Below.refl _ _).setCell (p := ⟨Bs, 0, none⟩) hK _
          exact ⟨⟨k + 1, m, by go_num, by omega, by omega, (HJ.out _) _ _ (by have := J3.out; rw [hrst.out] at this; exact this) (grownBy_set _ _ _ _), E3.out.below hb3, setCell_heap _ _ _ _ _ _ _ C3.out⟩, by simp [intOf]; omega⟩
        · gi_wp2
          refine bodyPost_ret (results_none rfl _ _ _) rfl ?_
          exact ⟨⟨_, rfl⟩, .inr hJx3⟩
end Go.Proofs.YtnnnpliigdfipaaGreatDoor
