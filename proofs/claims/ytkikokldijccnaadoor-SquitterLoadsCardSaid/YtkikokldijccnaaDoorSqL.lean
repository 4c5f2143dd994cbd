/- squitter: the builder; a line of Save. -/
import Derived.Test.YtkikokldijccnaaDoorRows
import Derived.WalkKit
import Derived.WalkLawsBesides
import Derived.WalkSpells
import Derived.ProofKit
import Derived.Below
import Derived.Outline
import Derived.Lib.Hide
import Derived.Deep.RegionWith
import Derived.Deep.RegionHeld3
import Derived.Deep.DrawnRows
import Derived.StillTailTactics
import Derived.BigQuiet
import Derived.Deep.QuietTactic
import Derived.Deep.LoopGhost
import Derived.IntWalk
import Derived.BigQuiet
import Derived.Lib.LaidTab
import Derived.Lib.AppendIntMem
import Derived.Lib.AtoiErrMem
import Derived.Lib.OthersKept
import Derived.Lib.BufferKept
import Derived.Lib.FrozenHead
import Derived.Shelf.Strings.BuilderK
import Derived.Test.YtkikokldijccnaaDoorSqG
import Derived.Test.YtkikokldijccnaaDoorSqS
import Derived.Test.YtkikokldijccnaaDoorSqK
namespace Go.Proofs.YtkikokldijccnaaDoor
open Go.RowKit Go.Maps
attribute [local go_sem ↓] Go.wp_at_zero Go.wp_at_succ
attribute [local go_sem] wrap_lit
abbrev S (l : List UInt8) : ByteArray := ⟨l.toArray⟩
theorem S_list (l : List UInt8) : (S l).data.toList = l := by simp
theorem S_size (l : List UInt8) : (S l).size = l.length := by simp [ByteArray.size]
theorem S_app (l m : Tx) : S l ++ S m = S (l ++ m) := by
  apply ByteArray.ext
  simp
theorem S_data (s : ByteArray) : S s.data.toList = s := by apply ByteArray.ext; simp
def PowTab (w : World) : Prop := Lib.TabIs Tryd.prog w "internal/strconv.uint64pow10" .u64 Lib.pow10Tab
theorem pow_num : Tryd.prog.globalNamed "internal/strconv.uint64pow10" = some 0 := by kernel_rfl
/-- what Itoa wants of the world: its table, below block K -/
structure Env (K : Nat) (w : World) : Prop where
  le : 0 < K
  tab : PowTab w
theorem Env.below {K : Nat} {w w' : World} (h : Env K w) (hb : Below K w w') : Env K w' where
  le := h.le
  tab := by
    have ht := h.tab
    have hl := h.le
    unfold PowTab Lib.TabIs World.var? at ht ⊢
    rw [pow_num] at ht ⊢
    simp only [Option.bind_some] at ht ⊢
    rw [hb.block _ (by omega)]
    exact ht
theorem itoaC (n : Int) (h0 : -9223372036854775808 ≤ n) (h1 : n ≤ 9223372036854775807) (K : Nat) (w : World) (E : Env K w) : Calls Tryd.prog 38 #[.int .i64 n] w fun e w' => e = .returned (.string (S (Lib.itoa n))) ∧ Below w.heap.size w w' := by
  refine (Tryd.strconv_Itoa n h0 h1 w E.tab).mono ?_
  rintro e w' ⟨rfl, k, os, rfl⟩
  exact ⟨rfl, Lib.below_grow _ _ (Nat.le_refl _) _ _⟩
/-- the builder at b holds the text l -/
def Bld (B b : Nat) (l : Tx) (w : World) : Prop := Lib.IsBuilderF 61 5 B b (Lib.byteCells l) w
theorem rowF_below {w w' : World} {base : Nat} {e : TypeId} {size n : Nat} {v : Value} {xs : List Value} (h : w.ownsRowF base e size v n xs) (hb : Below w.heap.size w w') : w'.ownsRowF base e size v n xs :=
  h.kept (row := none) ⟨hb.os, hb.tape, hb.output, hb.size, fun k hk _ => hb.block k hk⟩ (by cases hv : v.ownBlock <;> simp)
theorem Bld.below {B b : Nat} {l : Tx} {w w' : World} (h : Bld B b l w) (hb : Below w.heap.size w w') : Bld B b l w' := by
  rcases h with ⟨h1, v, h2, h3, h4⟩ | ⟨h1, v, h2, h3, h4⟩
  · exact .inl ⟨h1, v, (hb.block _ (heap_lt h2)).trans h2, rowF_below h3 hb, h4⟩
  · exact .inr ⟨h1, v, (hb.block _ (heap_lt h2)).trans h2, rowF_below h3 hb, h4⟩
theorem byteCells_app (l m : Tx) : Lib.byteCells l ++ Lib.strCells (S m) = Lib.byteCells (l ++ m) := by
  simp [Lib.byteCells, Lib.strCells]
/-- what a write keeps -/
structure Wr (B b : Nat) (w w' : World) : Prop where
  below : Below B w w'
  others : Lib.OthersKept 5 (some b) w w'
theorem Wr.refl (B b : Nat) (w : World) : Wr B b w w := ⟨Below.refl _ _, Lib.OthersKept.refl _ _ _⟩
theorem Wr.trans {B b : Nat} {w w1 w2 : World} (h : Wr B b w w1) (k : Wr B b w1 w2) : Wr B b w w2 := ⟨h.below.trans k.below, h.others.trans k.others⟩
theorem Wr.of_below {B b : Nat} {w w1 : World} (h : Below w.heap.size w w1) (hB : B ≤ w.heap.size) : Wr B b w w1 := ⟨h.mono hB, (Lib.OthersKept.refl _ _ _).below h⟩
theorem Wr.keep {B b : Nat} {w w' : World} (h : Wr B b w w') {k : Nat} {cs : Array Value} {e : TypeId} {f : Nat × Nat} (hk : w.heap[k]? = some (.cells cs e f)) (hb : k ≠ b) (he : e ≠ 5) : w'.heap[k]? = some (.cells cs e f) :=
  h.others k _ hk (fun e0 => hb (by injection e0)) (fun c fz e0 => he (by cases e0; rfl))
theorem Bld.new (w : World) : Bld w.heap.size w.heap.size [] (w.alloc (.cells #[.pointer none, .slice none 0 0] 61)) :=
  .inl ⟨Nat.le_refl _, .slice none 0 0, heap_alloc_new _ _, World.ownsRowF_nil _ _ _ _, by simp [Value.ownBlock]⟩
theorem writeS {B b : Nat} {l m : Tx} {w : World} (h : Bld B b l w) (hl : l.length + m.length ≤ 1000000) (hB : B ≤ w.heap.size) : Calls Tryd.prog 37 #[.pointer (some ⟨b, 0, none⟩), .string (S m)] w fun e w' => (∃ n, e = .returned (.tuple #[.int .i64 n, .nilIface])) ∧ Bld B b (l ++ m) w' ∧ Wr B b w w' := by
  refine (Go.Proofs.Any.Builder_WriteString_k lay166 bl_extra B b (Lib.byteCells l) (S m) w h (by rw [Lib.byteCells_length, S_size]; omega) hB).mono ?_
  rintro e w2 ⟨rfl, h2, hb2, hk2⟩
  rw [byteCells_app] at h2
  exact ⟨⟨_, rfl⟩, .inr h2, hb2, hk2⟩
theorem writeB {B b : Nat} {l : Tx} {w : World} (c : UInt8) (h : Bld B b l w) (hl : l.length + 1 ≤ 1000000) (hB : B ≤ w.heap.size) : Calls Tryd.prog 36 #[.pointer (some ⟨b, 0, none⟩), .int .u8 c.toNat] w fun e w' => e = .returned .nilIface ∧ Bld B b (l ++ [c]) w' ∧ Wr B b w w' := by
  refine (Go.Proofs.Any.Builder_WriteByte_k lay167 bl_extra B b (Lib.byteCells l) c.toNat w h (by rw [Lib.byteCells_length]; omega) hB).mono ?_
  rintro e w2 ⟨rfl, h2, hb2, hk2⟩
  have e1 : Lib.byteCells l ++ [.int .u8 c.toNat] = Lib.byteCells (l ++ [c]) := by simp [Lib.byteCells]
  rw [e1] at h2
  exact ⟨rfl, .inr h2, hb2, hk2⟩
theorem lineJ_take {ns : List Int} {k : Nat} (hk : k < ns.length) : lineJ (ns.take (k + 1)) = (if k = 0 then [] else lineJ (ns.take k) ++ [32]) ++ Lib.itoa (nth ns k) := by
  have e : ns.take (k + 1) = ns.take k ++ [nth ns k] := take_nth ns k hk
  rw [e]
  by_cases h : k = 0
  · subst h; simp [lineJ, Lib.join_cons, Lib.joinTail]
  · rw [if_neg h]
    have := lineX_snoc (ns.take k) (nth ns k)
    have e2 : lineJ (ns.take k ++ [nth ns k]) = flatW (ns.take k) ++ Lib.itoa (nth ns k) := by
      have h2 : lineJ (ns.take k ++ [nth ns k]) ++ [10] = (flatW (ns.take k) ++ Lib.itoa (nth ns k)) ++ [10] := this
      exact List.append_cancel_right h2
    rw [e2]
    congr 1
    have hne : ns.take k ≠ [] := by intro e; have := congrArg List.length e; rw [List.length_take, Nat.min_eq_left (Nat.le_of_lt hk)] at this; exact h this
    have hsn : ∃ l n, ns.take k = l ++ [n] := ⟨(ns.take k).dropLast, (ns.take k).getLast hne, (List.dropLast_concat_getLast hne).symm⟩
    obtain ⟨l, n, e3⟩ := hsn
    rw [e3, flatW_snoc]
    have h4 : lineJ (l ++ [n]) ++ [10] = (flatW l ++ Lib.itoa n) ++ [10] := lineX_snoc l n
    rw [List.append_cancel_right h4]
theorem lineJ_le (ns : List Int) (k : Nat) : (lineJ (ns.take k)).length ≤ (lineJ ns).length := by
  have key : ∀ (l m : List Int), (lineJ l).length ≤ (lineJ (l ++ m)).length := by
    intro l m
    cases l with
    | nil => simp [lineJ, Lib.join, List.intercalate]
    | cons a l =>
      unfold lineJ
      rw [List.cons_append, List.map_cons, List.map_cons, Lib.join_cons, Lib.join_cons, List.map_append]
      simp [Lib.joinTail]
  have := key (ns.take k) (ns.drop k)
  rwa [List.take_append_drop] at this
set_option maxRecDepth 100000 in
set_option maxHeartbeats 4000000 in
theorem line35 {K B b g c : Nat} {ns : List Int} {l : Tx} {w : World} (E : Env K w) (hKB : K ≤ B) (h : Bld B b l w) (hB : B ≤ w.heap.size) {cs : Array Value} (hg : w.heap[g]? = some (.cells cs 3 (0, 0))) (hc : ∀ j, j < ns.length → cs[j]? = some (.int .i64 (nth ns j))) (hns : ∀ n ∈ ns, okN n) (hl : l.length + (lineJ ns).length + 2 ≤ 1000000) (hN : ns.length ≤ 1000) (hgb : g ≠ b) :
    Calls Tryd.prog 35 #[.slice (some ⟨g, 0, none⟩) ns.length c, .pointer (some ⟨b, 0, none⟩)] w fun e w' => e = .returned (.tuple #[]) ∧ Bld B b (l ++ lineX ns) w' ∧ Wr B b w w' := by
  have HE : Hid (∀ w', Below B w w' → Env K w') := Lib.hid (fun w' hb => E.below (hb.mono hKB))
  have HG := Lib.hid hg
  have HC := Lib.hid hc
  have HB := Lib.hid h
  have HNS := Lib.hid hns
  clear hg hc h E hns
  go_enter Tryd.func35, Tryd.ntmps35
  go_wp2_with fail
  go_loopw [3, 4, 7] (fun _ _ i wr => ∃ k : Nat, k ≤ ns.length ∧ i = .int .i64 k ∧ Bld B b (l ++ lineJ (ns.take k)) wr ∧ Wr B b w wr) (fun _ _ i _ => ns.length - (intOf i).toNat)
  case atStart => exact ⟨0, Nat.zero_le _, rfl, by simpa [lineJ, Lib.join, List.intercalate] using HB.out, Wr.refl _ _ _⟩
  case round =>
    obtain ⟨k, hk, rfl, hbd, hwr⟩ := hrel
    have hsr := hwr.below.size
    have hlk := lineJ_le ns k
    have hll : (l ++ lineJ (ns.take k)).length = l.length + (lineJ (ns.take k)).length := by simp
    by_cases hlt : k < ns.length
    · have hgr := hwr.keep HG.out hgb (by decide)
      have hck : wr.cell? ⟨g, k, none⟩ = some (.int .i64 (nth ns k)) := (cellOf hgr).trans (HC.out k hlt)
      have hnk : okN (nth ns k) := HNS.out _ (by simp [nth, List.getD_eq_getElem?_getD, hlt])
      unfold okN at hnk
      obtain ⟨hn0, hn1⟩ := hnk
      have hlt2 : (k : Int) < (ns.length : Int) := by omega
      have HB0 := Lib.hid hbd
      have HW0 := Lib.hid hwr
      clear hbd hwr hgr
      have hj := lineJ_take hlt
      have hj1 := lineJ_le ns (k + 1)
      rw [hj] at hj1
      by_cases hk0 : k = 0
      · subst hk0
        rw [if_pos rfl] at hj hj1
        have hJ := Lib.hid hj
        have hzl : (lineJ (ns.take 0)).length = 0 := by simp [lineJ, Lib.join, List.intercalate]
        simp only [List.nil_append] at hj1
        clear hj
        go_wp2_with (first
          | (go_at_call 38; refine (itoaC (nth ns 0) (by omega) (by omega) K wr (HE.out wr HW0.out.below)).mono ?_; rintro e w2 ⟨rfl, hb2⟩)
          | (go_at_call 37; refine (writeS (l := l ++ lineJ (ns.take 0)) (HB0.out.below hb2) (by omega) (Nat.le_trans (by omega) hb2.size)).mono ?_; rintro e w3 ⟨⟨n3, rfl⟩, hbd3, hw3⟩)
          | go_in)
        have hW3 := (HW0.out.trans (Wr.of_below (b := b) hb2 (by omega))).trans hw3
        exact ⟨⟨1, by omega, by go_num, by rw [hJ.out]; rw [show lineJ (ns.take 0) = [] from List.length_eq_zero_iff.1 hzl] at hbd3; simpa using hbd3, hW3⟩, by simp [intOf]; omega⟩
      · have qd : decide (0 < k) = true := decide_eq_true (Nat.pos_of_ne_zero hk0)
        rw [if_neg hk0] at hj hj1
        have hJ := Lib.hid hj
        simp only [List.length_append, List.length_singleton] at hj1
        clear hj hk0
        go_wp2_with (first
          | (go_at_call 36; refine (writeB (l := l ++ lineJ (ns.take k)) 32 HB0.out (by omega) (by omega)).mono ?_; rintro e w1 ⟨rfl, hbd1, hw1⟩)
          | (go_at_call 38; refine (itoaC (nth ns k) (by omega) (by omega) K w1 (HE.out w1 (HW0.out.trans hw1).below)).mono ?_; rintro e w2 ⟨rfl, hb2⟩)
          | (go_at_call 37; refine (writeS (l := (l ++ lineJ (ns.take k)) ++ [32]) (hbd1.below hb2) (by simp only [List.length_append, List.length_singleton]; omega) (Nat.le_trans hB (Nat.le_trans (HW0.out.trans hw1).below.size hb2.size))).mono ?_; rintro e w3 ⟨⟨n3, rfl⟩, hbd3, hw3⟩)
          | go_in)
        have hW3 := ((HW0.out.trans hw1).trans (Wr.of_below (b := b) hb2 (Nat.le_trans hB (HW0.out.trans hw1).below.size))).trans hw3
        exact ⟨⟨k + 1, by omega, by go_num, by rw [hJ.out]; simpa [List.append_assoc] using hbd3, hW3⟩, by simp [intOf]; omega⟩
    · obtain rfl : k = ns.length := by omega
      rw [List.take_length] at hbd hll
      have HB0 := Lib.hid hbd
      have HW0 := Lib.hid hwr
      clear hbd hwr
      go_wp2_with (first
        | (go_at_call 36; refine (writeB (l := l ++ lineJ ns) 10 HB0.out (by omega) (by omega)).mono ?_; rintro e w1 ⟨rfl, hbd1, hw1⟩)
        | go_in)
      go_end0
      exact ⟨rfl, by rw [List.append_assoc] at hbd1; exact hbd1, HW0.out.trans hw1⟩
end Go.Proofs.YtkikokldijccnaaDoor
