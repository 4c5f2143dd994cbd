/- encounter: slices of aircraft that the walk has made itself. -/
import Derived.Test.YtnnnpliigdfipaaGreatDoorEnI
import Derived.Test.YtnnnpliigdfipaaGreatDoorEnW
import Derived.Deep.AppendLies
import Derived.RangeFuncOwn
namespace Go.Proofs.YtnnnpliigdfipaaGreatDoor
open Go.RowKit
theorem ownsRow_set {w : World} {base g : Nat} {e : TypeId} {size n cap : Nat} {xs : List Value} (h : w.ownsRow base e size (.slice (some ⟨g, 0, none⟩) n cap) n xs) (j : Nat) (u : Value) :
    (w.setCell ⟨g, j, none⟩ u).ownsRow base e size (.slice (some ⟨g, 0, none⟩) n cap) n (xs.set j u) := by
  obtain ⟨hl, h⟩ := h
  refine ⟨by simpa using hl, ?_⟩
  rcases h with ⟨e, -⟩ | ⟨g', cap', cur, e, hb, hg, h1, h2, h3, h4⟩
  · cases e
  · injection e with e1 e2 e3
    injection e1 with e1
    injection e1 with e1
    subst e1 e3
    refine .inr ⟨g, cap, cur.setIfInBounds j u, rfl, hb, setCell_heap _ _ _ _ _ _ _ hg, h1, h2, by simpa using h3, ?_⟩
    rw [Array.toList_setIfInBounds, ← h4, List.take_set]
theorem ownsRow_form {w : World} {base : Nat} {e : TypeId} {size n : Nat} {v : Value} {xs : List Value} (h : w.ownsRow base e size v n xs) : ∃ A cap, v = .slice A n cap ∧ n ≤ cap ∧ (0 < n → ∃ g, A = some ⟨g, 0, none⟩ ∧ base ≤ g ∧ g < w.heap.size ∧ (∃ cur, w.heap[g]? = some (.cells cur e (0, 0))) ∧ ∀ i u, xs[i]? = some u → w.cell? ⟨g, i, none⟩ = some u) := by
  obtain ⟨hl, h⟩ := h
  rcases h with ⟨rfl, rfl⟩ | ⟨g, cap, cur, rfl, hb, hg, h1, h2, h3, h4⟩
  · exact ⟨none, 0, rfl, Nat.le_refl _, fun h => absurd h (by omega)⟩
  · refine ⟨some ⟨g, 0, none⟩, cap, rfl, h1, fun _ => ⟨g, rfl, hb, heap_lt hg, ⟨cur, hg⟩, fun i u hu => ?_⟩⟩
    rw [← h4, List.getElem?_take] at hu
    split at hu
    · simpa [World.cell?, hg] using hu
    · cases hu
def crV (c : Cr) (lv : Value) : List Value := [.int .i64 c.ad, .int .i64 c.p.x, .int .i64 c.p.y, .int .i64 c.p.z, .int .i64 c.v.x, .int .i64 c.v.y, .int .i64 c.v.z, .int .i64 c.pu, lv, .int .u8 c.mo, .int .i64 c.de, .int .i64 c.pp, .int .i64 c.mi]
def crsV : List Cr → List Value → List Value
  | c :: cs, lv :: lvs => crV c lv ++ crsV cs lvs
  | _, _ => []
theorem crV_len (c : Cr) (lv : Value) : (crV c lv).length = 13 := rfl
theorem crsV_len : ∀ (cs : List Cr) (lvs : List Value), lvs.length = cs.length → (crsV cs lvs).length = cs.length * 13
  | [], [], _ => rfl
  | c :: cs, lv :: lvs, h => by
    have := crsV_len cs lvs (by simpa using h)
    simp only [crsV, List.length_append, crV_len, List.length_cons, this]
    omega
theorem crsV_at : ∀ (cs : List Cr) (lvs : List Value) (j : Nat) (c : Cr) (lv : Value) (i : Nat), cs[j]? = some c → lvs[j]? = some lv → i < 13 → (crsV cs lvs)[j * 13 + i]? = (crV c lv)[i]?
  | c :: cs, lv :: lvs, 0, c', lv', i, h, h', hi => by
    simp only [List.getElem?_cons_zero, Option.some.injEq] at h h'
    subst h h'
    rw [crsV, Nat.zero_mul, Nat.zero_add, List.getElem?_append_left (by rw [crV_len]; exact hi)]
  | c :: cs, lv :: lvs, j + 1, c', lv', i, h, h', hi => by
    rw [crsV, List.getElem?_append_right (by rw [crV_len]; omega), crV_len, show (j + 1) * 13 + i - 13 = j * 13 + i by omega]
    exact crsV_at cs lvs j c' lv' i (by simpa using h) (by simpa using h') hi
  | [], _, _, _, _, _, h, _, _ => by simp at h
  | _ :: _, [], _, _, _, _, _, h, _ => by simp at h
theorem crsV_app (c : Cr) (lv : Value) : ∀ (cs : List Cr) (lvs : List Value), lvs.length = cs.length → crsV (cs ++ [c]) (lvs ++ [lv]) = crsV cs lvs ++ crV c lv
  | [], [], _ => by simp [crsV]
  | d :: cs, lw :: lvs, h => by
    simp only [List.cons_append, crsV, crsV_app c lv cs lvs (by simpa using h), List.append_assoc]
/-- aircraft at v, made behind n0; the last one's legs lie at Bl or behind, the others' ahead of it -/
structure PS (w : World) (n0 : Nat) (v : Value) (cs : List Cr) (lvs : List Value) (Bl : Nat) : Prop where
  row : w.ownsRow n0 63 13 v cs.length (crsV cs lvs)
  len : lvs.length = cs.length
  legs : ∀ (j : Nat) (c : Cr) (lv : Value), cs[j]? = some c → lvs[j]? = some lv → ∃ B, n0 ≤ B ∧ w.ownsRow B 54 2 lv c.lg.length ((flat c.lg).map (Value.int .i64)) ∧ (j + 1 = cs.length → B = Bl)
  sep : ∀ (j : Nat) (lv : Value) (k : Nat), lvs[j]? = some lv → j + 1 < cs.length → lv.ownBlock = some k → k < Bl
theorem PS.nil (w : World) (n0 : Nat) : PS w n0 (.slice none 0 0) [] [] 0 :=
  ⟨World.ownsRow_nil _ _ _ _, rfl, fun j c lv h => by simp at h, fun j lv k h => by simp at h⟩
/-- a block that is none of the aircraft's nor of their legs -/
def Foreign (w : World) (row : Option Nat) : Prop := ∀ r, row = some r → ∀ cs e f, w.heap[r]? = some (.cells cs e f) → e ≠ 63 ∧ e ≠ 54
theorem ownsRow_foreign {w w' : World} {base : Nat} {e : TypeId} {size n : Nat} {v : Value} {xs : List Value} {row : Option Nat} (h : w.ownsRow base e size v n xs) (hg : w.grownBy w' row) (hf : ∀ r, row = some r → ∀ cs e' f, w.heap[r]? = some (.cells cs e' f) → e' ≠ e) : w'.ownsRow base e size v n xs := by
  refine h.kept hg ?_
  rcases h.2 with ⟨rfl, _⟩ | ⟨g, cap, cur, rfl, _, hgg, _⟩
  · exact .inl rfl
  · refine .inr fun e => ?_
    simp only [Value.ownBlock] at e
    exact hf g e.symm _ _ _ hgg rfl
theorem PS.grown {w w' : World} {n0 : Nat} {v : Value} {cs : List Cr} {lvs : List Value} {Bl : Nat} {row : Option Nat} (h : PS w n0 v cs lvs Bl) (hg : w.grownBy w' row) (hf : Foreign w row) : PS w' n0 v cs lvs Bl where
  row := ownsRow_foreign h.row hg (fun r hr cs e f hc => (hf r hr cs e f hc).1)
  len := h.len
  legs := fun j c lv h1 h2 => by
    obtain ⟨B, h3, h4, h5⟩ := h.legs j c lv h1 h2
    exact ⟨B, h3, ownsRow_foreign h4 hg (fun r hr cs e f hc => (hf r hr cs e f hc).2), h5⟩
  sep := h.sep
theorem foreign_none (w : World) : Foreign w none := fun r h => by cases h
theorem ownsRow_mono {w : World} {base base' : Nat} {e : TypeId} {size n : Nat} {v : Value} {xs : List Value} (h : w.ownsRow base e size v n xs) (hb : base' ≤ base) : w.ownsRow base' e size v n xs := by
  refine ⟨h.1, ?_⟩
  rcases h.2 with h2 | ⟨g, cap, cur, h1, h2, h3⟩
  · exact .inl h2
  · exact .inr ⟨g, cap, cur, h1, Nat.le_trans hb h2, h3⟩
theorem PS.mono {w : World} {n0 n1 : Nat} {v : Value} {cs : List Cr} {lvs : List Value} {Bl : Nat} (h : PS w n0 v cs lvs Bl) (hn : n1 ≤ n0) : PS w n1 v cs lvs Bl :=
  ⟨ownsRow_mono h.row hn, h.len, fun j c lv h1 h2 => by
    obtain ⟨B, h3, h4⟩ := h.legs j c lv h1 h2
    exact ⟨B, Nat.le_trans hn h3, h4⟩, h.sep⟩
theorem PS.mono6 {w : World} {n0 : Nat} {v : Value} {cs : List Cr} {lvs : List Value} {Bl : Nat} (h : PS w (n0 + 6) v cs lvs Bl) : PS w n0 v cs lvs Bl := h.mono (by omega)
theorem PS.below {w w' : World} {n0 : Nat} {v : Value} {cs : List Cr} {lvs : List Value} {Bl : Nat} (h : PS w n0 v cs lvs Bl) (hb : Below w.heap.size w w') : PS w' n0 v cs lvs Bl :=
  h.grown (row := none) ⟨hb.os, hb.tape, hb.output, hb.size, fun k hk _ => hb.block k hk⟩ (foreign_none _)
/-- a turn of a block ahead of n0, or of one that is no cells -/
theorem PS.grown_own {w w' : World} {n0 : Nat} {v : Value} {cs : List Cr} {lvs : List Value} {Bl : Nat} {row : Option Nat} (h : PS w n0 v cs lvs Bl) (hg : w.grownBy w' row) (hr : ∀ r, row = some r → r < n0 ∨ ∃ o : Obj, w.heap[r]? = some o ∧ o.isCells = false) : PS w' n0 v cs lvs Bl := by
  have keep : ∀ {B n : Nat} {e : TypeId} {size : Nat} {u : Value} {ys : List Value}, n0 ≤ B → w.ownsRow B e size u n ys → w'.ownsRow B e size u n ys := by
    intro B n e size u ys hB hu
    refine hu.kept hg ?_
    rcases hu.2 with ⟨rfl, _⟩ | ⟨g, cap, cur, rfl, hb, hgg, _⟩
    · exact .inl rfl
    · refine .inr fun e => ?_
      simp only [Value.ownBlock] at e
      rcases hr g e.symm with h1 | ⟨o, ho, hc⟩
      · omega
      · rw [hgg] at ho
        cases ho
        cases hc
  exact ⟨keep (Nat.le_refl _) h.row, h.len, fun j c lv h1 h2 => by
    obtain ⟨B, h3, h4, h5⟩ := h.legs j c lv h1 h2
    exact ⟨B, h3, keep h3 h4, h5⟩, h.sep⟩
theorem PS.lt {w : World} {n0 : Nat} {v : Value} {cs : List Cr} {lvs : List Value} {Bl : Nat} (h : PS w n0 v cs lvs Bl) {j : Nat} {lv : Value} {k : Nat} (hj : lvs[j]? = some lv) (hk : lv.ownBlock = some k) : n0 ≤ k ∧ k < w.heap.size := by
  have hl : j < lvs.length := (List.getElem?_eq_some_iff.1 hj).1
  have hc : cs[j]? = some (cs[j]'(by rw [← h.len]; exact hl)) := List.getElem?_eq_getElem _
  obtain ⟨B, h1, h2, -⟩ := h.legs j _ lv hc hj
  have := h2.lt k hk
  omega
/-- an aircraft without legs more -/
theorem PS.push {w w' : World} {n0 : Nat} {v v' : Value} {cs : List Cr} {lvs : List Value} {Bl : Nat} {c : Cr} (h : PS w n0 v cs lvs Bl) (hn : n0 ≤ w.heap.size) (hc : c.lg = []) (hrow : w'.ownsRow n0 63 13 v' (cs.length + 1) (crsV cs lvs ++ crV c (.slice none 0 0))) (hg : w.grownBy w' v.ownBlock) :
    PS w' n0 v' (cs ++ [c]) (lvs ++ [.slice none 0 0]) w.heap.size where
  row := by rw [crsV_app _ _ _ _ h.len, List.length_append]; exact hrow
  len := by simp [h.len]
  legs := fun j d lv h1 h2 => by
    rcases Nat.lt_or_ge j cs.length with hj | hj
    · rw [List.getElem?_append_left hj] at h1
      rw [List.getElem?_append_left (by rw [h.len]; exact hj)] at h2
      obtain ⟨B, h3, h4, -⟩ := h.legs j d lv h1 h2
      refine ⟨B, h3, ownsRow_foreign h4 hg (fun r hr cs' e' f he => ?_), fun e => by simp at e; omega⟩
      rcases h.row.2 with ⟨rfl, _⟩ | ⟨g, cap, cur, rfl, _, hgg, _⟩
      · cases hr
      · simp only [Value.ownBlock, Option.some.injEq] at hr
        subst hr
        rw [hgg] at he
        cases he
        decide
    · have e : j = cs.length := by
        have := (List.getElem?_eq_some_iff.1 h1).1
        simp at this; omega
      subst e
      rw [List.getElem?_append_right (Nat.le_refl _)] at h1
      rw [List.getElem?_append_right (by rw [h.len]; exact Nat.le_refl _)] at h2
      simp [h.len] at h1 h2
      subst h1 h2
      rw [hc]
      exact ⟨w.heap.size, hn, World.ownsRow_nil _ _ _ _, fun _ => rfl⟩
  sep := fun j lv k h1 h2 h3 => by
    have hj : j < cs.length := by simp at h2; omega
    rw [List.getElem?_append_left (by rw [h.len]; exact hj)] at h1
    exact (h.lt h1 h3).2
theorem flat_snoc (l : List (Int × Int)) (x : Int × Int) : flat (l ++ [x]) = flat l ++ [x.1, x.2] := by
  induction l with
  | nil => rfl
  | cons a l ih => simp only [List.cons_append, flat, ih]
/-- one leg more at the last aircraft -/
theorem PS.leg {w w1 : World} {n0 : Nat} {A : Option Addr} {cap : Nat} {cs : List Cr} {lvs : List Value} {Bl : Nat} {c : Cr} {lv lv' : Value} {x : Int × Int} (h : PS w n0 (.slice A (cs.length + 1) cap) (cs ++ [c]) (lvs ++ [lv]) Bl)
    (hrow : w1.ownsRow Bl 54 2 lv' (c.lg.length + 1) ((flat c.lg).map (Value.int .i64) ++ [.int .i64 x.1, .int .i64 x.2])) (hg : w.grownBy w1 lv.ownBlock) :
    ∃ g, A = some ⟨g, 0, none⟩ ∧ PS (w1.setCell ⟨g, cs.length * 13 + 8, none⟩ lv') n0 (.slice A (cs.length + 1) cap) (cs ++ [{ c with lg := c.lg ++ [x] }]) (lvs ++ [lv']) Bl := by
  have hlen : lvs.length = cs.length := by have := h.len; simpa using this
  obtain ⟨Bq, q1, q2, q3⟩ := h.legs cs.length c lv (by simp) (by rw [← hlen]; simp)
  have hrow0 := h.row
  rw [List.length_append, List.length_singleton, crsV_app _ _ _ _ hlen] at hrow0
  -- the row of the aircraft is not touched by the append
  have hrow1 : w1.ownsRow n0 63 13 (.slice A (cs.length + 1) cap) (cs.length + 1) (crsV cs lvs ++ crV c lv) := by
    refine ownsRow_foreign hrow0 hg (fun r hr cs' e' f he => ?_)
    rcases q2.2 with ⟨rfl, _⟩ | ⟨g, cap', cur, rfl, _, hgg, _⟩
    · cases hr
    · simp only [Value.ownBlock, Option.some.injEq] at hr
      subst hr
      rw [hgg] at he
      cases he
      decide
  obtain ⟨A', cap', e, -, hA⟩ := ownsRow_form hrow1
  injection e with e1 e2 e3
  subst e1 e3
  obtain ⟨g, rfl, hg1, hg2, ⟨cur, hcur⟩, -⟩ := hA (by omega)
  refine ⟨g, rfl, ?_⟩
  have hset := ownsRow_set hrow1 (cs.length * 13 + 8) lv'
  have hgs : w1.grownBy (w1.setCell ⟨g, cs.length * 13 + 8, none⟩ lv') (some g) := grownBy_set _ _ _ _
  have far : ∀ {B n : Nat} {u : Value} {ys : List Value}, w1.ownsRow B 54 2 u n ys → (w1.setCell ⟨g, cs.length * 13 + 8, none⟩ lv').ownsRow B 54 2 u n ys := fun hu =>
    ownsRow_foreign hu hgs (fun r hr cs' e' f he => by
      cases hr
      rw [hcur] at he
      cases he
      decide)
  constructor
  · rw [crsV_app _ _ _ _ hlen, List.length_append, List.length_singleton]
    rw [List.set_append_right _ _ (by rw [crsV_len _ _ hlen]; omega), crsV_len _ _ hlen, show cs.length * 13 + 8 - cs.length * 13 = 8 by omega] at hset
    exact hset
  · simp [hlen]
  · intro j d lw h1 h2
    rcases Nat.lt_or_ge j cs.length with hj | hj
    · rw [List.getElem?_append_left hj] at h1
      rw [List.getElem?_append_left (by rw [hlen]; exact hj)] at h2
      obtain ⟨B, h3, h4, -⟩ := h.legs j d lw (by rw [List.getElem?_append_left hj]; exact h1) (by rw [List.getElem?_append_left (by rw [hlen]; exact hj)]; exact h2)
      refine ⟨B, h3, far (h4.kept hg ?_), fun e => by simp at e; omega⟩
      cases hk : lw.ownBlock with
      | none => exact .inl rfl
      | some k =>
        refine .inr fun e => ?_
        have hlt := h.sep j lw k (by rw [List.getElem?_append_left (by rw [hlen]; exact hj)]; exact h2) (by simp; omega) hk
        have := (q2.lt k (by rw [← e])).1
        rw [q3 (by simp)] at this
        omega
    · have e : j = cs.length := by
        have := (List.getElem?_eq_some_iff.1 h1).1
        simp at this; omega
      subst e
      rw [List.getElem?_append_right (Nat.le_refl _)] at h1
      rw [List.getElem?_append_right (by rw [hlen]; exact Nat.le_refl _)] at h2
      simp [hlen] at h1 h2
      subst h1 h2
      refine ⟨Bl, by rw [← q3 (by simp)]; exact q1, far ?_, fun _ => rfl⟩
      simp only [List.length_append, List.length_singleton]
      rw [flat_snoc, List.map_append]
      exact hrow
  · intro j lw k h1 h2 h3
    have hj : j < cs.length := by simp at h2; omega
    rw [List.getElem?_append_left (by rw [hlen]; exact hj)] at h1
    exact h.sep j lw k (by rw [List.getElem?_append_left (by rw [hlen]; exact hj)]; exact h1) (by simp; omega) h3
/-- as an argument -/
theorem PS.inCr {w : World} {n0 : Nat} {v : Value} {cs : List Cr} {lvs : List Value} {Bl : Nat} (h : PS w n0 v cs lvs Bl) : ∃ A cap, v = .slice A cs.length cap ∧ cs.length ≤ cap ∧ InCr w w.heap.size A cs := by
  obtain ⟨A, cap, e, h1, h2⟩ := ownsRow_form h.row
  refine ⟨A, cap, e, h1, fun hn => ?_⟩
  obtain ⟨g, rfl, -, hlt, -, hc⟩ := h2 hn
  refine ⟨g, 0, rfl, hlt, fun j c hj => ?_⟩
  have hjl : j < cs.length := (List.getElem?_eq_some_iff.1 hj).1
  have hlv : lvs[j]? = some (lvs[j]'(by rw [h.len]; exact hjl)) := List.getElem?_eq_getElem _
  obtain ⟨B, -, h3, -⟩ := h.legs j c _ hj hlv
  obtain ⟨LA, lcap, e', -, h4⟩ := ownsRow_form h3
  have at_ : ∀ i u, (crV c (lvs[j]'(by rw [h.len]; exact hjl)))[i]? = some u → i < 13 → w.cell? ⟨g, 0 + j * 13 + i, none⟩ = some u := fun i u hu hi => by
    rw [Nat.zero_add]
    exact hc _ _ ((crsV_at cs lvs j c _ i hj hlv hi).trans hu)
  refine ⟨LA, lcap, ⟨at_ 0 _ rfl (by omega), at_ 1 _ rfl (by omega), at_ 2 _ rfl (by omega), at_ 3 _ rfl (by omega), at_ 4 _ rfl (by omega), at_ 5 _ rfl (by omega), at_ 6 _ rfl (by omega), at_ 7 _ rfl (by omega), by rw [at_ 8 _ rfl (by omega), e'], at_ 9 _ rfl (by omega), at_ 10 _ rfl (by omega), at_ 11 _ rfl (by omega), at_ 12 _ rfl (by omega)⟩, fun hn' => ?_⟩
  have hpos : 0 < c.lg.length := by
    rcases Nat.eq_zero_or_pos c.lg.length with g0 | g0
    · rw [List.length_eq_zero_iff.1 g0] at hn'; simp [flat] at hn'
    · exact g0
  obtain ⟨g', rfl, -, hlt', -, hc'⟩ := h4 hpos
  refine ⟨g', 0, rfl, hlt', fun i hi => ?_⟩
  rw [Nat.zero_add]
  refine hc' i _ ?_
  simp [nth, List.getD_eq_getElem?_getD, hi]
end Go.Proofs.YtnnnpliigdfipaaGreatDoor
