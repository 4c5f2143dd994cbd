/- squitter: Hear, the walk. -/
import Derived.Test.YtkikokldijccnaaGreatDoorRows
import Derived.WalkKit
import Derived.WalkLawsBesides
import Derived.WalkSpells
import Derived.ProofKit
import Derived.Below
import Derived.Outline
import Derived.Lib.Hide
import Derived.Deep.RegionWith
import Derived.Deep.RegionHeld3
import Derived.Deep.DrawnRows
import Derived.StillTailTactics
import Derived.BigQuiet
import Derived.Deep.QuietTactic
import Derived.Deep.LoopGhost
import Derived.IntWalk
import Derived.BigQuiet
import Derived.Deep.CutRange
import Derived.Deep.CutBlock
import Derived.Deep.DeepCutAuto
import Derived.ArgAppend
import Derived.Test.YtkikokldijccnaaGreatDoorSqE
namespace Go.Proofs.YtkikokldijccnaaGreatDoor
open Go.RowKit Go.Maps
attribute [local go_sem ↓] Go.wp_at_zero Go.wp_at_succ
attribute [local go_sem] wrap_lit
/-- a slice of integers in memory -/
def SlAt (w : World) (v : Value) (G : Option Nat) (cy : List Int) : Prop := (cy = [] ∧ G = none ∧ v = .slice none 0 0) ∨ ∃ g off cap cur, G = some g ∧ v = .slice (some ⟨g, off, none⟩) cy.length cap ∧ w.heap[g]? = some (.cells cur 3 (0, 0)) ∧ cy.length ≤ cap ∧ off + cap ≤ cur.size ∧ cap ≤ maxLen ∧ ∀ j c, cy[j]? = some c → cur[off + j]? = some (.int .i64 c)
theorem own_sl {w : World} {B : Nat} {v : Value} {n : Nat} {ys : List Int} (h : w.ownsRow B 3 1 v n (ys.map (Value.int .i64))) (hn : 0 < n) : ∃ g, B ≤ g ∧ SlAt w v (some g) ys ∧ n = ys.length := by
  obtain ⟨hl, ⟨_, h0⟩ | ⟨g, cap, cur, rfl, hb, hh, hnc, hcm, hsz, htk⟩⟩ := h
  · omega
  · have e : ys.length = n := by simpa using hl
    refine ⟨g, hb, .inr ⟨g, 0, cap, cur, rfl, by rw [e], hh, by omega, by omega, hcm, fun j c hj => ?_⟩, e.symm⟩
    have hjl : j < ys.length := (List.getElem?_eq_some_iff.1 hj).1
    have h1 : (ys.map (Value.int .i64))[j]? = some (.int .i64 c) := by rw [List.getElem?_map, hj]; rfl
    rw [← htk, List.getElem?_take_of_lt (by omega)] at h1
    rw [Nat.zero_add]
    simpa using h1
theorem push_run {w : World} {v : Value} {G : Option Nat} {cy : List Int} (hv : SlAt w v G cy) (hl : cy.length ≤ 1000) (s : Int) {nb : Nat} (hn : w.cell? ⟨nb, 0, none⟩ = some (.int .i64 s)) (ty : TypeId) :
    ∃ v' w' g, Sem.run Tryz.prog (Builtin.append_ #[31, 31] ty #[v, .slice (some ⟨nb, 0, none⟩) 1 1]) w = .ok v' w' ∧ SlAt w' v' (some g) (cy ++ [s]) ∧ (G = some g ∨ w.heap.size ≤ g) ∧ (∀ k, k < w.heap.size → G ≠ some k → w'.heap[k]? = w.heap[k]?) ∧ w.heap.size ≤ w'.heap.size ∧ w'.os = w.os ∧ w'.tape = w.tape ∧ w'.output = w.output := by
  obtain ⟨i0, hi0, hz0, hz1, hz2⟩ := info_parts int_info
  have hnews : ∀ j u, [Value.int .i64 s][j]? = some u → w.cell? ((⟨nb, 0, none⟩ : Addr).add j) = some u := fun j u hj => by
    cases j with
    | zero => simp at hj; subst hj; simpa [Addr.add] using hn
    | succ j => simp at hj
  rcases hv with ⟨rfl, rfl, rfl⟩ | ⟨g, off, cap, cur, rfl, rfl, hg, h1, h2, h3, h4⟩
  · obtain ⟨v', w', r1, r2, r3, _⟩ := run_append_own (P := Tryz.prog) w w.heap.size 31 ty 3 i0 _ 1 8 Tryz.underlying31 hi0 hz0 hz1 hz2 rfl (by decide) (.slice none 0 0) 0 [] (World.ownsRow_nil _ _ _ _) ⟨nb, 0, none⟩ 1 1 [.int .i64 s] rfl hnews (by simp [Value.oneCell']) (by unfold maxLen; omega) (by omega) (Nat.le_refl _)
    obtain ⟨g, hB, hs, _⟩ := own_sl (ys := [s]) r2 (by omega)
    exact ⟨v', w', g, r1, hs, .inr hB, fun k hk _ => r3.block k hk (by simp [Value.ownBlock]), r3.size, r3.os, r3.tape, r3.output⟩
  · by_cases hr : cy.length + 1 ≤ cap
    · have hcell : ∀ j, j < cur.size → w.cell? ⟨g, j, none⟩ = some cur[j]! := fun j hj => by simp [World.cell?, hg, hj]
      have hrun := run_append_room_cells (P := Tryz.prog) w 31 ty 3 i0 Tryz.underlying31 hi0 g off cy.length cap ⟨nb, 0, none⟩ 1 1 [.int .i64 s] (by rw [hz1]; rfl) hnews (by simp [Value.oneCell']) hr (fun j hj => by
        rw [hz1, Nat.mul_one]
        simp at hj; subst hj
        rw [Nat.add_zero, hcell _ (by omega)]; rfl) (fun j _ => frozenOf hg)
      rw [hz1, Nat.mul_one] at hrun
      refine ⟨_, _, g, hrun, .inr ⟨g, off, cap, cur.setIfInBounds (off + cy.length) (.int .i64 s), rfl, by simp, setCell_cells hg, by simpa using hr, by simpa using h2, h3, fun j c hj => ?_⟩, .inl rfl, fun k _ hk => Below.heap_setCell _ _ _ _ (fun e => hk (by rw [e])), Nat.le_of_eq (size_setCell _ _ _).symm, rfl, rfl, rfl⟩
      by_cases hjl : j < cy.length
      · rw [List.getElem?_append_left hjl] at hj
        rw [Array.getElem?_setIfInBounds_ne (by omega)]
        exact h4 j c hj
      · rw [List.getElem?_append_right (by omega)] at hj
        have e : j = cy.length := by
          have := (List.getElem?_eq_some_iff.1 hj).1
          simp at this; omega
        subst e
        simp at hj; subst hj
        rw [Array.getElem?_setIfInBounds_self_of_lt (by omega)]
    · obtain ⟨v', w', r1, r2, r3⟩ := run_append_arg_grows (P := Tryz.prog) w 31 ty 3 i0 _ 1 8 Tryz.underlying31 hi0 hz0 hz1 hz2 rfl (by decide) ⟨g, off, none⟩ cy.length cap (cy.map (Value.int .i64)) (by simp) (fun j u hj => by
        rw [List.getElem?_map] at hj
        obtain ⟨c, hc, rfl⟩ := Option.map_eq_some_iff.1 hj
        have := h4 j c hc
        rw [Addr.add_lit]
        exact (cellOf hg).trans this) ⟨nb, 0, none⟩ 1 1 [.int .i64 s] rfl hnews (by omega) (by unfold maxLen; omega) (by omega)
      obtain ⟨g', hB, hs, _⟩ := own_sl (ys := cy ++ [s]) (by rw [List.map_append]; exact r2) (by omega)
      exact ⟨v', w', g', r1, hs, .inr hB, fun k hk _ => r3.block k hk (by simp), r3.size, r3.os, r3.tape, r3.output⟩
theorem wf_i64 {a : Int} (h0 : 0 ≤ a) (h1 : a ≤ 9223372036854775807) : (Lit.int .i64 a).wf = true := by
  have e0 : IntKind.i64.min = -9223372036854775808 := by decide
  have e1 : IntKind.i64.max = 9223372036854775807 := by decide
  simp only [Lit.wf, e0, e1, Bool.and_eq_true, decide_eq_true_eq]
  omega
theorem eqg_run (x y : Operand) (bk : Int → Nat) (a : Int) (es : List (Int × Tk)) : ∀ w, Sem.run Tryz.prog (eqGuard BinOp.eql 63 x y (lookV bk a es) (Value.pointer none)) w = .ok () w := fun w => by
  unfold lookV
  cases lookT a es <;> simp [eqGuard]
/-- Hear has found the entry, or made one -/
def Cut1 (w : World) (H mb : Nat) (t1 : Ts) (a s : Int) (O : Nat → Prop) (v : Value) (wx : World) : Prop :=
  ∃ xb G bk gk O1, v = .pointer (some ⟨xb, 0, none⟩) ∧ Mid wx H mb xb t1 a ((lookT a t1.es).getD ⟨false, []⟩) G bk gk O1 ∧ wx.heap[w.heap.size]? = some (.cells #[.int .i64 a, .int .i64 s] 46 (0, 0)) ∧ Turn O w wx ∧ (∀ k, O k → O1 k) ∧ (∀ k, O1 k → O k ∨ w.heap.size < k) ∧ ¬ (lookT a t1.es = none ∧ 64 ≤ t1.es.length)
theorem Ent1.sl {w : World} {xb : Nat} {x : Tk} {G : Option Nat} (h : Ent1 w xb x G) : ∃ v, w.heap[xb]? = some (.cells #[.bool x.kn, v] 65 (0, 0)) ∧ SlAt w v G x.cy := by
  rcases h with ⟨h1, h2, h3⟩ | ⟨g, h1, off, cap, cur, h2, h3, h4⟩
  · exact ⟨_, h3, .inl ⟨h1, h2, rfl⟩⟩
  · exact ⟨_, h2, .inr ⟨g, off, cap, cur, h1, rfl, h3, h4⟩⟩
theorem SlAt.ent {w : World} {xb g : Nat} {v : Value} {kn : Bool} {cy : List Int} (h : w.heap[xb]? = some (.cells #[.bool kn, v] 65 (0, 0))) (hv : SlAt w v (some g) cy) : EntAt w xb g ⟨kn, cy⟩ := by
  rcases hv with ⟨_, e, _⟩ | ⟨g', off, cap, cur, e, rfl, h3, h4⟩
  · cases e
  · obtain rfl := Option.some.inj e
    exact ⟨off, cap, cur, h, h3, h4⟩
theorem SlAt.lenrun {w : World} {v : Value} {G : Option Nat} {cy : List Int} (h : SlAt w v G cy) : ∀ ty w, Sem.run Tryz.prog (Builtin.len_ #[31] ty #[v]) w = .ok (.int .i64 cy.length) w := by
  intro ty w
  rcases h with ⟨rfl, _, rfl⟩ | ⟨g, off, cap, cur, _, rfl, _⟩
  · kernel_rfl
  · simp [Builtin.len_, run_underlying Tryz.underlying31, goInt]
/-- Hear has written the entry's cycles -/
def Cut2 (wc : World) (xb : Nat) (G : Option Nat) (kn : Bool) (cy : List Int) (wx : World) : Prop :=
  ∃ v g, wx.heap[xb]? = some (.cells #[.bool kn, v] 65 (0, 0)) ∧ SlAt wx v (some g) cy ∧ (G = some g ∨ wc.heap.size ≤ g) ∧ (∀ k, k < wc.heap.size → k ≠ xb → G ≠ some k → wx.heap[k]? = wc.heap[k]?) ∧ wc.heap.size ≤ wx.heap.size ∧ wx.os = wc.os ∧ wx.tape = wc.tape ∧ wx.output = wc.output
theorem getD_bd {t : Ts} (h : Ok t) (a : Int) : ((lookT a t.es).getD ⟨false, []⟩).cy.length ≤ 64 ∧ ∀ c ∈ ((lookT a t.es).getD ⟨false, []⟩).cy, 0 ≤ c ∧ c ≤ t.now := by
  cases hl : lookT a t.es with
  | none => exact ⟨by simp, fun c hc => by cases hc⟩
  | some x =>
    have he := h.ent _ (look_mem hl)
    have := he.len (by have := h.n1; have := h.nw; omega)
    have hw := h.w64
    refine ⟨?_, he.c0⟩
    show x.cy.length ≤ 64
    have : ((x.cy.length : Nat) : Int) ≤ t.win := this
    omega
theorem name_world {w : World} {K : World → Prop} (h : ∀ W, W = w → K W) : K w := h w rfl
theorem SlAt.kept {w w' : World} {v : Value} {G : Option Nat} {cy : List Int} (h : SlAt w v G cy) (hk : ∀ g, G = some g → w'.heap[g]? = w.heap[g]?) : SlAt w' v G cy := by
  rcases h with h | ⟨g, off, cap, cur, e, h2, h3, h4⟩
  · exact .inl h
  · exact .inr ⟨g, off, cap, cur, e, h2, (hk g e).trans h3, h4⟩
theorem SlAt.obj {w : World} {v : Value} {g : Nat} {cy : List Int} (h : SlAt w v (some g) cy) : ∃ c, w.heap[g]? = some (.cells c 3 (0, 0)) := by
  rcases h with ⟨_, e, _⟩ | ⟨g', off, cap, cur, e, h2, h3, h4⟩
  · cases e
  · obtain rfl := Option.some.inj e
    exact ⟨_, h3⟩
theorem wpList_run_append {P : Program} {w : World} {ops : Array Oper} {rest : List Oper} {o : Oper} {a : Act} {Q : Exit → Act → World → Prop} (hg : o.guard = none) (s x : Operand) (t : TypeId) (hop : o.op = Op.call { callee := Callee.builtin Builtin.append, args := #[s, x], argTypes := #[t, t] })
    (v u : Value) (hs : a.eval s = v) (hx : a.eval x = u) (v' : Value) (w' : World) (hrun : Sem.run P (Builtin.append_ #[t, t] o.type #[v, u]) w = .ok v' w') (hK : wpList P ops Q rest (a.put o.dst v') w') : wpList P ops Q (o :: rest) a w := by
  refine wpList_plain hg fun K hK' => ?_
  unfold Oper.wp
  simp [execOp, hop, resolve, invoke, builtin, hs, hx, hrun, Result.andThen]
  exact hK' _ _ hK
theorem SlAt.form {w : World} {v : Value} {g : Nat} {cy : List Int} (h : SlAt w v (some g) cy) : ∃ off cap, v = .slice (some ⟨g, off, none⟩) cy.length cap := by
  rcases h with ⟨_, e, _⟩ | ⟨g', off, cap, cur, e, h2, _⟩
  · cases e
  · obtain rfl := Option.some.inj e
    exact ⟨_, _, h2⟩
theorem wp_run_append {P : Program} {w : World} {o : Oper} {a : Act} {next : Act → World → Prop} {Q : Exit → Act → World → Prop} (s x : Operand) (t : TypeId) (hop : o.op = Op.call { callee := Callee.builtin Builtin.append, args := #[s, x], argTypes := #[t, t] })
    (v u : Value) (hs : a.eval s = v) (hx : a.eval x = u) (v' : Value) (w' : World) (hrun : Sem.run P (Builtin.append_ #[t, t] o.type #[v, u]) w = .ok v' w') (hK : next (a.put o.dst v') w') : o.wp P a w next Q := by
  unfold Oper.wp
  simp [execOp, hop, resolve, invoke, builtin, hs, hx, hrun, Result.andThen]
  exact hK
theorem isnil_run (bk : Int → Nat) (a : Int) (es : List (Int × Tk)) : ∀ w, Sem.run Tryz.prog (binOp BinOp.eql 63 (lookV bk a es) (Value.pointer none)) w = .ok (.bool (lookT a es).isNone) w := fun w => by
  unfold lookV
  cases lookT a es with
  | none => exact nil_nil w
  | some x => exact ptr_nil _ w
set_option maxHeartbeats 4000000 in
set_option maxRecDepth 100000 in
theorem hear31 {w : World} {H mb : Nat} {t : Ts} {bk gk : Int → Nat} {O : Nat → Prop} (hok : Ok t) (a s : Int) (hT : Tab w H mb t bk gk O) : Calls Tryz.prog 15 #[.pointer (some ⟨H, 0, none⟩), .agg #[.int .i64 a, .int .i64 s]] w fun e w' => e = .returned (.int .i64 (hearE t a s)) ∧ ∃ bk' gk' O', Tab w' H mb (hearT t a s) bk' gk' O' ∧ Turn O w w' ∧ (∀ k, O k → O' k) ∧ ∀ k, O' k → O k ∨ w.heap.size ≤ k := by
  have b4 : ∀ ob, (w.alloc ob).cell? ⟨H, 4, none⟩ = some (.map (some mb)) := fun ob => (World.cell?_alloc_lt _ _ _ (hT.c.lt H hT.c.oH)).trans hT.c.cell.2.2.2.2
  have hTa : ∀ ob, Tab (w.alloc ob) H mb t bk gk O := fun ob => hT.below ((Below.refl _ w).alloc (Nat.le_refl _) _)
  by_cases h1 : a < 0 ∨ 16777215 < a
  · have HE : Hid (hearE t a s = 1 ∧ hearT t a s = t) := Lib.hid ⟨by unfold hearE; rw [if_pos h1], by unfold hearT; rw [if_pos h1]⟩
    have HA := Lib.hid h1
    rcases Classical.em (a < 0) with h2 | h2
    · have q1 : decide (a < 0) = true := decide_eq_true h2
      clear h1
      go_enter Tryz.func15, Tryz.ntmps15
      go_wp2_with (first
      | (go_at_call 17; refine (none32 _ H mb (b4 _)).mono ?_; rintro e w1 ⟨rfl, rfl⟩)
      | (go_at_call 8; refine (tick26 hok s (hTa _)).mono ?_; rintro e w1 ⟨rfl, hT1, hU1⟩)
      | go_in)
      go_ret
      rw [HE.out.1, HE.out.2]
      exact ⟨rfl, bk, gk, O, hTa _, (Turn.refl O w).alloc _, fun _ h => h, fun _ h => .inl h⟩
    · have q1 : decide (a < 0) = false := decide_eq_false h2
      have q2 : decide (16777215 < a) = true := decide_eq_true (by omega)
      clear h1
      go_enter Tryz.func15, Tryz.ntmps15
      go_wp2_with (first
      | (go_at_call 17; refine (none32 _ H mb (b4 _)).mono ?_; rintro e w1 ⟨rfl, rfl⟩)
      | (go_at_call 8; refine (tick26 hok s (hTa _)).mono ?_; rintro e w1 ⟨rfl, hT1, hU1⟩)
      | go_in)
      go_ret
      rw [HE.out.1, HE.out.2]
      exact ⟨rfl, bk, gk, O, hTa _, (Turn.refl O w).alloc _, fun _ h => h, fun _ h => .inl h⟩
  · have HA : Hid (0 ≤ a ∧ a ≤ 16777215) := Lib.hid (by omega)
    have q1 : decide (a < 0) = false := decide_eq_false (by omega)
    have q2 : decide (16777215 < a) = false := decide_eq_false (by omega)
    by_cases h2 : tickE t s ≠ 0
    · have HE : Hid (hearE t a s = tickE t s ∧ hearT t a s = t ∧ tickT t s = t) := Lib.hid ⟨by unfold hearE; rw [if_neg h1, if_pos h2], by unfold hearT; rw [if_neg h1, if_pos h2], by unfold tickT; rw [if_neg h2]⟩
      have q3 : (tickE t s != 0) = true := by simpa using h2
      clear h1 h2
      go_enter Tryz.func15, Tryz.ntmps15
      go_wp2_with (first
      | (go_at_call 17; refine (none32 _ H mb (b4 _)).mono ?_; rintro e w1 ⟨rfl, rfl⟩)
      | (go_at_call 8; refine (tick26 hok s (hTa _)).mono ?_; rintro e w1 ⟨rfl, hT1, hU1⟩)
      | go_in)
      go_ret
      rw [HE.out.1, HE.out.2.1]
      rw [HE.out.2.2] at hT1
      exact ⟨rfl, bk, gk, O, hT1, ((Turn.refl O w).alloc _).trans hU1 (fun _ h => .inl h), fun _ h => h, fun _ h => .inl h⟩
    · have q3 : tickE t s = 0 := Decidable.not_not.1 h2
      have HT : Hid (tickT t s = advT t s) := Lib.hid (by unfold tickT; rw [if_pos q3])
      have HQ := Lib.hid (tickE_ok q3)
      have HH := Lib.hid (And.intro h1 q3)
      clear h1 h2
      go_enter Tryz.func15, Tryz.ntmps15
      go_wp2_with (first
      | (go_at_call 17; refine (none32 _ H mb (b4 _)).mono ?_; rintro e w1 ⟨rfl, rfl⟩)
      | (go_at_call 8; refine (tick26 hok s (hTa _)).mono ?_; rintro e w1 ⟨rfl, hT1, hU1⟩)
      | go_in)
      rw [HT.out] at hT1
      obtain ⟨g1, g2, g3⟩ := HQ.out
      obtain ⟨ga0, ga1⟩ := HA.out
      have hok1 : Ok (advT t s) := hok.adv g1 g3
      have hEV := HH.out
      obtain ⟨t1, ht1⟩ : ∃ t1, t1 = advT t s := ⟨_, rfl⟩
      have hnow : t1.now = s := by rw [ht1]; rfl
      rw [← ht1] at hT1 hok1
      have hO : ∀ k, O k → k < w.heap.size := hT.c.lt
      have hbx : w1.heap[w.heap.size]? = some (.cells #[.int .i64 a, .int .i64 s] 46 (0, 0)) := (hU1.block _ (by simp) (fun h => by have := hO _ h; omega)).trans (heap_alloc_new _ _)
      have hU : Turn O w w1 := ((Turn.refl O w).alloc _).trans hU1 (fun _ h => .inl h)
      have hs1 : w.heap.size < w1.heap.size := by have := hU1.size; simp at this; omega
      have z0 : w1.cell? ⟨w.heap.size, 0, none⟩ = some (.int .i64 a) := cellOf hbx
      have z1 : w1.cell? ⟨w.heap.size, 1, none⟩ = some (.int .i64 s) := cellOf hbx
      have k4 : w1.cell? ⟨H, 4, none⟩ = some (.map (some mb)) := hT1.c.cell.2.2.2.2
      have hwf := wf_i64 ga0 (by omega)
      have hlook : ∀ n, Sem.run Tryz.prog (Instr.lookup 34 (.map (some mb)) (.int .i64 a) false) (w1.drewN n) = .ok (lookV bk a t1.es) (w1.drewN n) := fun n => look_run (w := w1.drewN n) hT1.own a hwf
      have hisn := isnil_run bk a t1.es
      have hegd := eqg_run (.tmp 32) (.const (.pointer none)) bk a t1.es
      have HT1 := Lib.hid hT1
      have HU := Lib.hid hU
      have HBX := Lib.hid hbx
      have HT0 := Lib.hid ht1
      clear hT1 hU hU1 hbx hEV ht1
      go_quiet (fail)
      go_upto_if 33 with fail
      go_cut [6] from 31 to 48 (fun v wx => Cut1 w H mb t1 a s O v wx)
      case first =>
        cases hlk : lookT a t1.es with
        | some x =>
          have hv : lookV bk a t1.es = .pointer (some ⟨bk a, 0, none⟩) := by unfold lookV; rw [hlk]
          rw [hv]
          simp only [Option.isNone_some]
          have HLK := Lib.hid hlk
          clear hlk hlook hisn hegd hv
          go_wp2_with fail
          go_meet
          case rel => exact ⟨bk a, some (gk a), bk, gk, O, rfl, by rw [HLK.out]; exact Mid.found (w := w1.drewN nq) (HT1.out.kept (fun _ _ => rfl) (Nat.le_refl _)) hok1.asc HLK.out, HBX.out, HU.out.drewN nq, fun _ h => h, fun _ h => .inl h, by rw [HLK.out]; simp⟩
        | none =>
          have hv : lookV bk a t1.es = .pointer none := by unfold lookV; rw [hlk]
          rw [hv]
          simp only [Option.isNone_none]
          have HLK := Lib.hid hlk
          clear hlk hlook hisn hegd hv
          by_cases hfull : 64 ≤ t1.es.length
          · have HE : Hid (hearE t a s = 17 ∧ hearT t a s = t1) := Lib.hid (by
              obtain ⟨h1, h2⟩ := HH.out
              have hc : lookT a (advT t s).es = none ∧ 64 ≤ (advT t s).es.length := by rw [← HT0.out]; exact ⟨HLK.out, hfull⟩
              exact ⟨by unfold hearE; rw [if_neg h1, if_neg (fun h => h h2), if_pos hc], by unfold hearT; rw [if_neg h1, if_neg (fun h => h h2), if_pos hc, ← HT0.out]⟩)
            have qf : decide ((64 : Int) ≤ (t1.es.length : Int)) = true := decide_eq_true (by omega)
            go_wp2_with (first
              | (at_len; refine wpList_len_own _ rfl _ 34 rfl 3 63 Tryz.underlying34 _ mb 1000 _ rfl HT1.out.own ?_; rw [enc_size])
              | go_in)
            go_ret
            rw [HE.out.1, HE.out.2]
            exact ⟨rfl, bk, gk, O, HT1.out.kept (fun _ _ => rfl) (Nat.le_refl _), HU.out.drewN nq, fun _ h => h, fun _ h => .inl h⟩
          · have qf : decide ((64 : Int) ≤ (t1.es.length : Int)) = false := decide_eq_false (by omega)
            go_wp2_with (first
              | (at_len; refine wpList_len_own _ rfl _ 34 rfl 3 63 Tryz.underlying34 _ mb 1000 _ rfl HT1.out.own ?_; rw [enc_size])
              | go_in)
            obtain ⟨W, hW⟩ : ∃ W, W = (w1.drewN nq).alloc (.cells #[.bool false, .slice none 0 0] 65) := ⟨_, rfl⟩
            rw [← hW]
            have eW : ∀ k, k < w1.heap.size → W.heap[k]? = w1.heap[k]? := fun k hk => by rw [hW]; exact Below.heap_alloc (w1.drewN nq) _ _ hk
            have sW : W.heap.size = w1.heap.size + 1 := by rw [hW]; exact Array.size_push _
            have nW : W.heap[w1.heap.size]? = some (.cells #[.bool false, .slice none 0 0] 65 (0, 0)) := by rw [hW]; exact heap_alloc_new (w1.drewN nq) _
            have UW : Turn O w W := by rw [hW]; exact (HU.out.drewN nq).alloc _
            have oW : OwnT W mb t1.es bk := HT1.out.own.kept (eW _ (HT1.out.c.lt _ HT1.out.c.om))
            have y4 : W.cell? ⟨H, 4, none⟩ = some (.map (some mb)) := (World.cell?_of_block (a := ⟨H, 4, none⟩) (eW _ (HT1.out.c.lt _ HT1.out.c.oH))).trans k4
            have y0 : W.cell? ⟨w.heap.size, 0, none⟩ = some (.int .i64 a) := (World.cell?_of_block (a := ⟨w.heap.size, 0, none⟩) (eW _ hs1)).trans z0
            clear hW
            refine still_drew 7 (by kernel_rfl) (by kernel_rfl) ?_
            simp only [List.take_succ_cons, List.take_zero, List.drop_succ_cons, List.drop_zero]
            repeat still_step
            refine wpStill_nil ?_
            go_wp2_with (first
              | (at_mapUpdate; refine wpList_mapUpdate_own _ rfl _ _ _ 34 rfl 3 63 int_law Tryz.underlying34 Rp mb 1000 _ rfl (show W.drew.ownsMap Tryz.prog 3 Rp mb 1000 (.map (encE bk t1.es)) from oW) (by decide) _ _ (.int .i64 a) rfl rfl (keyOf_int_mk Tryz.underlying3 hwf) (.lit (.int .i64 w1.heap.size)) [] rfl ?_; intro w2 hown2 hg2)
              | go_in)
            go_meet
            case rel =>
              have hmW : w.heap.size ≠ mb := fun e => by have := hO mb hT.c.om; omega
              have e2 : ∀ k, k < w1.heap.size → k ≠ mb → w2.heap[k]? = w1.heap[k]? := fun k hk hn => (hg2.block k (by show k < W.heap.size; omega) (fun e => hn (Option.some.inj e))).trans (eW k hk)
              refine ⟨w1.heap.size, none, fun k => if k = a then w1.heap.size else bk k, gk, fun k => O k ∨ k = w1.heap.size, rfl, by rw [HLK.out]; exact Mid.fresh HT1.out HLK.out (by have := hok1.len; omega) (Nat.le_refl _) ((hg2.block _ (by show w1.heap.size < W.heap.size; omega) (fun e => by have := HT1.out.c.lt mb HT1.out.c.om; have := Option.some.inj e; omega)).trans nW) hown2 e2 (by have : W.heap.size ≤ w2.heap.size := hg2.size; omega), (e2 _ hs1 hmW).trans HBX.out, (UW.drew).grown hg2 (fun k hk => .inl (by cases hk; exact hT.c.om)), fun k h => .inl h, fun k h => ?_, by rw [HLK.out]; simpa using hfull⟩
              rcases h with h | h
              · exact .inl h
              · exact .inr (by omega)
      case rest =>
        obtain ⟨wA, hwA⟩ : ∃ wA, wA = wc := ⟨_, rfl⟩
        subst hwA
        obtain ⟨xb, G, bk2, gk2, O2, rfl, hM, hbx2, hU2, hO2, hO3, hnf⟩ := hcut
        obtain ⟨x, hx⟩ : ∃ x, x = (lookT a t1.es).getD ⟨false, []⟩ := ⟨_, rfl⟩
        rw [← hx] at hM
        have HXD := Lib.hid (And.intro hx hnf)
        clear hx hnf
        obtain ⟨v, hxv, hsv⟩ := hM.x.sl
        have m0 : wA.cell? ⟨xb, 0, none⟩ = some (.bool x.kn) := cellOf hxv
        have m1 : wA.cell? ⟨xb, 1, none⟩ = some v := cellOf hxv
        have z0c : wA.cell? ⟨w.heap.size, 0, none⟩ = some (.int .i64 a) := cellOf hbx2
        have z1c : wA.cell? ⟨w.heap.size, 1, none⟩ = some (.int .i64 s) := cellOf hbx2
        have kwc : wA.cell? ⟨H, 1, none⟩ = some (.int .i64 t1.win) := cellOf hM.cells
        have hlen := hsv.lenrun
        have HSV := Lib.hid hsv
        have HM := Lib.hid hM
        have HXV := Lib.hid hxv
        have HBX2 := Lib.hid hbx2
        have HWS : Hid (w.heap.size < wA.heap.size) := Lib.hid (Nat.lt_of_lt_of_le (Array.getElem?_eq_some_iff.1 hbx2).1 (Nat.le_refl _))
        clear hsv hM
        obtain ⟨hxl, hxc⟩ : x.cy.length ≤ 64 ∧ ∀ c ∈ x.cy, 0 ≤ c ∧ c ≤ t1.now := by rw [HXD.out.1]; exact getD_bd hok1 a
        have t1w := hok1.w64
        go_upto_block 0 with fail
        go_cut [] from 54 to 107 (fun wx => Cut2 wA xb G x.kn (addC t1.win s x.cy) wx)
        case first =>
          by_cases hcy : x.cy = []
          · have ql : decide (0 < x.cy.length) = false := decide_eq_false (by rw [hcy]; simp)
            have HA' : Hid (addC t1.win s x.cy = x.cy ++ [s]) := Lib.hid (by unfold addC; rw [if_pos hcy, hcy]; rfl)
            clear hcy
            go_wp2_with fail
            go_quiet (fail)
            go_wp2_with fail
            go_quiet (fail)
            go_wp2_with fail
            refine name_world ?_
            intro wd hwd
            have dh : ∀ k : Nat, wd.heap[k]? = wA.heap[k]? := fun k => by rw [hwd]; rfl
            have dsz : wd.heap.size = wA.heap.size := by rw [hwd]; rfl
            have dos : wd.os = wA.os ∧ wd.tape = wA.tape ∧ wd.output = wA.output := by rw [hwd]; exact ⟨rfl, rfl, rfl⟩
            clear hwd
            have hxs : xb < wA.heap.size := HM.out.lt _ HM.out.ox
            have hGs : ∀ k, G = some k → k < wA.heap.size := fun k hk => HM.out.lt _ (HM.out.oG k hk)
            have hGx : G ≠ some xb := fun e => by
              have hh := HM.out.x; rw [e] at hh
              obtain ⟨c, hc⟩ := hh.objg
              exact ne_of_cells hc HXV.out (by simp) rfl
            have aold : ∀ k, k < wA.heap.size → ((wd.alloc (.cells #[.int .i64 s] 3)).drew).heap[k]? = wA.heap[k]? := fun k hk => (Below.heap_alloc wd _ k (by omega)).trans (dh k)
            obtain ⟨v', w', g', hrun, r1, r2, r3, r4, r5, r6, r7⟩ := push_run (w := (wd.alloc (.cells #[.int .i64 s] 3)).drew) (HSV.out.kept (fun k hk => aold k (hGs k hk))) (by omega) s (nb := wA.heap.size) (by rw [← dsz]; exact cellOf (heap_alloc_new wd _)) 31
            obtain ⟨o', c', hv'⟩ := r1.form
            subst hv'
            have asz : ((wd.alloc (.cells #[.int .i64 s] 3)).drew).heap.size = wA.heap.size + 1 := (Array.size_push _).trans (by rw [dsz])
            have fx : w'.heap[xb]? = some (.cells #[.bool x.kn, v] 65 (0, 0)) := (r3 xb (by omega) hGx).trans ((aold xb hxs).trans HXV.out)
            have fz' := frozenOf (i := 1) fx
            have fc' : w'.cell? ⟨xb, 1, none⟩ = some v := cellOf fx
            have d1 : wd.cell? ⟨xb, 1, none⟩ = some v := (World.cell?_of_block (a := ⟨xb, 1, none⟩) (dh xb)).trans (cellOf HXV.out)
            have d2 : wd.cell? ⟨w.heap.size, 1, none⟩ = some (.int .i64 s) := (World.cell?_of_block (a := ⟨w.heap.size, 1, none⟩) (dh _)).trans z1c
            have HR := Lib.hid (And.intro r1 (And.intro r2 (And.intro r3 (And.intro r4 (And.intro r5 (And.intro r6 r7))))))
            have HFX := Lib.hid fx
            have hws : w.heap.size < wA.heap.size := HWS.out
            have hGw : G ≠ some w.heap.size := fun e => by
              have hh := HM.out.x; rw [e] at hh
              obtain ⟨c, hc⟩ := hh.objg
              exact ne_of_cells hc HBX2.out (by simp) rfl
            have HB2 := Lib.hid ((r3 w.heap.size (by omega) hGw).trans ((aold _ hws).trans HBX2.out))
            have HS0 : wd.heap[w.heap.size]? = some (.cells #[.int .i64 a, .int .i64 s] 46 (0, 0)) := (dh _).trans HBX2.out
            have hbxb : w.heap.size ≠ xb := ne_of_cells HBX2.out HXV.out (by simp)
            have da : ((wd.alloc (.cells #[.int .i64 s] 3)).drew).cell? ⟨xb, 1, none⟩ = some v := cellOf ((aold xb hxs).trans HXV.out)
            have HAO := Lib.hid aold
            have HCUT : Hid (Cut2 wA xb G x.kn (addC t1.win s x.cy) (w'.setCell ⟨xb, 1, none⟩ (.slice (some ⟨g', o', none⟩) (x.cy ++ [s]).length c'))) := Lib.hid (by
              have hg'x : g' ≠ xb := by
                obtain ⟨c, hc⟩ := r1.obj
                exact ne_of_cells hc fx (by simp)
              refine ⟨_, g', setCell_cells fx, ?_, ?_, fun k hk hkx hkG => ?_, ?_, r5.trans dos.1, r6.trans dos.2.1, r7.trans dos.2.2⟩
              · rw [HA'.out]
                exact r1.kept (fun k hk => Below.heap_setCell _ _ _ _ (fun e => hg'x ((Option.some.inj hk).trans e)))
              · rcases r2 with h | h
                · exact .inl h
                · exact .inr (by omega)
              · exact (Below.heap_setCell _ _ _ _ hkx).trans ((r3 k (by omega) hkG).trans (aold k hk))
              · rw [size_setCell]; omega)
            rw [List.length_append, List.length_singleton] at HCUT
            clear r1 r2 r3 r4 r5 r6 r7 fx aold dh dos asz
            refine wp_region_held_drew (S := fun w' => w'.heap[w.heap.size]? = some (.cells #[.int .i64 a, .int .i64 s] 46 (0, 0))) (by kernel_rfl) (HS0) (fun hS => ?_)
            refine wpAnyH_take (i := 0) (v := ?vP11) rfl (by kernel_rfl) (by kernel_rfl) (by kernel_rfl) (fun _ _ _ h => h) (Or.inl ⟨by rfl, ?hP11⟩) hS ?rP11
            case hP11 =>
              intro w1 hSw
              clear hSw
              go_simp
              try with_reducible rfl
            (try simp only [Act.put])
            refine wpAnyH_take (i := 1) (v := ?vP12) rfl (by kernel_rfl) (by kernel_rfl) (by kernel_rfl) (fun _ _ _ h => h) (Or.inl ⟨by rfl, ?hP12⟩) hS ?rP12
            case hP12 =>
              intro w1 hSw
              clear hSw
              go_simp
              try with_reducible rfl
            (try simp only [Act.put])
            refine wpAnyH_take (i := 2) (v := ?vP13) rfl (by kernel_rfl) (by kernel_rfl) (by kernel_rfl) (fun _ _ _ h => h) (Or.inl ⟨by rfl, ?hP13⟩) hS ?rP13
            case hP13 =>
              intro w1 hSw
              clear hSw
              go_simp
              try with_reducible rfl
            (try simp only [Act.put])
            refine wpAnyH_take (i := 3) (v := ?vP14) rfl (by kernel_rfl) (by kernel_rfl) (by kernel_rfl) (fun _ _ _ h => h) (Or.inl ⟨by rfl, ?hP14⟩) hS ?rP14
            case hP14 =>
              intro w1 hSw
              clear hSw
              go_simp
              try with_reducible rfl
            (try simp only [Act.put])
            refine wpAnyH_take (i := 5) (v := ?vP15) rfl (by kernel_rfl) (by kernel_rfl) (by kernel_rfl) (fun _ _ _ h => h) (Or.inl ⟨by rfl, ?hP15⟩) hS ?rP15
            case hP15 =>
              intro w1 hSw
              clear hSw
              go_simp
              try with_reducible rfl
            (try simp only [Act.put])
            refine wpAnyH_take (i := 6) (v := ?vP16) rfl (by kernel_rfl) (by kernel_rfl) (by kernel_rfl) (fun _ _ _ h => h) (Or.inl ⟨by rfl, ?hP16⟩) hS ?rP16
            case hP16 =>
              intro w1 hSw
              have d2 : w1.cell? ⟨w.heap.size, 1, none⟩ = some (.int .i64 s) := cellOf hSw
              clear hSw
              go_simp
              try with_reducible rfl
            (try simp only [Act.put])
            refine wpAnyH_ready (rs := [4, 7]) (by kernel_rfl) (by simp) (AllReadyH.cons rfl (fun K hK => ?aP17) (AllReadyH.cons rfl (fun K hK => ?bP17) AllReadyH.nil))
            case aP17 =>
              go_simp
              refine hK.out _ _ (hS) (fun hS => ?_)
              clear hK K
              refine wpAnyH_ready (rs := [7]) (by kernel_rfl) (by simp) (AllReadyH.cons rfl (fun K hK => ?_) AllReadyH.nil)
              go_simp
              refine hK.out _ _ ((HAO.out _ hws).trans HBX2.out) (fun hS => ?_)
              clear hK K
              refine wpAnyH_ready (rs := [8]) (by kernel_rfl) (by simp) (AllReadyH.cons rfl (fun K hK => ?_) AllReadyH.nil)
              rw [if_pos (by kernel_rfl)]
              refine wp_run_append _ _ 31 rfl _ _ rfl rfl _ w' hrun ?_
              refine hK.out _ _ HB2.out (fun hS => ?_)
              clear hK K
              refine wpAnyH_ready (rs := [9]) (by kernel_rfl) (by simp) (AllReadyH.cons rfl (fun K hK => ?_) AllReadyH.nil)
              go_simp
              refine hK.out _ _ (hS) (fun hS => ?_)
              clear hK K
              refine wpAnyH_ready (rs := [10]) (by kernel_rfl) (by simp) (AllReadyH.cons rfl (fun K hK => ?_) AllReadyH.nil)
              go_simp
              refine hK.out _ _ (hS) (fun hS => ?_)
              clear hK K
              refine wpAnyH_ready (rs := [11]) (by kernel_rfl) (by simp) (AllReadyH.cons rfl (fun K hK => ?_) AllReadyH.nil)
              go_simp
              refine hK.out _ _ ((Below.heap_setCell _ _ _ _ (fun e => hbxb e)).trans hS) (fun hS => ?_)
              clear hK K
              refine wpAnyH_done (by kernel_rfl) ?_ _
              go_wp2_with fail
              go_meet
              case rel => exact HCUT.out
            case bP17 =>
              go_simp
              refine hK.out _ _ ((HAO.out _ hws).trans HBX2.out) (fun hS => ?_)
              clear hK K
              refine wpAnyH_ready (rs := [4]) (by kernel_rfl) (by simp) (AllReadyH.cons rfl (fun K hK => ?_) AllReadyH.nil)
              go_simp
              refine hK.out _ _ (hS) (fun hS => ?_)
              clear hK K
              refine wpAnyH_ready (rs := [8]) (by kernel_rfl) (by simp) (AllReadyH.cons rfl (fun K hK => ?_) AllReadyH.nil)
              rw [if_pos (by kernel_rfl)]
              refine wp_run_append _ _ 31 rfl _ _ rfl rfl _ w' hrun ?_
              refine hK.out _ _ HB2.out (fun hS => ?_)
              clear hK K
              refine wpAnyH_ready (rs := [9]) (by kernel_rfl) (by simp) (AllReadyH.cons rfl (fun K hK => ?_) AllReadyH.nil)
              go_simp
              refine hK.out _ _ (hS) (fun hS => ?_)
              clear hK K
              refine wpAnyH_ready (rs := [10]) (by kernel_rfl) (by simp) (AllReadyH.cons rfl (fun K hK => ?_) AllReadyH.nil)
              go_simp
              refine hK.out _ _ (hS) (fun hS => ?_)
              clear hK K
              refine wpAnyH_ready (rs := [11]) (by kernel_rfl) (by simp) (AllReadyH.cons rfl (fun K hK => ?_) AllReadyH.nil)
              go_simp
              refine hK.out _ _ ((Below.heap_setCell _ _ _ _ (fun e => hbxb e)).trans hS) (fun hS => ?_)
              clear hK K
              refine wpAnyH_done (by kernel_rfl) ?_ _
              go_wp2_with fail
              go_meet
              case rel => exact HCUT.out
          · have ql : decide (0 < x.cy.length) = true := decide_eq_true (List.length_pos_iff.2 hcy)
            have hl1 : 1 ≤ x.cy.length := List.length_pos_iff.2 hcy
            obtain ⟨hl0, hln⟩ := hxc _ (lastC_mem hcy)
            rcases HSV.out with ⟨e, _⟩ | ⟨g, off, cap, cur, eG, ev, jg, jcap, jcur, jmax, jval⟩
            · exact absurd e hcy
            have HG := Lib.hid (And.intro eG ev)
            rw [ev] at m1
            clear eG ev
            have jl : wA.cell? ⟨g, off + (x.cy.length - 1), none⟩ = some (.int .i64 (lastC x.cy)) := (cellOf jg).trans (jval _ _ (last_get hcy))
            have HJ := Lib.hid jval
            have HCY := Lib.hid hcy
            clear jval hcy
            by_cases hs : lastC x.cy = s
            · have qs : (lastC x.cy == s) = true := by simpa using hs
              have HA' : Hid (addC t1.win s x.cy = x.cy) := Lib.hid (by unfold addC; rw [if_neg HCY.out, if_pos hs])
              clear hs
              go_wp2_with fail
              go_quiet (fail)
              go_wp2_with fail
              go_meet
              case rel => exact ⟨v, g, HXV.out, by rw [HA'.out, ← HG.out.1]; exact HSV.out, .inl HG.out.1, fun _ _ _ _ => rfl, Nat.le_refl _, rfl, rfl, rfl⟩
            · have qs : (lastC x.cy == s) = false := by simpa using hs
              by_cases hw : t1.win ≤ s - lastC x.cy
              · have qw : decide (t1.win ≤ s - lastC x.cy) = true := decide_eq_true hw
                have HA' : Hid (addC t1.win s x.cy = [s]) := Lib.hid (by unfold addC; rw [if_neg HCY.out, if_neg hs, if_pos hw])
                clear hs
                have hxs : xb < wA.heap.size := HM.out.lt _ HM.out.ox
                have hfz : ∀ n ob, ((wA.drewN n).alloc ob).frozen? ⟨xb, 1, none⟩ = false := fun n ob => frozenOf ((Below.heap_alloc (wA.drewN n) ob xb hxs).trans HXV.out)
                have hcl : ∀ n ob, ((wA.drewN n).alloc ob).cell? ⟨xb, 1, none⟩ = some v := fun n ob => cellOf ((Below.heap_alloc (wA.drewN n) ob xb hxs).trans HXV.out)
                have HRC : Hid (∀ n, Cut2 wA xb G x.kn (addC t1.win s x.cy) (((wA.drewN n).alloc (.cells #[.int .i64 s] 3)).setCell ⟨xb, 1, none⟩ (.slice (some ⟨wA.heap.size, 0, none⟩) 1 1))) := Lib.hid (fun n => by
                  have hgx : wA.heap.size ≠ xb := by omega
                  have hh := (Below.heap_alloc (wA.drewN n) (.cells #[.int .i64 s] 3) xb hxs).trans HXV.out
                  refine ⟨_, wA.heap.size, setCell_cells hh, ?_, .inr (Nat.le_refl _), fun k hk hkx _ => ?_, ?_, rfl, rfl, rfl⟩
                  · rw [HA'.out]
                    exact .inr ⟨wA.heap.size, 0, 1, #[.int .i64 s], rfl, rfl, (Below.heap_setCell _ _ _ _ hgx).trans (heap_alloc_new (wA.drewN n) _), Nat.le_refl _, Nat.le_refl _, by decide, fun j c hj => by
                      cases j with
                      | zero => simp at hj; subst hj; rfl
                      | succ j => simp at hj⟩
                  · exact (Below.heap_setCell _ _ _ _ hkx).trans (Below.heap_alloc (wA.drewN n) _ k hk)
                  · rw [size_setCell]; exact Nat.le_of_lt (Nat.lt_of_lt_of_eq (Nat.lt_succ_self _) (Array.size_push _).symm))
                go_wp2_with fail
                go_quiet (fail)
                go_wp2_with fail
                go_quiet (fail)
                go_wp2_with fail
                go_meet
                case rel => exact HRC.out _
              · have qw : decide (t1.win ≤ s - lastC x.cy) = false := decide_eq_false hw
                have HA' : Hid (addC t1.win s x.cy = x.cy ++ [s]) := Lib.hid (by unfold addC; rw [if_neg HCY.out, if_neg hs, if_neg hw])
                clear hs
                go_wp2_with fail
                go_quiet (fail)
                go_wp2_with fail
                go_quiet (fail)
                go_wp2_with fail
                refine name_world ?_
                intro wd hwd
                have dh : ∀ k : Nat, wd.heap[k]? = wA.heap[k]? := fun k => by rw [hwd]; rfl
                have dsz : wd.heap.size = wA.heap.size := by rw [hwd]; rfl
                have dos : wd.os = wA.os ∧ wd.tape = wA.tape ∧ wd.output = wA.output := by rw [hwd]; exact ⟨rfl, rfl, rfl⟩
                clear hwd
                have hxs : xb < wA.heap.size := HM.out.lt _ HM.out.ox
                have hGs : ∀ k, G = some k → k < wA.heap.size := fun k hk => HM.out.lt _ (HM.out.oG k hk)
                have hGx : G ≠ some xb := fun e => by
                  have hh := HM.out.x; rw [e] at hh
                  obtain ⟨c, hc⟩ := hh.objg
                  exact ne_of_cells hc HXV.out (by simp) rfl
                have aold : ∀ k, k < wA.heap.size → ((wd.alloc (.cells #[.int .i64 s] 3)).drew).heap[k]? = wA.heap[k]? := fun k hk => (Below.heap_alloc wd _ k (by omega)).trans (dh k)
                obtain ⟨v', w', g', hrun, r1, r2, r3, r4, r5, r6, r7⟩ := push_run (w := (wd.alloc (.cells #[.int .i64 s] 3)).drew) (HSV.out.kept (fun k hk => aold k (hGs k hk))) (by omega) s (nb := wA.heap.size) (by rw [← dsz]; exact cellOf (heap_alloc_new wd _)) 31
                obtain ⟨o', c', hv'⟩ := r1.form
                subst hv'
                have asz : ((wd.alloc (.cells #[.int .i64 s] 3)).drew).heap.size = wA.heap.size + 1 := (Array.size_push _).trans (by rw [dsz])
                have fx : w'.heap[xb]? = some (.cells #[.bool x.kn, v] 65 (0, 0)) := (r3 xb (by omega) hGx).trans ((aold xb hxs).trans HXV.out)
                have fz' := frozenOf (i := 1) fx
                have fc' : w'.cell? ⟨xb, 1, none⟩ = some v := cellOf fx
                have d1 : wd.cell? ⟨xb, 1, none⟩ = some v := (World.cell?_of_block (a := ⟨xb, 1, none⟩) (dh xb)).trans (cellOf HXV.out)
                have d2 : wd.cell? ⟨w.heap.size, 1, none⟩ = some (.int .i64 s) := (World.cell?_of_block (a := ⟨w.heap.size, 1, none⟩) (dh _)).trans z1c
                have HR := Lib.hid (And.intro r1 (And.intro r2 (And.intro r3 (And.intro r4 (And.intro r5 (And.intro r6 r7))))))
                have HFX := Lib.hid fx
                have hws : w.heap.size < wA.heap.size := HWS.out
                have hGw : G ≠ some w.heap.size := fun e => by
                  have hh := HM.out.x; rw [e] at hh
                  obtain ⟨c, hc⟩ := hh.objg
                  exact ne_of_cells hc HBX2.out (by simp) rfl
                have HB2 := Lib.hid ((r3 w.heap.size (by omega) hGw).trans ((aold _ hws).trans HBX2.out))
                have HS0 : wd.heap[w.heap.size]? = some (.cells #[.int .i64 a, .int .i64 s] 46 (0, 0)) := (dh _).trans HBX2.out
                have hbxb : w.heap.size ≠ xb := ne_of_cells HBX2.out HXV.out (by simp)
                have da : ((wd.alloc (.cells #[.int .i64 s] 3)).drew).cell? ⟨xb, 1, none⟩ = some v := cellOf ((aold xb hxs).trans HXV.out)
                have HAO := Lib.hid aold
                have HCUT : Hid (Cut2 wA xb G x.kn (addC t1.win s x.cy) (w'.setCell ⟨xb, 1, none⟩ (.slice (some ⟨g', o', none⟩) (x.cy ++ [s]).length c'))) := Lib.hid (by
                  have hg'x : g' ≠ xb := by
                    obtain ⟨c, hc⟩ := r1.obj
                    exact ne_of_cells hc fx (by simp)
                  refine ⟨_, g', setCell_cells fx, ?_, ?_, fun k hk hkx hkG => ?_, ?_, r5.trans dos.1, r6.trans dos.2.1, r7.trans dos.2.2⟩
                  · rw [HA'.out]
                    exact r1.kept (fun k hk => Below.heap_setCell _ _ _ _ (fun e => hg'x ((Option.some.inj hk).trans e)))
                  · rcases r2 with h | h
                    · exact .inl h
                    · exact .inr (by omega)
                  · exact (Below.heap_setCell _ _ _ _ hkx).trans ((r3 k (by omega) hkG).trans (aold k hk))
                  · rw [size_setCell]; omega)
                rw [List.length_append, List.length_singleton] at HCUT
                clear r1 r2 r3 r4 r5 r6 r7 fx aold dh dos asz
                refine wp_region_held_drew (S := fun w' => w'.heap[w.heap.size]? = some (.cells #[.int .i64 a, .int .i64 s] 46 (0, 0))) (by kernel_rfl) (HS0) (fun hS => ?_)
                refine wpAnyH_take (i := 0) (v := ?vP21) rfl (by kernel_rfl) (by kernel_rfl) (by kernel_rfl) (fun _ _ _ h => h) (Or.inl ⟨by rfl, ?hP21⟩) hS ?rP21
                case hP21 =>
                  intro w1 hSw
                  clear hSw
                  go_simp
                  try with_reducible rfl
                (try simp only [Act.put])
                refine wpAnyH_take (i := 1) (v := ?vP22) rfl (by kernel_rfl) (by kernel_rfl) (by kernel_rfl) (fun _ _ _ h => h) (Or.inl ⟨by rfl, ?hP22⟩) hS ?rP22
                case hP22 =>
                  intro w1 hSw
                  clear hSw
                  go_simp
                  try with_reducible rfl
                (try simp only [Act.put])
                refine wpAnyH_take (i := 2) (v := ?vP23) rfl (by kernel_rfl) (by kernel_rfl) (by kernel_rfl) (fun _ _ _ h => h) (Or.inl ⟨by rfl, ?hP23⟩) hS ?rP23
                case hP23 =>
                  intro w1 hSw
                  clear hSw
                  go_simp
                  try with_reducible rfl
                (try simp only [Act.put])
                refine wpAnyH_take (i := 3) (v := ?vP24) rfl (by kernel_rfl) (by kernel_rfl) (by kernel_rfl) (fun _ _ _ h => h) (Or.inl ⟨by rfl, ?hP24⟩) hS ?rP24
                case hP24 =>
                  intro w1 hSw
                  clear hSw
                  go_simp
                  try with_reducible rfl
                (try simp only [Act.put])
                refine wpAnyH_take (i := 5) (v := ?vP25) rfl (by kernel_rfl) (by kernel_rfl) (by kernel_rfl) (fun _ _ _ h => h) (Or.inl ⟨by rfl, ?hP25⟩) hS ?rP25
                case hP25 =>
                  intro w1 hSw
                  clear hSw
                  go_simp
                  try with_reducible rfl
                (try simp only [Act.put])
                refine wpAnyH_take (i := 6) (v := ?vP26) rfl (by kernel_rfl) (by kernel_rfl) (by kernel_rfl) (fun _ _ _ h => h) (Or.inl ⟨by rfl, ?hP26⟩) hS ?rP26
                case hP26 =>
                  intro w1 hSw
                  have d2 : w1.cell? ⟨w.heap.size, 1, none⟩ = some (.int .i64 s) := cellOf hSw
                  clear hSw
                  go_simp
                  try with_reducible rfl
                (try simp only [Act.put])
                refine wpAnyH_ready (rs := [4, 7]) (by kernel_rfl) (by simp) (AllReadyH.cons rfl (fun K hK => ?aP27) (AllReadyH.cons rfl (fun K hK => ?bP27) AllReadyH.nil))
                case aP27 =>
                  go_simp
                  refine hK.out _ _ (hS) (fun hS => ?_)
                  clear hK K
                  refine wpAnyH_ready (rs := [7]) (by kernel_rfl) (by simp) (AllReadyH.cons rfl (fun K hK => ?_) AllReadyH.nil)
                  go_simp
                  refine hK.out _ _ ((HAO.out _ hws).trans HBX2.out) (fun hS => ?_)
                  clear hK K
                  refine wpAnyH_ready (rs := [8]) (by kernel_rfl) (by simp) (AllReadyH.cons rfl (fun K hK => ?_) AllReadyH.nil)
                  rw [if_pos (by kernel_rfl)]
                  refine wp_run_append _ _ 31 rfl _ _ rfl rfl _ w' hrun ?_
                  refine hK.out _ _ HB2.out (fun hS => ?_)
                  clear hK K
                  refine wpAnyH_ready (rs := [9]) (by kernel_rfl) (by simp) (AllReadyH.cons rfl (fun K hK => ?_) AllReadyH.nil)
                  go_simp
                  refine hK.out _ _ (hS) (fun hS => ?_)
                  clear hK K
                  refine wpAnyH_ready (rs := [10]) (by kernel_rfl) (by simp) (AllReadyH.cons rfl (fun K hK => ?_) AllReadyH.nil)
                  go_simp
                  refine hK.out _ _ (hS) (fun hS => ?_)
                  clear hK K
                  refine wpAnyH_ready (rs := [11]) (by kernel_rfl) (by simp) (AllReadyH.cons rfl (fun K hK => ?_) AllReadyH.nil)
                  go_simp
                  refine hK.out _ _ ((Below.heap_setCell _ _ _ _ (fun e => hbxb e)).trans hS) (fun hS => ?_)
                  clear hK K
                  refine wpAnyH_done (by kernel_rfl) ?_ _
                  go_wp2_with fail
                  go_meet
                  case rel => exact HCUT.out
                case bP27 =>
                  go_simp
                  refine hK.out _ _ ((HAO.out _ hws).trans HBX2.out) (fun hS => ?_)
                  clear hK K
                  refine wpAnyH_ready (rs := [4]) (by kernel_rfl) (by simp) (AllReadyH.cons rfl (fun K hK => ?_) AllReadyH.nil)
                  go_simp
                  refine hK.out _ _ (hS) (fun hS => ?_)
                  clear hK K
                  refine wpAnyH_ready (rs := [8]) (by kernel_rfl) (by simp) (AllReadyH.cons rfl (fun K hK => ?_) AllReadyH.nil)
                  rw [if_pos (by kernel_rfl)]
                  refine wp_run_append _ _ 31 rfl _ _ rfl rfl _ w' hrun ?_
                  refine hK.out _ _ HB2.out (fun hS => ?_)
                  clear hK K
                  refine wpAnyH_ready (rs := [9]) (by kernel_rfl) (by simp) (AllReadyH.cons rfl (fun K hK => ?_) AllReadyH.nil)
                  go_simp
                  refine hK.out _ _ (hS) (fun hS => ?_)
                  clear hK K
                  refine wpAnyH_ready (rs := [10]) (by kernel_rfl) (by simp) (AllReadyH.cons rfl (fun K hK => ?_) AllReadyH.nil)
                  go_simp
                  refine hK.out _ _ (hS) (fun hS => ?_)
                  clear hK K
                  refine wpAnyH_ready (rs := [11]) (by kernel_rfl) (by simp) (AllReadyH.cons rfl (fun K hK => ?_) AllReadyH.nil)
                  go_simp
                  refine hK.out _ _ ((Below.heap_setCell _ _ _ _ (fun e => hbxb e)).trans hS) (fun hS => ?_)
                  clear hK K
                  refine wpAnyH_done (by kernel_rfl) ?_ _
                  go_wp2_with fail
                  go_meet
                  case rel => exact HCUT.out
        case rest =>
          obtain ⟨v2, gx, hx2, hs2, hgx, hk2, hsz2, ho2, ht2, hou2⟩ := hcut
          have n0 : wc.cell? ⟨xb, 0, none⟩ = some (.bool x.kn) := cellOf hx2
          have n1 : wc.cell? ⟨xb, 1, none⟩ = some v2 := cellOf hx2
          have nf := frozenOf (i := 0) hx2
          have hlen2 := hs2.lenrun
          have hHx : H ≠ xb := ne_of_cells HM.out.cells HXV.out (by simp)
          have hGH : G ≠ some H := fun e => by
            have hh := HM.out.x; rw [e] at hh
            obtain ⟨c, hc⟩ := hh.objg
            exact ne_of_cells hc HM.out.cells (by simp) rfl
          have nk : wc.cell? ⟨H, 0, none⟩ = some (.int .i64 t1.need) := cellOf ((hk2 H (HM.out.lt _ HM.out.oH) hHx hGH).trans HM.out.cells)
          have FIN : ∀ bb, bb = (x.kn || decide (t1.need ≤ ((addC t1.win s x.cy).length : Int))) → (hearE t a s = 0 ∧ ∃ bk' gk' O', Tab (wc.drew.setCell ⟨xb, 0, none⟩ (.bool bb)) H mb (hearT t a s) bk' gk' O' ∧ Turn O w (wc.drew.setCell ⟨xb, 0, none⟩ (.bool bb)) ∧ (∀ k, O k → O' k) ∧ ∀ k, O' k → O k ∨ w.heap.size ≤ k) := by
            intro bb hbb
            obtain ⟨e1, e2⟩ := HH.out
            have hnf := HXD.out.2
            have e3 : hearE t a s = 0 := by unfold hearE; rw [if_neg e1, if_neg (fun h => h e2), if_neg (by rw [← HT0.out]; exact hnf)]
            have e4 : hearT t a s = ⟨t1.need, t1.win, t1.keep, t1.now, putT a ⟨bb, addC t1.win s x.cy⟩ t1.es⟩ := by
              unfold hearT
              rw [if_neg e1, if_neg (fun h => h e2), if_neg (by rw [← HT0.out]; exact hnf), ← HT0.out]
              unfold heardT
              rw [← HXD.out.1]
              unfold hitT
              rw [hbb]
            have hgxx : gx ≠ xb := by
              obtain ⟨c, hc⟩ := hs2.obj
              exact ne_of_cells hc hx2 (by simp)
            have hx3 : (wc.drew.setCell ⟨xb, 0, none⟩ (.bool bb)).heap[xb]? = some (.cells #[.bool bb, v2] 65 (0, 0)) := setCell_cells (w := wc.drew) hx2
            have hs3 : SlAt (wc.drew.setCell ⟨xb, 0, none⟩ (.bool bb)) v2 (some gx) (addC t1.win s x.cy) := hs2.kept (fun k hk => Below.heap_setCell _ _ _ _ (fun e => hgxx ((Option.some.inj hk).trans e)))
            have hk3 : ∀ k, k < wA.heap.size → k ≠ xb → G ≠ some k → (wc.drew.setCell ⟨xb, 0, none⟩ (.bool bb)).heap[k]? = wA.heap[k]? := fun k hk hkx hkG => (Below.heap_setCell _ _ _ _ hkx).trans (hk2 k hk hkx hkG)
            have hsz3 : wA.heap.size ≤ (wc.drew.setCell ⟨xb, 0, none⟩ (.bool bb)).heap.size := by rw [size_setCell]; exact hsz2
            refine ⟨e3, bk2, fun k => if k = a then gx else gk2 k, fun k => O2 k ∨ k = gx, by rw [e4]; exact Mid.tab hok1.asc HM.out (SlAt.ent hx3 hs3) hgx hk3 hsz3, ⟨ho2.trans hU2.os, ht2.trans hU2.tape, hou2.trans hU2.output, Nat.le_trans hU2.size hsz3, fun k hk hn => ?_⟩, fun k h => .inl (hO2 k h), fun k h => ?_⟩
            · refine (hk3 k (Nat.lt_of_lt_of_le hk hU2.size) (fun e => ?_) (fun e => ?_)).trans (hU2.block k hk hn)
              · rcases hO3 xb HM.out.ox with h | h
                · rw [e] at hn; exact hn h
                · omega
              · rcases hO3 k (HM.out.oG k e) with h | h
                · exact hn h
                · omega
            · rcases h with h | h
              · rcases hO3 k h with h | h
                · exact .inl h
                · exact .inr (by omega)
              · subst h
                rcases hgx with h | h
                · rcases hO3 k (HM.out.oG k h) with h | h
                  · exact .inl h
                  · exact .inr (by omega)
                · exact .inr (Nat.le_trans (Nat.le_of_lt HWS.out) h)
          have NH0 := (hk2 H (HM.out.lt _ HM.out.oH) hHx hGH).trans HM.out.cells
          have HFIN := Lib.hid FIN
          clear FIN hs2 hx2 hk2
          cases hkn : x.kn with
          | true =>
            rw [hkn] at n0
            go_wp2_with fail
            refine wp_region_held_drew (S := fun w' => w'.heap[H]? = some (.cells #[.int .i64 t1.need, .int .i64 t1.win, .int .i64 t1.keep, .int .i64 t1.now, .map (some mb)] 36 (0, 0)) ∧ w'.cell? ⟨xb, 1, none⟩ = some v2) (by kernel_rfl) (⟨NH0, n1⟩) (fun hS => ?_)
            refine wpAnyH_take (i := 0) (v := ?vT11) rfl (by kernel_rfl) (by kernel_rfl) (by kernel_rfl) (fun _ _ _ h => h) (Or.inl ⟨by kernel_rfl, ?hT11⟩) hS ?rT11
            case hT11 =>
              intro w1 hSw
              clear hSw
              go_simp
              try with_reducible rfl
            (try go_frame)
            refine wpAnyH_take (i := 1) (v := ?vT12) rfl (by kernel_rfl) (by kernel_rfl) (by kernel_rfl) (fun _ _ _ h => h) (Or.inl ⟨by kernel_rfl, ?hT12⟩) hS ?rT12
            case hT12 =>
              intro w1 hSw
              clear hSw
              go_simp
              try with_reducible rfl
            (try go_frame)
            refine wpAnyH_take (i := 2) (v := ?vT13) rfl (by kernel_rfl) (by kernel_rfl) (by kernel_rfl) (fun _ _ _ h => h) (Or.inl ⟨by kernel_rfl, ?hT13⟩) hS ?rT13
            case hT13 =>
              intro w1 hSw
              clear hSw
              go_simp
              try with_reducible rfl
            (try go_frame)
            refine wpAnyH_take (i := 3) (v := ?vT14) rfl (by kernel_rfl) (by kernel_rfl) (by kernel_rfl) (fun _ _ _ h => h) (Or.inl ⟨by kernel_rfl, ?hT14⟩) hS ?rT14
            case hT14 =>
              intro w1 hSw
              clear hSw
              go_simp
              try with_reducible rfl
            (try go_frame)
            refine wpAnyH_ready (rs := [4]) (by kernel_rfl) (by simp) (AllReadyH.cons rfl (fun K hK => ?_) AllReadyH.nil)
            go_simp
            refine hK.out _ _ (hS) (fun hS => ?_)
            clear hK K
            refine wpAnyH_take (i := 5) (v := ?vT15) rfl (by kernel_rfl) (by kernel_rfl) (by kernel_rfl) (fun _ _ _ h => h) (Or.inl ⟨by kernel_rfl, ?hT15⟩) hS ?rT15
            case hT15 =>
              intro w1 hSw
              clear hSw
              go_simp
              try with_reducible rfl
            (try go_frame)
            refine wpAnyH_take (i := 6) (v := undef) rfl (by kernel_rfl) (by kernel_rfl) (by kernel_rfl) (fun _ _ _ h => h) (Or.inr ⟨by kernel_rfl, rfl⟩) hS ?rT16
            (try go_frame)
            refine wpAnyH_take (i := 7) (v := undef) rfl (by kernel_rfl) (by kernel_rfl) (by kernel_rfl) (fun _ _ _ h => h) (Or.inr ⟨by kernel_rfl, rfl⟩) hS ?rT17
            (try go_frame)
            refine wpAnyH_take (i := 8) (v := undef) rfl (by kernel_rfl) (by kernel_rfl) (by kernel_rfl) (fun _ _ _ h => h) (Or.inr ⟨by kernel_rfl, rfl⟩) hS ?rT18
            (try go_frame)
            refine wpAnyH_take (i := 9) (v := undef) rfl (by kernel_rfl) (by kernel_rfl) (by kernel_rfl) (fun _ _ _ h => h) (Or.inr ⟨by kernel_rfl, rfl⟩) hS ?rT19
            (try go_frame)
            refine wpAnyH_take (i := 10) (v := undef) rfl (by kernel_rfl) (by kernel_rfl) (by kernel_rfl) (fun _ _ _ h => h) (Or.inr ⟨by kernel_rfl, rfl⟩) hS ?rT110
            (try go_frame)
            refine wpAnyH_take (i := 11) (v := undef) rfl (by kernel_rfl) (by kernel_rfl) (by kernel_rfl) (fun _ _ _ h => h) (Or.inr ⟨by kernel_rfl, rfl⟩) hS ?rT111
            (try go_frame)
            refine wpAnyH_take (i := 12) (v := undef) rfl (by kernel_rfl) (by kernel_rfl) (by kernel_rfl) (fun _ _ _ h => h) (Or.inr ⟨by kernel_rfl, rfl⟩) hS ?rT112
            (try go_frame)
            refine wpAnyH_take (i := 13) (v := undef) rfl (by kernel_rfl) (by kernel_rfl) (by kernel_rfl) (fun _ _ _ h => h) (Or.inr ⟨by kernel_rfl, rfl⟩) hS ?rT113
            (try go_frame)
            refine wpAnyH_take (i := 14) (v := undef) rfl (by kernel_rfl) (by kernel_rfl) (by kernel_rfl) (fun _ _ _ h => h) (Or.inr ⟨by kernel_rfl, rfl⟩) hS ?rT114
            (try go_frame)
            refine wpAnyH_take (i := 15) (v := undef) rfl (by kernel_rfl) (by kernel_rfl) (by kernel_rfl) (fun _ _ _ h => h) (Or.inr ⟨by kernel_rfl, rfl⟩) hS ?rT115
            (try go_frame)
            refine wpAnyH_take (i := 16) (v := ?vT116) rfl (by kernel_rfl) (by kernel_rfl) (by kernel_rfl) (fun _ _ _ h => h) (Or.inl ⟨by kernel_rfl, ?hT116⟩) hS ?rT116
            case hT116 =>
              intro w1 hSw
              clear hSw
              go_simp
              try with_reducible rfl
            (try go_frame)
            refine wpAnyH_take (i := 17) (v := ?vT117) rfl (by kernel_rfl) (by kernel_rfl) (by kernel_rfl) (fun _ _ _ h => h) (Or.inl ⟨by kernel_rfl, ?hT117⟩) hS ?rT117
            case hT117 =>
              intro w1 hSw
              clear hSw
              go_simp
              try with_reducible rfl
            (try go_frame)
            refine wpAnyH_take (i := 18) (v := ?vT118) rfl (by kernel_rfl) (by kernel_rfl) (by kernel_rfl) (fun _ _ _ h => h) (Or.inl ⟨by kernel_rfl, ?hT118⟩) hS ?rT118
            case hT118 =>
              intro w1 hSw
              clear hSw
              go_simp
              try with_reducible rfl
            (try go_frame)
            refine wpAnyH_ready (rs := [19]) (by kernel_rfl) (by simp) (AllReadyH.cons rfl (fun K hK => ?_) AllReadyH.nil)
            go_simp
            refine hK.out _ _ (⟨(Below.heap_setCell _ _ _ _ hHx).trans hS.1, (World.cell?_setCell_other _ _ _ _ (by simp)).trans hS.2⟩) (fun hS => ?_)
            clear hK K
            refine wpAnyH_done (by kernel_rfl) ?_ _
            go_wp2_with fail
            go_ret
            obtain ⟨f1, f2⟩ := HFIN.out true (by rw [hkn]; rfl)
            rw [f1]
            exact ⟨rfl, f2⟩
          | false =>
            rw [hkn] at n0
            cases hnd : decide (t1.need ≤ ((addC t1.win s x.cy).length : Int)) with
            | true =>
              go_wp2_with fail
              refine wp_region_held_drew (S := fun w' => w'.heap[H]? = some (.cells #[.int .i64 t1.need, .int .i64 t1.win, .int .i64 t1.keep, .int .i64 t1.now, .map (some mb)] 36 (0, 0)) ∧ w'.cell? ⟨xb, 1, none⟩ = some v2) (by kernel_rfl) (⟨NH0, n1⟩) (fun hS => ?_)
              refine wpAnyH_take (i := 0) (v := ?vT21) rfl (by kernel_rfl) (by kernel_rfl) (by kernel_rfl) (fun _ _ _ h => h) (Or.inl ⟨by kernel_rfl, ?hT21⟩) hS ?rT21
              case hT21 =>
                intro w1 hSw
                clear hSw
                go_simp
                try with_reducible rfl
              (try go_frame)
              refine wpAnyH_take (i := 1) (v := ?vT22) rfl (by kernel_rfl) (by kernel_rfl) (by kernel_rfl) (fun _ _ _ h => h) (Or.inl ⟨by kernel_rfl, ?hT22⟩) hS ?rT22
              case hT22 =>
                intro w1 hSw
                clear hSw
                go_simp
                try with_reducible rfl
              (try go_frame)
              refine wpAnyH_take (i := 2) (v := ?vT23) rfl (by kernel_rfl) (by kernel_rfl) (by kernel_rfl) (fun _ _ _ h => h) (Or.inl ⟨by kernel_rfl, ?hT23⟩) hS ?rT23
              case hT23 =>
                intro w1 hSw
                clear hSw
                go_simp
                try with_reducible rfl
              (try go_frame)
              refine wpAnyH_take (i := 3) (v := ?vT24) rfl (by kernel_rfl) (by kernel_rfl) (by kernel_rfl) (fun _ _ _ h => h) (Or.inl ⟨by kernel_rfl, ?hT24⟩) hS ?rT24
              case hT24 =>
                intro w1 hSw
                clear hSw
                go_simp
                try with_reducible rfl
              (try go_frame)
              refine wpAnyH_ready (rs := [4]) (by kernel_rfl) (by simp) (AllReadyH.cons rfl (fun K hK => ?_) AllReadyH.nil)
              go_simp
              refine hK.out _ _ (hS) (fun hS => ?_)
              clear hK K
              refine wpAnyH_take (i := 5) (v := ?vT25) rfl (by kernel_rfl) (by kernel_rfl) (by kernel_rfl) (fun _ _ _ h => h) (Or.inl ⟨by kernel_rfl, ?hT25⟩) hS ?rT25
              case hT25 =>
                intro w1 hSw
                clear hSw
                go_simp
                try with_reducible rfl
              (try go_frame)
              refine wpAnyH_take (i := 6) (v := ?vT26) rfl (by kernel_rfl) (by kernel_rfl) (by kernel_rfl) (fun _ _ _ h => h) (Or.inl ⟨by kernel_rfl, ?hT26⟩) hS ?rT26
              case hT26 =>
                intro w1 hSw
                have d1 : w1.cell? ⟨xb, 1, none⟩ = some v2 := hSw.2
                have d0 : w1.cell? ⟨H, 0, none⟩ = some (.int .i64 t1.need) := cellOf hSw.1
                clear hSw
                go_simp
                try with_reducible rfl
              (try go_frame)
              refine wpAnyH_take (i := 7) (v := ?vT27) rfl (by kernel_rfl) (by kernel_rfl) (by kernel_rfl) (fun _ _ _ h => h) (Or.inl ⟨by kernel_rfl, ?hT27⟩) hS ?rT27
              case hT27 =>
                intro w1 hSw
                have d1 : w1.cell? ⟨xb, 1, none⟩ = some v2 := hSw.2
                have d0 : w1.cell? ⟨H, 0, none⟩ = some (.int .i64 t1.need) := cellOf hSw.1
                clear hSw
                go_simp
                try with_reducible rfl
              (try go_frame)
              refine wpAnyH_take (i := 8) (v := ?vT28) rfl (by kernel_rfl) (by kernel_rfl) (by kernel_rfl) (fun _ _ _ h => h) (Or.inl ⟨by kernel_rfl, ?hT28⟩) hS ?rT28
              case hT28 =>
                intro w1 hSw
                have d1 : w1.cell? ⟨xb, 1, none⟩ = some v2 := hSw.2
                have d0 : w1.cell? ⟨H, 0, none⟩ = some (.int .i64 t1.need) := cellOf hSw.1
                clear hSw
                go_simp
                try with_reducible rfl
              (try go_frame)
              refine wpAnyH_take (i := 9) (v := ?vT29) rfl (by kernel_rfl) (by kernel_rfl) (by kernel_rfl) (fun _ _ _ h => h) (Or.inl ⟨by kernel_rfl, ?hT29⟩) hS ?rT29
              case hT29 =>
                intro w1 hSw
                have d1 : w1.cell? ⟨xb, 1, none⟩ = some v2 := hSw.2
                have d0 : w1.cell? ⟨H, 0, none⟩ = some (.int .i64 t1.need) := cellOf hSw.1
                clear hSw
                go_simp
                try with_reducible rfl
              (try go_frame)
              refine wpAnyH_take (i := 10) (v := ?vT210) rfl (by kernel_rfl) (by kernel_rfl) (by kernel_rfl) (fun _ _ _ h => h) (Or.inl ⟨by kernel_rfl, ?hT210⟩) hS ?rT210
              case hT210 =>
                intro w1 hSw
                have d1 : w1.cell? ⟨xb, 1, none⟩ = some v2 := hSw.2
                have d0 : w1.cell? ⟨H, 0, none⟩ = some (.int .i64 t1.need) := cellOf hSw.1
                clear hSw
                go_simp
                try with_reducible rfl
              (try go_frame)
              refine wpAnyH_take (i := 11) (v := ?vT211) rfl (by kernel_rfl) (by kernel_rfl) (by kernel_rfl) (fun _ _ _ h => h) (Or.inl ⟨by kernel_rfl, ?hT211⟩) hS ?rT211
              case hT211 =>
                intro w1 hSw
                have d1 : w1.cell? ⟨xb, 1, none⟩ = some v2 := hSw.2
                have d0 : w1.cell? ⟨H, 0, none⟩ = some (.int .i64 t1.need) := cellOf hSw.1
                clear hSw
                go_simp
                try with_reducible rfl
              (try go_frame)
              refine wpAnyH_take (i := 12) (v := ?vT212) rfl (by kernel_rfl) (by kernel_rfl) (by kernel_rfl) (fun _ _ _ h => h) (Or.inl ⟨by kernel_rfl, ?hT212⟩) hS ?rT212
              case hT212 =>
                intro w1 hSw
                have d1 : w1.cell? ⟨xb, 1, none⟩ = some v2 := hSw.2
                have d0 : w1.cell? ⟨H, 0, none⟩ = some (.int .i64 t1.need) := cellOf hSw.1
                clear hSw
                go_simp
                try with_reducible rfl
              (try go_frame)
              refine wpAnyH_take (i := 13) (v := ?vT213) rfl (by kernel_rfl) (by kernel_rfl) (by kernel_rfl) (fun _ _ _ h => h) (Or.inl ⟨by kernel_rfl, ?hT213⟩) hS ?rT213
              case hT213 =>
                intro w1 hSw
                have d1 : w1.cell? ⟨xb, 1, none⟩ = some v2 := hSw.2
                have d0 : w1.cell? ⟨H, 0, none⟩ = some (.int .i64 t1.need) := cellOf hSw.1
                clear hSw
                go_simp
                try with_reducible rfl
              (try go_frame)
              refine wpAnyH_take (i := 14) (v := ?vT214) rfl (by kernel_rfl) (by kernel_rfl) (by kernel_rfl) (fun _ _ _ h => h) (Or.inl ⟨by kernel_rfl, ?hT214⟩) hS ?rT214
              case hT214 =>
                intro w1 hSw
                have d1 : w1.cell? ⟨xb, 1, none⟩ = some v2 := hSw.2
                have d0 : w1.cell? ⟨H, 0, none⟩ = some (.int .i64 t1.need) := cellOf hSw.1
                clear hSw
                go_simp
                try with_reducible rfl
              (try go_frame)
              refine wpAnyH_take (i := 15) (v := ?vT215) rfl (by kernel_rfl) (by kernel_rfl) (by kernel_rfl) (fun _ _ _ h => h) (Or.inl ⟨by kernel_rfl, ?hT215⟩) hS ?rT215
              case hT215 =>
                intro w1 hSw
                have d1 : w1.cell? ⟨xb, 1, none⟩ = some v2 := hSw.2
                have d0 : w1.cell? ⟨H, 0, none⟩ = some (.int .i64 t1.need) := cellOf hSw.1
                clear hSw
                go_simp
                try with_reducible rfl
              (try go_frame)
              refine wpAnyH_take (i := 16) (v := ?vT216) rfl (by kernel_rfl) (by kernel_rfl) (by kernel_rfl) (fun _ _ _ h => h) (Or.inl ⟨by kernel_rfl, ?hT216⟩) hS ?rT216
              case hT216 =>
                intro w1 hSw
                clear hSw
                go_simp
                try with_reducible rfl
              (try go_frame)
              refine wpAnyH_take (i := 17) (v := ?vT217) rfl (by kernel_rfl) (by kernel_rfl) (by kernel_rfl) (fun _ _ _ h => h) (Or.inl ⟨by kernel_rfl, ?hT217⟩) hS ?rT217
              case hT217 =>
                intro w1 hSw
                clear hSw
                go_simp
                try with_reducible rfl
              (try go_frame)
              refine wpAnyH_take (i := 18) (v := ?vT218) rfl (by kernel_rfl) (by kernel_rfl) (by kernel_rfl) (fun _ _ _ h => h) (Or.inl ⟨by kernel_rfl, ?hT218⟩) hS ?rT218
              case hT218 =>
                intro w1 hSw
                clear hSw
                go_simp
                try with_reducible rfl
              (try go_frame)
              refine wpAnyH_ready (rs := [19]) (by kernel_rfl) (by simp) (AllReadyH.cons rfl (fun K hK => ?_) AllReadyH.nil)
              go_simp
              refine hK.out _ _ (⟨(Below.heap_setCell _ _ _ _ hHx).trans hS.1, (World.cell?_setCell_other _ _ _ _ (by simp)).trans hS.2⟩) (fun hS => ?_)
              clear hK K
              refine wpAnyH_done (by kernel_rfl) ?_ _
              go_wp2_with fail
              go_ret
              obtain ⟨f1, f2⟩ := HFIN.out true (by rw [hkn, hnd]; rfl)
              rw [f1]
              exact ⟨rfl, f2⟩
            | false =>
              go_wp2_with fail
              refine wp_region_held_drew (S := fun w' => w'.heap[H]? = some (.cells #[.int .i64 t1.need, .int .i64 t1.win, .int .i64 t1.keep, .int .i64 t1.now, .map (some mb)] 36 (0, 0)) ∧ w'.cell? ⟨xb, 1, none⟩ = some v2) (by kernel_rfl) (⟨NH0, n1⟩) (fun hS => ?_)
              refine wpAnyH_take (i := 0) (v := ?vT31) rfl (by kernel_rfl) (by kernel_rfl) (by kernel_rfl) (fun _ _ _ h => h) (Or.inl ⟨by kernel_rfl, ?hT31⟩) hS ?rT31
              case hT31 =>
                intro w1 hSw
                clear hSw
                go_simp
                try with_reducible rfl
              (try go_frame)
              refine wpAnyH_take (i := 1) (v := ?vT32) rfl (by kernel_rfl) (by kernel_rfl) (by kernel_rfl) (fun _ _ _ h => h) (Or.inl ⟨by kernel_rfl, ?hT32⟩) hS ?rT32
              case hT32 =>
                intro w1 hSw
                clear hSw
                go_simp
                try with_reducible rfl
              (try go_frame)
              refine wpAnyH_take (i := 2) (v := ?vT33) rfl (by kernel_rfl) (by kernel_rfl) (by kernel_rfl) (fun _ _ _ h => h) (Or.inl ⟨by kernel_rfl, ?hT33⟩) hS ?rT33
              case hT33 =>
                intro w1 hSw
                clear hSw
                go_simp
                try with_reducible rfl
              (try go_frame)
              refine wpAnyH_take (i := 3) (v := ?vT34) rfl (by kernel_rfl) (by kernel_rfl) (by kernel_rfl) (fun _ _ _ h => h) (Or.inl ⟨by kernel_rfl, ?hT34⟩) hS ?rT34
              case hT34 =>
                intro w1 hSw
                clear hSw
                go_simp
                try with_reducible rfl
              (try go_frame)
              refine wpAnyH_ready (rs := [4]) (by kernel_rfl) (by simp) (AllReadyH.cons rfl (fun K hK => ?_) AllReadyH.nil)
              go_simp
              refine hK.out _ _ (hS) (fun hS => ?_)
              clear hK K
              refine wpAnyH_take (i := 5) (v := ?vT35) rfl (by kernel_rfl) (by kernel_rfl) (by kernel_rfl) (fun _ _ _ h => h) (Or.inl ⟨by kernel_rfl, ?hT35⟩) hS ?rT35
              case hT35 =>
                intro w1 hSw
                clear hSw
                go_simp
                try with_reducible rfl
              (try go_frame)
              refine wpAnyH_take (i := 6) (v := ?vT36) rfl (by kernel_rfl) (by kernel_rfl) (by kernel_rfl) (fun _ _ _ h => h) (Or.inl ⟨by kernel_rfl, ?hT36⟩) hS ?rT36
              case hT36 =>
                intro w1 hSw
                have d1 : w1.cell? ⟨xb, 1, none⟩ = some v2 := hSw.2
                have d0 : w1.cell? ⟨H, 0, none⟩ = some (.int .i64 t1.need) := cellOf hSw.1
                clear hSw
                go_simp
                try with_reducible rfl
              (try go_frame)
              refine wpAnyH_take (i := 7) (v := ?vT37) rfl (by kernel_rfl) (by kernel_rfl) (by kernel_rfl) (fun _ _ _ h => h) (Or.inl ⟨by kernel_rfl, ?hT37⟩) hS ?rT37
              case hT37 =>
                intro w1 hSw
                have d1 : w1.cell? ⟨xb, 1, none⟩ = some v2 := hSw.2
                have d0 : w1.cell? ⟨H, 0, none⟩ = some (.int .i64 t1.need) := cellOf hSw.1
                clear hSw
                go_simp
                try with_reducible rfl
              (try go_frame)
              refine wpAnyH_take (i := 8) (v := ?vT38) rfl (by kernel_rfl) (by kernel_rfl) (by kernel_rfl) (fun _ _ _ h => h) (Or.inl ⟨by kernel_rfl, ?hT38⟩) hS ?rT38
              case hT38 =>
                intro w1 hSw
                have d1 : w1.cell? ⟨xb, 1, none⟩ = some v2 := hSw.2
                have d0 : w1.cell? ⟨H, 0, none⟩ = some (.int .i64 t1.need) := cellOf hSw.1
                clear hSw
                go_simp
                try with_reducible rfl
              (try go_frame)
              refine wpAnyH_take (i := 9) (v := ?vT39) rfl (by kernel_rfl) (by kernel_rfl) (by kernel_rfl) (fun _ _ _ h => h) (Or.inl ⟨by kernel_rfl, ?hT39⟩) hS ?rT39
              case hT39 =>
                intro w1 hSw
                have d1 : w1.cell? ⟨xb, 1, none⟩ = some v2 := hSw.2
                have d0 : w1.cell? ⟨H, 0, none⟩ = some (.int .i64 t1.need) := cellOf hSw.1
                clear hSw
                go_simp
                try with_reducible rfl
              (try go_frame)
              refine wpAnyH_take (i := 10) (v := ?vT310) rfl (by kernel_rfl) (by kernel_rfl) (by kernel_rfl) (fun _ _ _ h => h) (Or.inl ⟨by kernel_rfl, ?hT310⟩) hS ?rT310
              case hT310 =>
                intro w1 hSw
                have d1 : w1.cell? ⟨xb, 1, none⟩ = some v2 := hSw.2
                have d0 : w1.cell? ⟨H, 0, none⟩ = some (.int .i64 t1.need) := cellOf hSw.1
                clear hSw
                go_simp
                try with_reducible rfl
              (try go_frame)
              refine wpAnyH_take (i := 11) (v := ?vT311) rfl (by kernel_rfl) (by kernel_rfl) (by kernel_rfl) (fun _ _ _ h => h) (Or.inl ⟨by kernel_rfl, ?hT311⟩) hS ?rT311
              case hT311 =>
                intro w1 hSw
                have d1 : w1.cell? ⟨xb, 1, none⟩ = some v2 := hSw.2
                have d0 : w1.cell? ⟨H, 0, none⟩ = some (.int .i64 t1.need) := cellOf hSw.1
                clear hSw
                go_simp
                try with_reducible rfl
              (try go_frame)
              refine wpAnyH_take (i := 12) (v := ?vT312) rfl (by kernel_rfl) (by kernel_rfl) (by kernel_rfl) (fun _ _ _ h => h) (Or.inl ⟨by kernel_rfl, ?hT312⟩) hS ?rT312
              case hT312 =>
                intro w1 hSw
                have d1 : w1.cell? ⟨xb, 1, none⟩ = some v2 := hSw.2
                have d0 : w1.cell? ⟨H, 0, none⟩ = some (.int .i64 t1.need) := cellOf hSw.1
                clear hSw
                go_simp
                try with_reducible rfl
              (try go_frame)
              refine wpAnyH_take (i := 13) (v := ?vT313) rfl (by kernel_rfl) (by kernel_rfl) (by kernel_rfl) (fun _ _ _ h => h) (Or.inl ⟨by kernel_rfl, ?hT313⟩) hS ?rT313
              case hT313 =>
                intro w1 hSw
                have d1 : w1.cell? ⟨xb, 1, none⟩ = some v2 := hSw.2
                have d0 : w1.cell? ⟨H, 0, none⟩ = some (.int .i64 t1.need) := cellOf hSw.1
                clear hSw
                go_simp
                try with_reducible rfl
              (try go_frame)
              refine wpAnyH_take (i := 14) (v := ?vT314) rfl (by kernel_rfl) (by kernel_rfl) (by kernel_rfl) (fun _ _ _ h => h) (Or.inl ⟨by kernel_rfl, ?hT314⟩) hS ?rT314
              case hT314 =>
                intro w1 hSw
                have d1 : w1.cell? ⟨xb, 1, none⟩ = some v2 := hSw.2
                have d0 : w1.cell? ⟨H, 0, none⟩ = some (.int .i64 t1.need) := cellOf hSw.1
                clear hSw
                go_simp
                try with_reducible rfl
              (try go_frame)
              refine wpAnyH_take (i := 15) (v := ?vT315) rfl (by kernel_rfl) (by kernel_rfl) (by kernel_rfl) (fun _ _ _ h => h) (Or.inl ⟨by kernel_rfl, ?hT315⟩) hS ?rT315
              case hT315 =>
                intro w1 hSw
                have d1 : w1.cell? ⟨xb, 1, none⟩ = some v2 := hSw.2
                have d0 : w1.cell? ⟨H, 0, none⟩ = some (.int .i64 t1.need) := cellOf hSw.1
                clear hSw
                go_simp
                try with_reducible rfl
              (try go_frame)
              refine wpAnyH_take (i := 16) (v := ?vT316) rfl (by kernel_rfl) (by kernel_rfl) (by kernel_rfl) (fun _ _ _ h => h) (Or.inl ⟨by kernel_rfl, ?hT316⟩) hS ?rT316
              case hT316 =>
                intro w1 hSw
                clear hSw
                go_simp
                try with_reducible rfl
              (try go_frame)
              refine wpAnyH_take (i := 17) (v := ?vT317) rfl (by kernel_rfl) (by kernel_rfl) (by kernel_rfl) (fun _ _ _ h => h) (Or.inl ⟨by kernel_rfl, ?hT317⟩) hS ?rT317
              case hT317 =>
                intro w1 hSw
                clear hSw
                go_simp
                try with_reducible rfl
              (try go_frame)
              refine wpAnyH_take (i := 18) (v := ?vT318) rfl (by kernel_rfl) (by kernel_rfl) (by kernel_rfl) (fun _ _ _ h => h) (Or.inl ⟨by kernel_rfl, ?hT318⟩) hS ?rT318
              case hT318 =>
                intro w1 hSw
                clear hSw
                go_simp
                try with_reducible rfl
              (try go_frame)
              refine wpAnyH_ready (rs := [19]) (by kernel_rfl) (by simp) (AllReadyH.cons rfl (fun K hK => ?_) AllReadyH.nil)
              go_simp
              refine hK.out _ _ (⟨(Below.heap_setCell _ _ _ _ hHx).trans hS.1, (World.cell?_setCell_other _ _ _ _ (by simp)).trans hS.2⟩) (fun hS => ?_)
              clear hK K
              refine wpAnyH_done (by kernel_rfl) ?_ _
              go_wp2_with fail
              go_ret
              obtain ⟨f1, f2⟩ := HFIN.out false (by rw [hkn, hnd]; rfl)
              rw [f1]
              exact ⟨rfl, f2⟩
end Go.Proofs.YtkikokldijccnaaGreatDoor
