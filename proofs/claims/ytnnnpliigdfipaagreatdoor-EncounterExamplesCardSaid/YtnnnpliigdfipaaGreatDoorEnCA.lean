/- encounter: craftWords, and the writer of a line. -/
import Derived.Test.YtnnnpliigdfipaaGreatDoorRows
import Derived.WalkKit
import Derived.WalkLawsBesides
import Derived.WalkSpells
import Derived.ProofKit
import Derived.Below
import Derived.Outline
import Derived.Lib.Hide
import Derived.Deep.RegionWith
import Derived.Deep.RegionHeld3
import Derived.Deep.DrawnRows
import Derived.StillTailTactics
import Derived.BigQuiet
import Derived.Deep.QuietTactic
import Derived.Deep.LoopGhost
import Derived.IntWalk
import Derived.Lib.MinMax
import Derived.LoopN
import Derived.Deep.AppendLies
import Derived.Test.YtnnnpliigdfipaaGreatDoorEnAA
import Derived.Test.YtnnnpliigdfipaaGreatDoorEnBB
import Derived.Test.YtnnnpliigdfipaaGreatDoorRC
namespace Go.Proofs.YtnnnpliigdfipaaGreatDoor
open Go.RowKit
attribute [local go_sem ↓] Go.wp_at_zero Go.wp_at_succ
attribute [local go_sem] wrap_lit
theorem wpList_appS {P : Program} {ops : Array Oper} {rest : List Oper} {o : Oper} {a : Act} {Q : Exit → Act → World → Prop} {w : World} (hgd : o.guard = none) (s x : Operand) (t : TypeId)
    (ho : o.op = .call { callee := .builtin .append, args := #[s, x], argTypes := #[t, t] })
    (base : Nat) (e : TypeId) (i : TypeInfo) (z : Value) (bytes : Nat) (ht : P.underlying t = some (.slice e)) (hi : P.info? e = some i) (hz : i.zero = some z)
    (hsize : i.size = 1) (hby : i.bytes = bytes) (hzs : z.cells.size = 1)
    (v : Value) (n : Nat) (vs : List Value) (y : Value) (hy : y.oneCell' = true) (hs : a.eval s = v) (hown : w.ownsRow base e 1 v n vs)
    (ob : Obj) (hob : ob = .cells #[y] e) (H : Nat) (hH : w.heap.size = H) (hx : a.eval x = .slice (some ⟨H, 0, none⟩) 1 1)
    (hn : n ≤ 1000000) (hb1 : bytes ≤ 1000) (hbase : base ≤ w.heap.size)
    (h : ∀ v' w', w'.ownsRow base e 1 v' (n + 1) (vs ++ [y]) → (w.alloc ob).grownBy w' v.ownBlock → Below base w w' → wpList P ops Q rest (a.put o.dst v') w') : wpList P ops Q (o :: rest) a (w.alloc ob) := by
  subst hob
  subst hH
  have hbytes : (n + 1) * bytes ≤ 1000001 * 1000 := Nat.mul_le_mul (by omega) hb1
  refine wpList_append_own _ hgd s x t ho base e i z 1 bytes ht hi hz hsize hby hzs (by decide) v n _ hs (World.ownsRow.alloc hown _) ⟨w.heap.size, 0, none⟩ 1 1 [y] hx rfl (fun j u hu => ?_) (fun u hu => ?_) (by unfold maxLen; omega) (by omega) (by simp; omega) ?_
  · cases j with
    | zero =>
      obtain rfl : y = u := by simpa using hu
      exact World.cell?_alloc_at _ _ _ _ rfl
    | succ j => simp at hu
  · obtain rfl : u = y := by simpa using hu
    exact hy
  · intro v' w' hown' hg _
    exact h v' w' hown' hg (((Below.refl base w).alloc hbase _).grown hg (by simp; omega) fun g hg' => (World.ownsRow.lt hown g hg').1)
theorem str_info : (Tryz.prog.info? 9).map (fun i => (i.zero, i.size, i.bytes)) = some (some (.string ⟨#[]⟩), 1, 16) := by kernel_rfl
theorem row_below {w w' : World} {base : Nat} {e : TypeId} {size n : Nat} {v : Value} {xs : List Value} (h : w.ownsRow base e size v n xs) (hb : Below w.heap.size w w') : w'.ownsRow base e size v n xs :=
  h.kept (row := none) ⟨hb.os, hb.tape, hb.output, hb.size, fun k hk _ => hb.block k hk⟩ (by cases hv : v.ownBlock <;> simp)
theorem row_words {w : World} {base n : Nat} {T : TypeId} {v : Value} {ws : List Tx} (h : w.ownsRow base T 1 v n (ws.map fun x => Value.string (S x))) (h0 : 0 < ws.length) :
    ∃ g cap, v = .slice (some ⟨g, 0, none⟩) ws.length cap ∧ ws.length ≤ cap ∧ g < w.heap.size ∧ ∀ j x, ws[j]? = some x → w.cell? ⟨g, j, none⟩ = some (.string (S x)) := by
  have hl : ws.length = n := by have := h.1; simpa using this
  obtain ⟨A, cap, rfl, hc, hA⟩ := ownsRow_form h
  subst hl
  obtain ⟨g, rfl, -, hlt, -, hx⟩ := hA h0
  exact ⟨g, cap, rfl, hc, hlt, fun j x hj => hx j _ (by simp [hj])⟩
theorem moW_at {m : Int} (h0 : 0 ≤ m) (h2 : m ≤ 2) : [w_none, w_tables, w_rules][m.toNat]? = some (moW m) := by
  rcases (by omega : m = 0 ∨ m = 1 ∨ m = 2) with rfl | rfl | rfl <;> rfl
theorem own_ne1 {w : World} {B s n k : Nat} {e e' : TypeId} {v : Value} {xs : List Value} {cs : Array Value} (h : w.ownsRow B e s v n xs) (h' : w.heap[k]? = some (.cells cs e' (0, 0))) (hne : e' ≠ e) : some k ≠ v.ownBlock := by
  intro e0
  rcases h.2 with ⟨rfl, _⟩ | ⟨g, cap, cur, rfl, _, hg, -⟩
  · cases e0
  · simp only [Value.ownBlock, Option.some.injEq] at e0
    subst e0
    rw [h'] at hg
    cases hg
    exact hne rfl
set_option maxRecDepth 100000 in
set_option maxHeartbeats 4000000 in
theorem words61 (K : Nat) (c : Cr) (LA : Option Addr) (lcap : Nat) (w : World) (E : Env K w) (hK : K ≤ w.heap.size) (m0 : 0 ≤ c.mo) (m2 : c.mo ≤ 2) (s0 : small c.ad) (s1 : small c.p.x) (s2 : small c.p.y) (s3 : small c.p.z) (s4 : small c.v.x) (s5 : small c.v.y) (s6 : small c.v.z) (s7 : small c.pu) (s8 : small c.de) (s9 : small c.pp) (s10 : small c.mi) :
    Calls Tryz.prog 61 #[.agg #[.int .i64 c.ad, .int .i64 c.p.x, .int .i64 c.p.y, .int .i64 c.p.z, .int .i64 c.v.x, .int .i64 c.v.y, .int .i64 c.v.z, .int .i64 c.pu, .slice LA c.lg.length lcap, .int .u8 c.mo, .int .i64 c.de, .int .i64 c.pp, .int .i64 c.mi]] w fun e w' => (∃ g cap, e = .returned (.slice (some ⟨g, 0, none⟩) (crL c).length cap) ∧ (crL c).length ≤ cap ∧ g < w'.heap.size ∧ ∀ j x, (crL c)[j]? = some x → w'.cell? ⟨g, j, none⟩ = some (.string (S x))) ∧ Below w.heap.size w w' := by
  obtain ⟨V, hV, ix0, ix1, ix2, ix3, ix4, ix5, ix6, ix7, ix8, ix9, ix10⟩ := fieldsV
  have HV := Lib.hid hV
  clear hV
  obtain ⟨i0, hi0, hz0, hz1, hz2⟩ := info_parts str_info
  have hsf : ∀ (w : World) (a : Addr) (k : Nat), _ := fun w a k => run_store Tryz.prog w a (.func (.func k) #[] #[]) .plain rfl
  go_enter Tryz.func61, Tryz.ntmps61
  go_wp2_with fail
  obtain ⟨W0, hW0⟩ : ∃ W0, W0 = w.alloc (.cells #[.int .i64 c.ad, .int .i64 c.p.x, .int .i64 c.p.y, .int .i64 c.p.z, .int .i64 c.v.x, .int .i64 c.v.y, .int .i64 c.v.z, .int .i64 c.pu, .slice LA c.lg.length lcap, .int .u8 c.mo, .int .i64 c.de, .int .i64 c.pp, .int .i64 c.mi] 63) := ⟨_, rfl⟩
  have zW0 : w.heap.size < W0.heap.size := by rw [hW0]; simp
  have BW0 : Hid (Below w.heap.size w W0) := Lib.hid (by rw [hW0]; exact (Below.refl _ _).alloc (Nat.le_refl _) _)
  have CW0 : Hid (W0.heap[w.heap.size]? = some (.cells #[.int .i64 c.ad, .int .i64 c.p.x, .int .i64 c.p.y, .int .i64 c.p.z, .int .i64 c.v.x, .int .i64 c.v.y, .int .i64 c.v.z, .int .i64 c.pu, .slice LA c.lg.length lcap, .int .u8 c.mo, .int .i64 c.de, .int .i64 c.pp, .int .i64 c.mi] 63 (0, 0))) := Lib.hid (by rw [hW0]; exact heap_alloc_new _ _)
  have OW0 : Hid (W0.ownsRow (w.heap.size + 1) 9 1 (.slice none 0 0) 0 []) := Lib.hid (World.ownsRow_nil _ _ _ _)
  have EW0 := Lib.hid (E.below (BW0.out.mono hK))
  rw [← hW0]
  clear hW0 E
  refine (HV.out W0).mono ?_
  rintro e W1 ⟨rfl, hb⟩
  have zW1 := Nat.lt_of_lt_of_le zW0 (hb).size
  have BW1 := Lib.hid (BW0.out.trans ((hb).mono (Nat.le_of_lt zW0)))
  have CW1 := Lib.hid (((hb).block _ zW0).trans CW0.out)
  have OW1 := Lib.hid (row_below OW0.out (hb))
  have EW1 := Lib.hid (EW0.out.below ((hb).mono (by omega)))
  clear BW0 CW0 OW0 EW0 zW0
  clear hb
  go_wp2_with fail
  refine wp_loop_rounds 12 ?_
  rw [rounds_succ]
  obtain ⟨v0, hv0⟩ : ∃ v0, v0 = Value.slice none 0 0 := ⟨_, rfl⟩
  rw [← hv0] at OW1 ⊢
  clear hv0
  obtain ⟨X1, hX⟩ : ∃ X1, X1 = W1.alloc (.cells #[.string ⟨#[99, 114, 97, 102, 116]⟩, .func (.func 125) #[] #[]] 121) := ⟨_, rfl⟩
  have bX : Below W1.heap.size W1 X1 := by rw [hX]; exact (Below.refl _ _).alloc (Nat.le_refl _) _
  have FX1 : Hid (X1.heap[W1.heap.size]? = some (.cells #[.string ⟨#[99, 114, 97, 102, 116]⟩, .func (.func 125) #[] #[]] 121 (0, 0))) := Lib.hid (by rw [hX]; exact heap_alloc_new _ _)
  have hXs : Hid (X1.heap.size = W1.heap.size + 1) := Lib.hid (by rw [hX]; simp)
  have zF : w.heap.size < W1.heap.size := zW1
  have zX1 := Nat.lt_of_lt_of_le zW1 (bX).size
  have BX1 := Lib.hid (BW1.out.trans ((bX).mono (Nat.le_of_lt zW1)))
  have CX1 := Lib.hid (((bX).block _ zW1).trans CW1.out)
  have OX1 := Lib.hid (row_below OW1.out (bX))
  have EX1 := Lib.hid (EW1.out.below ((bX).mono (by omega)))
  clear BW1 CW1 OW1 EW1 zW1
  clear bX
  go_wp2_with (at_builtin; rw [← hX]; refine wpList_appS rfl _ _ 74 rfl (w.heap.size + 1) 9 i0 _ 16 Tryz.underlying74 hi0 hz0 hz1 hz2 rfl (v0) 0 _ (.string ⟨#[99, 114, 97, 102, 116]⟩) rfl rfl OX1.out _ rfl (W1.heap.size + 1) hXs.out rfl (by omega) (by decide) zX1 ?_; intro v' Y2 own hg hb; obtain ⟨g3, p4, rfl⟩ := ownsRow_succ own; have zY2 : w.heap.size < Y2.heap.size := Nat.lt_of_lt_of_le zX1 hb.size; have BY2 := Lib.hid (BX1.out.trans (hb.mono (Nat.le_succ _))); have CY2 := Lib.hid ((hb.block _ (Nat.lt_succ_self _)).trans CX1.out); have OY2 : Hid (Y2.ownsRow (w.heap.size + 1) 9 1 (.slice (some ⟨g3, 0, none⟩) 1 p4) 1 [.string ⟨#[99, 114, 97, 102, 116]⟩]) := Lib.hid own; have EY2 := Lib.hid (EX1.out.below (hb.mono (by omega))); have FY2 := Lib.hid ((hg.block _ (Nat.lt_of_lt_of_le (heap_lt FX1.out) (World.grownBy_alloc _ _ none).size) (own_ne1 OX1.out FX1.out (by decide))).trans ((Below.heap_alloc _ _ _ (heap_lt FX1.out)).trans FX1.out)); clear FX1; have fc : Y2.cell? ⟨W1.heap.size, 1, none⟩ = some (.func (.func 125) #[] #[]) := (by simp [World.cell?, FY2.out]); clear BX1 CX1 OX1 EX1 zX1 hg hb own)
  clear hX hXs
  refine (field0 w.heap.size _).mono ?_
  rintro e wS ⟨rfl, rfl⟩
  have kc : Y2.cell? ⟨w.heap.size, 0, none⟩ = some (.int .i64 c.ad) := by simp [World.cell?, CY2.out]
  go_wp2_with fail
  refine (itoa60 c.ad s0 K Y2 EY2.out).mono ?_
  rintro e Z5 ⟨rfl, hb⟩
  clear kc fc FY2 zF
  have zZ5 := Nat.lt_of_lt_of_le zY2 (hb).size
  have BZ5 := Lib.hid (BY2.out.trans ((hb).mono (Nat.le_of_lt zY2)))
  have CZ5 := Lib.hid (((hb).block _ zY2).trans CY2.out)
  have OZ5 := Lib.hid (row_below OY2.out (hb))
  have EZ5 := Lib.hid (EY2.out.below ((hb).mono (by omega)))
  clear BY2 CY2 OY2 EY2 zY2
  clear hb
  go_wp2_with (at_builtin; refine wpList_appS rfl _ _ 74 rfl (w.heap.size + 1) 9 i0 _ 16 Tryz.underlying74 hi0 hz0 hz1 hz2 rfl (.slice (some ⟨g3, 0, none⟩) 1 p4) 1 _ (.string (S (Lib.itoa c.ad))) rfl rfl OZ5.out _ rfl (Z5.heap.size) rfl rfl (by omega) (by decide) zZ5 ?_; intro v' Y6 own hg hb; obtain ⟨g7, p8, rfl⟩ := ownsRow_succ own; have zY6 : w.heap.size < Y6.heap.size := Nat.lt_of_lt_of_le zZ5 hb.size; have BY6 := Lib.hid (BZ5.out.trans (hb.mono (Nat.le_succ _))); have CY6 := Lib.hid ((hb.block _ (Nat.lt_succ_self _)).trans CZ5.out); have OY6 : Hid (Y6.ownsRow (w.heap.size + 1) 9 1 (.slice (some ⟨g7, 0, none⟩) 2 p8) 2 [.string ⟨#[99, 114, 97, 102, 116]⟩, .string (S (Lib.itoa c.ad))]) := Lib.hid own; have EY6 := Lib.hid (EZ5.out.below (hb.mono (by omega))); clear BZ5 CZ5 OZ5 EZ5 zZ5 hg hb own)
  rw [rounds_succ]
  obtain ⟨X9, hX⟩ : ∃ X9, X9 = Y6.alloc (.cells #[.string ⟨#[97, 116]⟩, .func (.func 126) #[] #[]] 121) := ⟨_, rfl⟩
  have bX : Below Y6.heap.size Y6 X9 := by rw [hX]; exact (Below.refl _ _).alloc (Nat.le_refl _) _
  have FX9 : Hid (X9.heap[Y6.heap.size]? = some (.cells #[.string ⟨#[97, 116]⟩, .func (.func 126) #[] #[]] 121 (0, 0))) := Lib.hid (by rw [hX]; exact heap_alloc_new _ _)
  have hXs : Hid (X9.heap.size = Y6.heap.size + 1) := Lib.hid (by rw [hX]; simp)
  have zF : w.heap.size < Y6.heap.size := zY6
  have zX9 := Nat.lt_of_lt_of_le zY6 (bX).size
  have BX9 := Lib.hid (BY6.out.trans ((bX).mono (Nat.le_of_lt zY6)))
  have CX9 := Lib.hid (((bX).block _ zY6).trans CY6.out)
  have OX9 := Lib.hid (row_below OY6.out (bX))
  have EX9 := Lib.hid (EY6.out.below ((bX).mono (by omega)))
  clear BY6 CY6 OY6 EY6 zY6
  clear bX
  go_wp2_with (at_builtin; rw [← hX]; refine wpList_appS rfl _ _ 74 rfl (w.heap.size + 1) 9 i0 _ 16 Tryz.underlying74 hi0 hz0 hz1 hz2 rfl (.slice (some ⟨g7, 0, none⟩) 2 p8) 2 _ (.string ⟨#[97, 116]⟩) rfl rfl OX9.out _ rfl (Y6.heap.size + 1) hXs.out rfl (by omega) (by decide) zX9 ?_; intro v' Y10 own hg hb; obtain ⟨g11, p12, rfl⟩ := ownsRow_succ own; have zY10 : w.heap.size < Y10.heap.size := Nat.lt_of_lt_of_le zX9 hb.size; have BY10 := Lib.hid (BX9.out.trans (hb.mono (Nat.le_succ _))); have CY10 := Lib.hid ((hb.block _ (Nat.lt_succ_self _)).trans CX9.out); have OY10 : Hid (Y10.ownsRow (w.heap.size + 1) 9 1 (.slice (some ⟨g11, 0, none⟩) 3 p12) 3 [.string ⟨#[99, 114, 97, 102, 116]⟩, .string (S (Lib.itoa c.ad)), .string ⟨#[97, 116]⟩]) := Lib.hid own; have EY10 := Lib.hid (EX9.out.below (hb.mono (by omega))); have FY10 := Lib.hid ((hg.block _ (Nat.lt_of_lt_of_le (heap_lt FX9.out) (World.grownBy_alloc _ _ none).size) (own_ne1 OX9.out FX9.out (by decide))).trans ((Below.heap_alloc _ _ _ (heap_lt FX9.out)).trans FX9.out)); clear FX9; have fc : Y10.cell? ⟨Y6.heap.size, 1, none⟩ = some (.func (.func 126) #[] #[]) := (by simp [World.cell?, FY10.out]); clear BX9 CX9 OX9 EX9 zX9 hg hb own)
  clear hX hXs
  refine (field1 w.heap.size _).mono ?_
  rintro e wS ⟨rfl, rfl⟩
  have kc : Y10.cell? ⟨w.heap.size, 1, none⟩ = some (.int .i64 c.p.x) := by simp [World.cell?, CY10.out]
  go_wp2_with fail
  refine (itoa60 c.p.x s1 K Y10 EY10.out).mono ?_
  rintro e Z13 ⟨rfl, hb⟩
  clear kc fc FY10 zF
  have zZ13 := Nat.lt_of_lt_of_le zY10 (hb).size
  have BZ13 := Lib.hid (BY10.out.trans ((hb).mono (Nat.le_of_lt zY10)))
  have CZ13 := Lib.hid (((hb).block _ zY10).trans CY10.out)
  have OZ13 := Lib.hid (row_below OY10.out (hb))
  have EZ13 := Lib.hid (EY10.out.below ((hb).mono (by omega)))
  clear BY10 CY10 OY10 EY10 zY10
  clear hb
  go_wp2_with (at_builtin; refine wpList_appS rfl _ _ 74 rfl (w.heap.size + 1) 9 i0 _ 16 Tryz.underlying74 hi0 hz0 hz1 hz2 rfl (.slice (some ⟨g11, 0, none⟩) 3 p12) 3 _ (.string (S (Lib.itoa c.p.x))) rfl rfl OZ13.out _ rfl (Z13.heap.size) rfl rfl (by omega) (by decide) zZ13 ?_; intro v' Y14 own hg hb; obtain ⟨g15, p16, rfl⟩ := ownsRow_succ own; have zY14 : w.heap.size < Y14.heap.size := Nat.lt_of_lt_of_le zZ13 hb.size; have BY14 := Lib.hid (BZ13.out.trans (hb.mono (Nat.le_succ _))); have CY14 := Lib.hid ((hb.block _ (Nat.lt_succ_self _)).trans CZ13.out); have OY14 : Hid (Y14.ownsRow (w.heap.size + 1) 9 1 (.slice (some ⟨g15, 0, none⟩) 4 p16) 4 [.string ⟨#[99, 114, 97, 102, 116]⟩, .string (S (Lib.itoa c.ad)), .string ⟨#[97, 116]⟩, .string (S (Lib.itoa c.p.x))]) := Lib.hid own; have EY14 := Lib.hid (EZ13.out.below (hb.mono (by omega))); clear BZ13 CZ13 OZ13 EZ13 zZ13 hg hb own)
  rw [rounds_succ]
  obtain ⟨X17, hX⟩ : ∃ X17, X17 = Y14.alloc (.cells #[.string ⟨#[]⟩, .func (.func 127) #[] #[]] 121) := ⟨_, rfl⟩
  have bX : Below Y14.heap.size Y14 X17 := by rw [hX]; exact (Below.refl _ _).alloc (Nat.le_refl _) _
  have FX17 : Hid (X17.heap[Y14.heap.size]? = some (.cells #[.string ⟨#[]⟩, .func (.func 127) #[] #[]] 121 (0, 0))) := Lib.hid (by rw [hX]; exact heap_alloc_new _ _)
  have hXs : Hid (X17.heap.size = Y14.heap.size + 1) := Lib.hid (by rw [hX]; simp)
  have zF : w.heap.size < Y14.heap.size := zY14
  have zX17 := Nat.lt_of_lt_of_le zY14 (bX).size
  have BX17 := Lib.hid (BY14.out.trans ((bX).mono (Nat.le_of_lt zY14)))
  have CX17 := Lib.hid (((bX).block _ zY14).trans CY14.out)
  have OX17 := Lib.hid (row_below OY14.out (bX))
  have EX17 := Lib.hid (EY14.out.below ((bX).mono (by omega)))
  clear BY14 CY14 OY14 EY14 zY14
  clear bX
  go_wp2_with fail
  rw [← hX]
  have fc : X17.cell? ⟨Y14.heap.size, 1, none⟩ = some (.func (.func 127) #[] #[]) := by simp [World.cell?, FX17.out]
  clear hX hXs
  refine (field2 w.heap.size _).mono ?_
  rintro e wS ⟨rfl, rfl⟩
  have kc : X17.cell? ⟨w.heap.size, 2, none⟩ = some (.int .i64 c.p.y) := by simp [World.cell?, CX17.out]
  go_wp2_with fail
  refine (itoa60 c.p.y s2 K X17 EX17.out).mono ?_
  rintro e Z18 ⟨rfl, hb⟩
  clear kc fc FX17 zF
  have zZ18 := Nat.lt_of_lt_of_le zX17 (hb).size
  have BZ18 := Lib.hid (BX17.out.trans ((hb).mono (Nat.le_of_lt zX17)))
  have CZ18 := Lib.hid (((hb).block _ zX17).trans CX17.out)
  have OZ18 := Lib.hid (row_below OX17.out (hb))
  have EZ18 := Lib.hid (EX17.out.below ((hb).mono (by omega)))
  clear BX17 CX17 OX17 EX17 zX17
  clear hb
  go_wp2_with (at_builtin; refine wpList_appS rfl _ _ 74 rfl (w.heap.size + 1) 9 i0 _ 16 Tryz.underlying74 hi0 hz0 hz1 hz2 rfl (.slice (some ⟨g15, 0, none⟩) 4 p16) 4 _ (.string (S (Lib.itoa c.p.y))) rfl rfl OZ18.out _ rfl (Z18.heap.size) rfl rfl (by omega) (by decide) zZ18 ?_; intro v' Y19 own hg hb; obtain ⟨g20, p21, rfl⟩ := ownsRow_succ own; have zY19 : w.heap.size < Y19.heap.size := Nat.lt_of_lt_of_le zZ18 hb.size; have BY19 := Lib.hid (BZ18.out.trans (hb.mono (Nat.le_succ _))); have CY19 := Lib.hid ((hb.block _ (Nat.lt_succ_self _)).trans CZ18.out); have OY19 : Hid (Y19.ownsRow (w.heap.size + 1) 9 1 (.slice (some ⟨g20, 0, none⟩) 5 p21) 5 [.string ⟨#[99, 114, 97, 102, 116]⟩, .string (S (Lib.itoa c.ad)), .string ⟨#[97, 116]⟩, .string (S (Lib.itoa c.p.x)), .string (S (Lib.itoa c.p.y))]) := Lib.hid own; have EY19 := Lib.hid (EZ18.out.below (hb.mono (by omega))); clear BZ18 CZ18 OZ18 EZ18 zZ18 hg hb own)
  rw [rounds_succ]
  obtain ⟨X22, hX⟩ : ∃ X22, X22 = Y19.alloc (.cells #[.string ⟨#[]⟩, .func (.func 128) #[] #[]] 121) := ⟨_, rfl⟩
  have bX : Below Y19.heap.size Y19 X22 := by rw [hX]; exact (Below.refl _ _).alloc (Nat.le_refl _) _
  have FX22 : Hid (X22.heap[Y19.heap.size]? = some (.cells #[.string ⟨#[]⟩, .func (.func 128) #[] #[]] 121 (0, 0))) := Lib.hid (by rw [hX]; exact heap_alloc_new _ _)
  have hXs : Hid (X22.heap.size = Y19.heap.size + 1) := Lib.hid (by rw [hX]; simp)
  have zF : w.heap.size < Y19.heap.size := zY19
  have zX22 := Nat.lt_of_lt_of_le zY19 (bX).size
  have BX22 := Lib.hid (BY19.out.trans ((bX).mono (Nat.le_of_lt zY19)))
  have CX22 := Lib.hid (((bX).block _ zY19).trans CY19.out)
  have OX22 := Lib.hid (row_below OY19.out (bX))
  have EX22 := Lib.hid (EY19.out.below ((bX).mono (by omega)))
  clear BY19 CY19 OY19 EY19 zY19
  clear bX
  go_wp2_with fail
  rw [← hX]
  have fc : X22.cell? ⟨Y19.heap.size, 1, none⟩ = some (.func (.func 128) #[] #[]) := by simp [World.cell?, FX22.out]
  clear hX hXs
  refine (field3 w.heap.size _).mono ?_
  rintro e wS ⟨rfl, rfl⟩
  have kc : X22.cell? ⟨w.heap.size, 3, none⟩ = some (.int .i64 c.p.z) := by simp [World.cell?, CX22.out]
  go_wp2_with fail
  refine (itoa60 c.p.z s3 K X22 EX22.out).mono ?_
  rintro e Z23 ⟨rfl, hb⟩
  clear kc fc FX22 zF
  have zZ23 := Nat.lt_of_lt_of_le zX22 (hb).size
  have BZ23 := Lib.hid (BX22.out.trans ((hb).mono (Nat.le_of_lt zX22)))
  have CZ23 := Lib.hid (((hb).block _ zX22).trans CX22.out)
  have OZ23 := Lib.hid (row_below OX22.out (hb))
  have EZ23 := Lib.hid (EX22.out.below ((hb).mono (by omega)))
  clear BX22 CX22 OX22 EX22 zX22
  clear hb
  go_wp2_with (at_builtin; refine wpList_appS rfl _ _ 74 rfl (w.heap.size + 1) 9 i0 _ 16 Tryz.underlying74 hi0 hz0 hz1 hz2 rfl (.slice (some ⟨g20, 0, none⟩) 5 p21) 5 _ (.string (S (Lib.itoa c.p.z))) rfl rfl OZ23.out _ rfl (Z23.heap.size) rfl rfl (by omega) (by decide) zZ23 ?_; intro v' Y24 own hg hb; obtain ⟨g25, p26, rfl⟩ := ownsRow_succ own; have zY24 : w.heap.size < Y24.heap.size := Nat.lt_of_lt_of_le zZ23 hb.size; have BY24 := Lib.hid (BZ23.out.trans (hb.mono (Nat.le_succ _))); have CY24 := Lib.hid ((hb.block _ (Nat.lt_succ_self _)).trans CZ23.out); have OY24 : Hid (Y24.ownsRow (w.heap.size + 1) 9 1 (.slice (some ⟨g25, 0, none⟩) 6 p26) 6 [.string ⟨#[99, 114, 97, 102, 116]⟩, .string (S (Lib.itoa c.ad)), .string ⟨#[97, 116]⟩, .string (S (Lib.itoa c.p.x)), .string (S (Lib.itoa c.p.y)), .string (S (Lib.itoa c.p.z))]) := Lib.hid own; have EY24 := Lib.hid (EZ23.out.below (hb.mono (by omega))); clear BZ23 CZ23 OZ23 EZ23 zZ23 hg hb own)
  rw [rounds_succ]
  obtain ⟨X27, hX⟩ : ∃ X27, X27 = Y24.alloc (.cells #[.string ⟨#[109, 111, 118, 105, 110, 103]⟩, .func (.func 129) #[] #[]] 121) := ⟨_, rfl⟩
  have bX : Below Y24.heap.size Y24 X27 := by rw [hX]; exact (Below.refl _ _).alloc (Nat.le_refl _) _
  have FX27 : Hid (X27.heap[Y24.heap.size]? = some (.cells #[.string ⟨#[109, 111, 118, 105, 110, 103]⟩, .func (.func 129) #[] #[]] 121 (0, 0))) := Lib.hid (by rw [hX]; exact heap_alloc_new _ _)
  have hXs : Hid (X27.heap.size = Y24.heap.size + 1) := Lib.hid (by rw [hX]; simp)
  have zF : w.heap.size < Y24.heap.size := zY24
  have zX27 := Nat.lt_of_lt_of_le zY24 (bX).size
  have BX27 := Lib.hid (BY24.out.trans ((bX).mono (Nat.le_of_lt zY24)))
  have CX27 := Lib.hid (((bX).block _ zY24).trans CY24.out)
  have OX27 := Lib.hid (row_below OY24.out (bX))
  have EX27 := Lib.hid (EY24.out.below ((bX).mono (by omega)))
  clear BY24 CY24 OY24 EY24 zY24
  clear bX
  go_wp2_with (at_builtin; rw [← hX]; refine wpList_appS rfl _ _ 74 rfl (w.heap.size + 1) 9 i0 _ 16 Tryz.underlying74 hi0 hz0 hz1 hz2 rfl (.slice (some ⟨g25, 0, none⟩) 6 p26) 6 _ (.string ⟨#[109, 111, 118, 105, 110, 103]⟩) rfl rfl OX27.out _ rfl (Y24.heap.size + 1) hXs.out rfl (by omega) (by decide) zX27 ?_; intro v' Y28 own hg hb; obtain ⟨g29, p30, rfl⟩ := ownsRow_succ own; have zY28 : w.heap.size < Y28.heap.size := Nat.lt_of_lt_of_le zX27 hb.size; have BY28 := Lib.hid (BX27.out.trans (hb.mono (Nat.le_succ _))); have CY28 := Lib.hid ((hb.block _ (Nat.lt_succ_self _)).trans CX27.out); have OY28 : Hid (Y28.ownsRow (w.heap.size + 1) 9 1 (.slice (some ⟨g29, 0, none⟩) 7 p30) 7 [.string ⟨#[99, 114, 97, 102, 116]⟩, .string (S (Lib.itoa c.ad)), .string ⟨#[97, 116]⟩, .string (S (Lib.itoa c.p.x)), .string (S (Lib.itoa c.p.y)), .string (S (Lib.itoa c.p.z)), .string ⟨#[109, 111, 118, 105, 110, 103]⟩]) := Lib.hid own; have EY28 := Lib.hid (EX27.out.below (hb.mono (by omega))); have FY28 := Lib.hid ((hg.block _ (Nat.lt_of_lt_of_le (heap_lt FX27.out) (World.grownBy_alloc _ _ none).size) (own_ne1 OX27.out FX27.out (by decide))).trans ((Below.heap_alloc _ _ _ (heap_lt FX27.out)).trans FX27.out)); clear FX27; have fc : Y28.cell? ⟨Y24.heap.size, 1, none⟩ = some (.func (.func 129) #[] #[]) := (by simp [World.cell?, FY28.out]); clear BX27 CX27 OX27 EX27 zX27 hg hb own)
  clear hX hXs
  refine (field4 w.heap.size _).mono ?_
  rintro e wS ⟨rfl, rfl⟩
  have kc : Y28.cell? ⟨w.heap.size, 4, none⟩ = some (.int .i64 c.v.x) := by simp [World.cell?, CY28.out]
  go_wp2_with fail
  refine (itoa60 c.v.x s4 K Y28 EY28.out).mono ?_
  rintro e Z31 ⟨rfl, hb⟩
  clear kc fc FY28 zF
  have zZ31 := Nat.lt_of_lt_of_le zY28 (hb).size
  have BZ31 := Lib.hid (BY28.out.trans ((hb).mono (Nat.le_of_lt zY28)))
  have CZ31 := Lib.hid (((hb).block _ zY28).trans CY28.out)
  have OZ31 := Lib.hid (row_below OY28.out (hb))
  have EZ31 := Lib.hid (EY28.out.below ((hb).mono (by omega)))
  clear BY28 CY28 OY28 EY28 zY28
  clear hb
  go_wp2_with (at_builtin; refine wpList_appS rfl _ _ 74 rfl (w.heap.size + 1) 9 i0 _ 16 Tryz.underlying74 hi0 hz0 hz1 hz2 rfl (.slice (some ⟨g29, 0, none⟩) 7 p30) 7 _ (.string (S (Lib.itoa c.v.x))) rfl rfl OZ31.out _ rfl (Z31.heap.size) rfl rfl (by omega) (by decide) zZ31 ?_; intro v' Y32 own hg hb; obtain ⟨g33, p34, rfl⟩ := ownsRow_succ own; have zY32 : w.heap.size < Y32.heap.size := Nat.lt_of_lt_of_le zZ31 hb.size; have BY32 := Lib.hid (BZ31.out.trans (hb.mono (Nat.le_succ _))); have CY32 := Lib.hid ((hb.block _ (Nat.lt_succ_self _)).trans CZ31.out); have OY32 : Hid (Y32.ownsRow (w.heap.size + 1) 9 1 (.slice (some ⟨g33, 0, none⟩) 8 p34) 8 [.string ⟨#[99, 114, 97, 102, 116]⟩, .string (S (Lib.itoa c.ad)), .string ⟨#[97, 116]⟩, .string (S (Lib.itoa c.p.x)), .string (S (Lib.itoa c.p.y)), .string (S (Lib.itoa c.p.z)), .string ⟨#[109, 111, 118, 105, 110, 103]⟩, .string (S (Lib.itoa c.v.x))]) := Lib.hid own; have EY32 := Lib.hid (EZ31.out.below (hb.mono (by omega))); clear BZ31 CZ31 OZ31 EZ31 zZ31 hg hb own)
  rw [rounds_succ]
  obtain ⟨X35, hX⟩ : ∃ X35, X35 = Y32.alloc (.cells #[.string ⟨#[]⟩, .func (.func 130) #[] #[]] 121) := ⟨_, rfl⟩
  have bX : Below Y32.heap.size Y32 X35 := by rw [hX]; exact (Below.refl _ _).alloc (Nat.le_refl _) _
  have FX35 : Hid (X35.heap[Y32.heap.size]? = some (.cells #[.string ⟨#[]⟩, .func (.func 130) #[] #[]] 121 (0, 0))) := Lib.hid (by rw [hX]; exact heap_alloc_new _ _)
  have hXs : Hid (X35.heap.size = Y32.heap.size + 1) := Lib.hid (by rw [hX]; simp)
  have zF : w.heap.size < Y32.heap.size := zY32
  have zX35 := Nat.lt_of_lt_of_le zY32 (bX).size
  have BX35 := Lib.hid (BY32.out.trans ((bX).mono (Nat.le_of_lt zY32)))
  have CX35 := Lib.hid (((bX).block _ zY32).trans CY32.out)
  have OX35 := Lib.hid (row_below OY32.out (bX))
  have EX35 := Lib.hid (EY32.out.below ((bX).mono (by omega)))
  clear BY32 CY32 OY32 EY32 zY32
  clear bX
  go_wp2_with fail
  rw [← hX]
  have fc : X35.cell? ⟨Y32.heap.size, 1, none⟩ = some (.func (.func 130) #[] #[]) := by simp [World.cell?, FX35.out]
  clear hX hXs
  refine (field5 w.heap.size _).mono ?_
  rintro e wS ⟨rfl, rfl⟩
  have kc : X35.cell? ⟨w.heap.size, 5, none⟩ = some (.int .i64 c.v.y) := by simp [World.cell?, CX35.out]
  go_wp2_with fail
  refine (itoa60 c.v.y s5 K X35 EX35.out).mono ?_
  rintro e Z36 ⟨rfl, hb⟩
  clear kc fc FX35 zF
  have zZ36 := Nat.lt_of_lt_of_le zX35 (hb).size
  have BZ36 := Lib.hid (BX35.out.trans ((hb).mono (Nat.le_of_lt zX35)))
  have CZ36 := Lib.hid (((hb).block _ zX35).trans CX35.out)
  have OZ36 := Lib.hid (row_below OX35.out (hb))
  have EZ36 := Lib.hid (EX35.out.below ((hb).mono (by omega)))
  clear BX35 CX35 OX35 EX35 zX35
  clear hb
  go_wp2_with (at_builtin; refine wpList_appS rfl _ _ 74 rfl (w.heap.size + 1) 9 i0 _ 16 Tryz.underlying74 hi0 hz0 hz1 hz2 rfl (.slice (some ⟨g33, 0, none⟩) 8 p34) 8 _ (.string (S (Lib.itoa c.v.y))) rfl rfl OZ36.out _ rfl (Z36.heap.size) rfl rfl (by omega) (by decide) zZ36 ?_; intro v' Y37 own hg hb; obtain ⟨g38, p39, rfl⟩ := ownsRow_succ own; have zY37 : w.heap.size < Y37.heap.size := Nat.lt_of_lt_of_le zZ36 hb.size; have BY37 := Lib.hid (BZ36.out.trans (hb.mono (Nat.le_succ _))); have CY37 := Lib.hid ((hb.block _ (Nat.lt_succ_self _)).trans CZ36.out); have OY37 : Hid (Y37.ownsRow (w.heap.size + 1) 9 1 (.slice (some ⟨g38, 0, none⟩) 9 p39) 9 [.string ⟨#[99, 114, 97, 102, 116]⟩, .string (S (Lib.itoa c.ad)), .string ⟨#[97, 116]⟩, .string (S (Lib.itoa c.p.x)), .string (S (Lib.itoa c.p.y)), .string (S (Lib.itoa c.p.z)), .string ⟨#[109, 111, 118, 105, 110, 103]⟩, .string (S (Lib.itoa c.v.x)), .string (S (Lib.itoa c.v.y))]) := Lib.hid own; have EY37 := Lib.hid (EZ36.out.below (hb.mono (by omega))); clear BZ36 CZ36 OZ36 EZ36 zZ36 hg hb own)
  rw [rounds_succ]
  obtain ⟨X40, hX⟩ : ∃ X40, X40 = Y37.alloc (.cells #[.string ⟨#[]⟩, .func (.func 131) #[] #[]] 121) := ⟨_, rfl⟩
  have bX : Below Y37.heap.size Y37 X40 := by rw [hX]; exact (Below.refl _ _).alloc (Nat.le_refl _) _
  have FX40 : Hid (X40.heap[Y37.heap.size]? = some (.cells #[.string ⟨#[]⟩, .func (.func 131) #[] #[]] 121 (0, 0))) := Lib.hid (by rw [hX]; exact heap_alloc_new _ _)
  have hXs : Hid (X40.heap.size = Y37.heap.size + 1) := Lib.hid (by rw [hX]; simp)
  have zF : w.heap.size < Y37.heap.size := zY37
  have zX40 := Nat.lt_of_lt_of_le zY37 (bX).size
  have BX40 := Lib.hid (BY37.out.trans ((bX).mono (Nat.le_of_lt zY37)))
  have CX40 := Lib.hid (((bX).block _ zY37).trans CY37.out)
  have OX40 := Lib.hid (row_below OY37.out (bX))
  have EX40 := Lib.hid (EY37.out.below ((bX).mono (by omega)))
  clear BY37 CY37 OY37 EY37 zY37
  clear bX
  go_wp2_with fail
  rw [← hX]
  have fc : X40.cell? ⟨Y37.heap.size, 1, none⟩ = some (.func (.func 131) #[] #[]) := by simp [World.cell?, FX40.out]
  clear hX hXs
  refine (field6 w.heap.size _).mono ?_
  rintro e wS ⟨rfl, rfl⟩
  have kc : X40.cell? ⟨w.heap.size, 6, none⟩ = some (.int .i64 c.v.z) := by simp [World.cell?, CX40.out]
  go_wp2_with fail
  refine (itoa60 c.v.z s6 K X40 EX40.out).mono ?_
  rintro e Z41 ⟨rfl, hb⟩
  clear kc fc FX40 zF
  have zZ41 := Nat.lt_of_lt_of_le zX40 (hb).size
  have BZ41 := Lib.hid (BX40.out.trans ((hb).mono (Nat.le_of_lt zX40)))
  have CZ41 := Lib.hid (((hb).block _ zX40).trans CX40.out)
  have OZ41 := Lib.hid (row_below OX40.out (hb))
  have EZ41 := Lib.hid (EX40.out.below ((hb).mono (by omega)))
  clear BX40 CX40 OX40 EX40 zX40
  clear hb
  go_wp2_with (at_builtin; refine wpList_appS rfl _ _ 74 rfl (w.heap.size + 1) 9 i0 _ 16 Tryz.underlying74 hi0 hz0 hz1 hz2 rfl (.slice (some ⟨g38, 0, none⟩) 9 p39) 9 _ (.string (S (Lib.itoa c.v.z))) rfl rfl OZ41.out _ rfl (Z41.heap.size) rfl rfl (by omega) (by decide) zZ41 ?_; intro v' Y42 own hg hb; obtain ⟨g43, p44, rfl⟩ := ownsRow_succ own; have zY42 : w.heap.size < Y42.heap.size := Nat.lt_of_lt_of_le zZ41 hb.size; have BY42 := Lib.hid (BZ41.out.trans (hb.mono (Nat.le_succ _))); have CY42 := Lib.hid ((hb.block _ (Nat.lt_succ_self _)).trans CZ41.out); have OY42 : Hid (Y42.ownsRow (w.heap.size + 1) 9 1 (.slice (some ⟨g43, 0, none⟩) 10 p44) 10 [.string ⟨#[99, 114, 97, 102, 116]⟩, .string (S (Lib.itoa c.ad)), .string ⟨#[97, 116]⟩, .string (S (Lib.itoa c.p.x)), .string (S (Lib.itoa c.p.y)), .string (S (Lib.itoa c.p.z)), .string ⟨#[109, 111, 118, 105, 110, 103]⟩, .string (S (Lib.itoa c.v.x)), .string (S (Lib.itoa c.v.y)), .string (S (Lib.itoa c.v.z))]) := Lib.hid own; have EY42 := Lib.hid (EZ41.out.below (hb.mono (by omega))); clear BZ41 CZ41 OZ41 EZ41 zZ41 hg hb own)
  rw [rounds_succ]
  obtain ⟨X45, hX⟩ : ∃ X45, X45 = Y42.alloc (.cells #[.string ⟨#[112, 117, 108, 108]⟩, .func (.func 132) #[] #[]] 121) := ⟨_, rfl⟩
  have bX : Below Y42.heap.size Y42 X45 := by rw [hX]; exact (Below.refl _ _).alloc (Nat.le_refl _) _
  have FX45 : Hid (X45.heap[Y42.heap.size]? = some (.cells #[.string ⟨#[112, 117, 108, 108]⟩, .func (.func 132) #[] #[]] 121 (0, 0))) := Lib.hid (by rw [hX]; exact heap_alloc_new _ _)
  have hXs : Hid (X45.heap.size = Y42.heap.size + 1) := Lib.hid (by rw [hX]; simp)
  have zF : w.heap.size < Y42.heap.size := zY42
  have zX45 := Nat.lt_of_lt_of_le zY42 (bX).size
  have BX45 := Lib.hid (BY42.out.trans ((bX).mono (Nat.le_of_lt zY42)))
  have CX45 := Lib.hid (((bX).block _ zY42).trans CY42.out)
  have OX45 := Lib.hid (row_below OY42.out (bX))
  have EX45 := Lib.hid (EY42.out.below ((bX).mono (by omega)))
  clear BY42 CY42 OY42 EY42 zY42
  clear bX
  go_wp2_with (at_builtin; rw [← hX]; refine wpList_appS rfl _ _ 74 rfl (w.heap.size + 1) 9 i0 _ 16 Tryz.underlying74 hi0 hz0 hz1 hz2 rfl (.slice (some ⟨g43, 0, none⟩) 10 p44) 10 _ (.string ⟨#[112, 117, 108, 108]⟩) rfl rfl OX45.out _ rfl (Y42.heap.size + 1) hXs.out rfl (by omega) (by decide) zX45 ?_; intro v' Y46 own hg hb; obtain ⟨g47, p48, rfl⟩ := ownsRow_succ own; have zY46 : w.heap.size < Y46.heap.size := Nat.lt_of_lt_of_le zX45 hb.size; have BY46 := Lib.hid (BX45.out.trans (hb.mono (Nat.le_succ _))); have CY46 := Lib.hid ((hb.block _ (Nat.lt_succ_self _)).trans CX45.out); have OY46 : Hid (Y46.ownsRow (w.heap.size + 1) 9 1 (.slice (some ⟨g47, 0, none⟩) 11 p48) 11 [.string ⟨#[99, 114, 97, 102, 116]⟩, .string (S (Lib.itoa c.ad)), .string ⟨#[97, 116]⟩, .string (S (Lib.itoa c.p.x)), .string (S (Lib.itoa c.p.y)), .string (S (Lib.itoa c.p.z)), .string ⟨#[109, 111, 118, 105, 110, 103]⟩, .string (S (Lib.itoa c.v.x)), .string (S (Lib.itoa c.v.y)), .string (S (Lib.itoa c.v.z)), .string ⟨#[112, 117, 108, 108]⟩]) := Lib.hid own; have EY46 := Lib.hid (EX45.out.below (hb.mono (by omega))); have FY46 := Lib.hid ((hg.block _ (Nat.lt_of_lt_of_le (heap_lt FX45.out) (World.grownBy_alloc _ _ none).size) (own_ne1 OX45.out FX45.out (by decide))).trans ((Below.heap_alloc _ _ _ (heap_lt FX45.out)).trans FX45.out)); clear FX45; have fc : Y46.cell? ⟨Y42.heap.size, 1, none⟩ = some (.func (.func 132) #[] #[]) := (by simp [World.cell?, FY46.out]); clear BX45 CX45 OX45 EX45 zX45 hg hb own)
  clear hX hXs
  refine (field7 w.heap.size _).mono ?_
  rintro e wS ⟨rfl, rfl⟩
  have kc : Y46.cell? ⟨w.heap.size, 7, none⟩ = some (.int .i64 c.pu) := by simp [World.cell?, CY46.out]
  go_wp2_with fail
  refine (itoa60 c.pu s7 K Y46 EY46.out).mono ?_
  rintro e Z49 ⟨rfl, hb⟩
  clear kc fc FY46 zF
  have zZ49 := Nat.lt_of_lt_of_le zY46 (hb).size
  have BZ49 := Lib.hid (BY46.out.trans ((hb).mono (Nat.le_of_lt zY46)))
  have CZ49 := Lib.hid (((hb).block _ zY46).trans CY46.out)
  have OZ49 := Lib.hid (row_below OY46.out (hb))
  have EZ49 := Lib.hid (EY46.out.below ((hb).mono (by omega)))
  clear BY46 CY46 OY46 EY46 zY46
  clear hb
  go_wp2_with (at_builtin; refine wpList_appS rfl _ _ 74 rfl (w.heap.size + 1) 9 i0 _ 16 Tryz.underlying74 hi0 hz0 hz1 hz2 rfl (.slice (some ⟨g47, 0, none⟩) 11 p48) 11 _ (.string (S (Lib.itoa c.pu))) rfl rfl OZ49.out _ rfl (Z49.heap.size) rfl rfl (by omega) (by decide) zZ49 ?_; intro v' Y50 own hg hb; obtain ⟨g51, p52, rfl⟩ := ownsRow_succ own; have zY50 : w.heap.size < Y50.heap.size := Nat.lt_of_lt_of_le zZ49 hb.size; have BY50 := Lib.hid (BZ49.out.trans (hb.mono (Nat.le_succ _))); have CY50 := Lib.hid ((hb.block _ (Nat.lt_succ_self _)).trans CZ49.out); have OY50 : Hid (Y50.ownsRow (w.heap.size + 1) 9 1 (.slice (some ⟨g51, 0, none⟩) 12 p52) 12 [.string ⟨#[99, 114, 97, 102, 116]⟩, .string (S (Lib.itoa c.ad)), .string ⟨#[97, 116]⟩, .string (S (Lib.itoa c.p.x)), .string (S (Lib.itoa c.p.y)), .string (S (Lib.itoa c.p.z)), .string ⟨#[109, 111, 118, 105, 110, 103]⟩, .string (S (Lib.itoa c.v.x)), .string (S (Lib.itoa c.v.y)), .string (S (Lib.itoa c.v.z)), .string ⟨#[112, 117, 108, 108]⟩, .string (S (Lib.itoa c.pu))]) := Lib.hid own; have EY50 := Lib.hid (EZ49.out.below (hb.mono (by omega))); clear BZ49 CZ49 OZ49 EZ49 zZ49 hg hb own)
  rw [rounds_succ]
  obtain ⟨X53, hX⟩ : ∃ X53, X53 = Y50.alloc (.cells #[.string ⟨#[109, 111, 100, 101, 32, 112, 105, 108, 111, 116]⟩, .func (.func 133) #[] #[]] 121) := ⟨_, rfl⟩
  have bX : Below Y50.heap.size Y50 X53 := by rw [hX]; exact (Below.refl _ _).alloc (Nat.le_refl _) _
  have FX53 : Hid (X53.heap[Y50.heap.size]? = some (.cells #[.string ⟨#[109, 111, 100, 101, 32, 112, 105, 108, 111, 116]⟩, .func (.func 133) #[] #[]] 121 (0, 0))) := Lib.hid (by rw [hX]; exact heap_alloc_new _ _)
  have hXs : Hid (X53.heap.size = Y50.heap.size + 1) := Lib.hid (by rw [hX]; simp)
  have zF : w.heap.size < Y50.heap.size := zY50
  have zX53 := Nat.lt_of_lt_of_le zY50 (bX).size
  have BX53 := Lib.hid (BY50.out.trans ((bX).mono (Nat.le_of_lt zY50)))
  have CX53 := Lib.hid (((bX).block _ zY50).trans CY50.out)
  have OX53 := Lib.hid (row_below OY50.out (bX))
  have EX53 := Lib.hid (EY50.out.below ((bX).mono (by omega)))
  clear BY50 CY50 OY50 EY50 zY50
  clear bX
  go_wp2_with fail
  rw [← hX]
  clear hX hXs
  have kd : X53.drew.heap[w.heap.size]? = some (.cells #[.int .i64 c.ad, .int .i64 c.p.x, .int .i64 c.p.y, .int .i64 c.p.z, .int .i64 c.v.x, .int .i64 c.v.y, .int .i64 c.v.z, .int .i64 c.pu, .slice LA c.lg.length lcap, .int .u8 c.mo, .int .i64 c.de, .int .i64 c.pp, .int .i64 c.mi] 63 (0, 0)) := CX53.out
  refine wp_region_held_drew (S := fun w' => w'.heap[w.heap.size]? = some (.cells #[.int .i64 c.ad, .int .i64 c.p.x, .int .i64 c.p.y, .int .i64 c.p.z, .int .i64 c.v.x, .int .i64 c.v.y, .int .i64 c.v.z, .int .i64 c.pu, .slice LA c.lg.length lcap, .int .u8 c.mo, .int .i64 c.de, .int .i64 c.pp, .int .i64 c.mi] 63 (0, 0))) (by kernel_rfl) kd (fun hS => ?_)
  refine wpAnyH_take (i := 0) (v := ?v0) rfl (by kernel_rfl) (by kernel_rfl) (by kernel_rfl) (fun _ _ _ h => h) (Or.inl ⟨by rfl, ?h0⟩) hS ?r0
  case h0 =>
    intro w1 hSw
    have z9 : w1.cell? ⟨w.heap.size, 9, none⟩ = some (.int .u8 c.mo) := by simp [World.cell?, hSw]
    clear hSw
    go_simp
    try with_reducible rfl
  (try simp only [Act.put])
  refine wpAnyH_take (i := 2) (v := ?v2) rfl (by kernel_rfl) (by kernel_rfl) (by kernel_rfl) (fun _ _ _ h => h) (Or.inl ⟨by rfl, ?h2⟩) hS ?r2
  case h2 =>
    intro w1 hSw
    have z9 : w1.cell? ⟨w.heap.size, 9, none⟩ = some (.int .u8 c.mo) := by simp [World.cell?, hSw]
    clear hSw
    go_simp
    try with_reducible rfl
  (try simp only [Act.put])
  refine wpAnyH_take (i := 3) (v := ?v3) rfl (by kernel_rfl) (by kernel_rfl) (by kernel_rfl) (fun _ _ _ h => h) (Or.inl ⟨by rfl, ?h3⟩) hS ?r3
  case h3 =>
    intro w1 hSw
    have z9 : w1.cell? ⟨w.heap.size, 9, none⟩ = some (.int .u8 c.mo) := by simp [World.cell?, hSw]
    clear hSw
    go_simp
    try with_reducible rfl
  (try simp only [Act.put])
  refine wpAnyH_ready (rs := [1]) (by kernel_rfl) (by simp) (AllReadyH.cons rfl (fun K hK => ?_) AllReadyH.nil)
  go_simp
  refine (modes93 X53.drew).mono ?_
  rintro e M55 ⟨rfl, hM⟩
  have hM1 : M55.heap[X53.heap.size]? = some (.cells (wordsV [w_none, w_tables, w_rules]) 9 (0, 0)) := by rw [← hM]; exact heap_alloc_new _ _
  have hMb : Below X53.heap.size X53 M55 := by rw [← hM]; exact (Below.refl _ _).drew.alloc (Nat.le_refl _) _
  have hSm : M55.heap[w.heap.size]? = some (.cells #[.int .i64 c.ad, .int .i64 c.p.x, .int .i64 c.p.y, .int .i64 c.p.z, .int .i64 c.v.x, .int .i64 c.v.y, .int .i64 c.v.z, .int .i64 c.pu, .slice LA c.lg.length lcap, .int .u8 c.mo, .int .i64 c.de, .int .i64 c.pp, .int .i64 c.mi] 63 (0, 0)) := (hMb.block _ zX53).trans CX53.out
  have hcm : M55.cell? ⟨X53.heap.size, c.mo.toNat, none⟩ = some (.string (S (moW c.mo))) := words_at hM1 (moW_at m0 m2)
  clear hM
  have zM55 := Nat.lt_of_lt_of_le zX53 (hMb).size
  have BM55 := Lib.hid (BX53.out.trans ((hMb).mono (Nat.le_of_lt zX53)))
  have CM55 := Lib.hid (((hMb).block _ zX53).trans CX53.out)
  have OM55 := Lib.hid (row_below OX53.out (hMb))
  have EM55 := Lib.hid (EX53.out.below ((hMb).mono (by omega)))
  have FM55 := Lib.hid (((hMb).block _ (heap_lt FX53.out)).trans FX53.out)
  clear FX53
  clear BX53 CX53 OX53 EX53 zX53
  clear hMb
  refine hK.out _ _ hSm (fun hS => ?_)
  clear hK K
  have q3 : c.mo < 3 := by omega
  refine wpAnyH_ready (rs := [4]) (by kernel_rfl) (by simp) (AllReadyH.cons rfl (fun K hK => ?_) AllReadyH.nil)
  go_simp
  refine hK.out _ _ hS (fun hS => ?_)
  clear hK K
  refine wpAnyH_ready (rs := [5]) (by kernel_rfl) (by simp) (AllReadyH.cons rfl (fun K hK => ?_) AllReadyH.nil)
  go_simp
  refine hK.out _ _ hS (fun hS => ?_)
  clear hK K
  refine wpAnyH_ready (rs := [6]) (by kernel_rfl) (by simp) (AllReadyH.cons rfl (fun K hK => ?_) AllReadyH.nil)
  go_simp
  refine hK.out _ _ ((Below.heap_alloc _ _ _ (heap_lt hS)).trans hS) (fun hS => ?_)
  clear hK K
  refine wpAnyH_ready (rs := [7]) (by kernel_rfl) (by simp) (AllReadyH.cons rfl (fun K hK => ?_) AllReadyH.nil)
  rw [if_pos (by kernel_rfl)]
  refine wp_append_own _ _ _ 74 rfl (w.heap.size + 1) 9 i0 _ 1 16 Tryz.underlying74 hi0 hz0 hz1 hz2 rfl (by decide) (.slice (some ⟨g51, 0, none⟩) 12 p52) 12 _ rfl (World.ownsRow.alloc OM55.out _) ⟨M55.heap.size, 0, none⟩ 3 3 [.string ⟨#[109, 111, 100, 101]⟩, .string (S (moW c.mo)), .string ⟨#[112, 105, 108, 111, 116]⟩] rfl rfl (World.news_of_block (cs := #[.string ⟨#[109, 111, 100, 101]⟩, .string (S (moW c.mo)), .string ⟨#[112, 105, 108, 111, 116]⟩]) (heap_alloc_new M55 _)) (by simp [Value.oneCell']) (by unfold maxLen; omega) (by omega) (by have := zM55; simp; omega) ?_
  intro v' Y54 own hg _
  obtain ⟨g56, p57, rfl⟩ := ownsRow_succ own
  have hb : Below (w.heap.size + 1) M55 Y54 := ((Below.refl _ _).alloc (Nat.succ_le_of_lt zM55) _).grown hg (by have := zM55; simp; omega) (fun k hk => (OM55.out.lt k hk).1)
  have zY54 : w.heap.size < Y54.heap.size := Nat.lt_of_lt_of_le zM55 hb.size
  have BY54 := Lib.hid (BM55.out.trans (hb.mono (Nat.le_succ _)))
  have CY54 := Lib.hid ((hb.block _ (Nat.lt_succ_self _)).trans CM55.out)
  have OY54 : Hid (Y54.ownsRow (w.heap.size + 1) 9 1 (.slice (some ⟨g56, 0, none⟩) 15 p57) 15 [.string ⟨#[99, 114, 97, 102, 116]⟩, .string (S (Lib.itoa c.ad)), .string ⟨#[97, 116]⟩, .string (S (Lib.itoa c.p.x)), .string (S (Lib.itoa c.p.y)), .string (S (Lib.itoa c.p.z)), .string ⟨#[109, 111, 118, 105, 110, 103]⟩, .string (S (Lib.itoa c.v.x)), .string (S (Lib.itoa c.v.y)), .string (S (Lib.itoa c.v.z)), .string ⟨#[112, 117, 108, 108]⟩, .string (S (Lib.itoa c.pu)), .string ⟨#[109, 111, 100, 101]⟩, .string (S (moW c.mo)), .string ⟨#[112, 105, 108, 111, 116]⟩]) := Lib.hid own
  have EY54 := Lib.hid (EM55.out.below (hb.mono (by omega)))
  have FY54 := Lib.hid ((hg.block _ (Nat.lt_of_lt_of_le (heap_lt FM55.out) (World.grownBy_alloc _ _ none).size) (own_ne1 OM55.out FM55.out (by decide))).trans ((Below.heap_alloc _ _ _ (heap_lt FM55.out)).trans FM55.out))
  have fc : Y54.cell? ⟨Y50.heap.size, 1, none⟩ = some (.func (.func 133) #[] #[]) := by simp [World.cell?, FY54.out]
  have hSy : Y54.heap[w.heap.size]? = some (.cells #[.int .i64 c.ad, .int .i64 c.p.x, .int .i64 c.p.y, .int .i64 c.p.z, .int .i64 c.v.x, .int .i64 c.v.y, .int .i64 c.v.z, .int .i64 c.pu, .slice LA c.lg.length lcap, .int .u8 c.mo, .int .i64 c.de, .int .i64 c.pp, .int .i64 c.mi] 63 (0, 0)) := CY54.out
  clear FM55 BM55 CM55 OM55 EM55 zM55 hg hb own hcm hM1 hSm
  refine hK.out _ _ hSy (fun hS => ?_)
  clear hK K
  refine wpAnyH_ready (rs := [8]) (by kernel_rfl) (by simp) (AllReadyH.cons rfl (fun K hK => ?_) AllReadyH.nil)
  go_simp
  refine hK.out _ _ hS (fun _ => ?_)
  clear hK K
  refine wpAnyH_done (by kernel_rfl) ?_ _
  clear hSy hS kd q3
  go_wp2_with fail
  refine (field8 w.heap.size _).mono ?_
  rintro e wS ⟨rfl, rfl⟩
  have kc : Y54.cell? ⟨w.heap.size, 10, none⟩ = some (.int .i64 c.de) := by simp [World.cell?, CY54.out]
  go_wp2_with fail
  refine (itoa60 c.de s8 K Y54 EY54.out).mono ?_
  rintro e Z58 ⟨rfl, hb⟩
  clear kc fc FY54 zF
  have zZ58 := Nat.lt_of_lt_of_le zY54 (hb).size
  have BZ58 := Lib.hid (BY54.out.trans ((hb).mono (Nat.le_of_lt zY54)))
  have CZ58 := Lib.hid (((hb).block _ zY54).trans CY54.out)
  have OZ58 := Lib.hid (row_below OY54.out (hb))
  have EZ58 := Lib.hid (EY54.out.below ((hb).mono (by omega)))
  clear BY54 CY54 OY54 EY54 zY54
  clear hb
  go_wp2_with (at_builtin; refine wpList_appS rfl _ _ 74 rfl (w.heap.size + 1) 9 i0 _ 16 Tryz.underlying74 hi0 hz0 hz1 hz2 rfl (.slice (some ⟨g56, 0, none⟩) 15 p57) 15 _ (.string (S (Lib.itoa c.de))) rfl rfl OZ58.out _ rfl (Z58.heap.size) rfl rfl (by omega) (by decide) zZ58 ?_; intro v' Y59 own hg hb; obtain ⟨g60, p61, rfl⟩ := ownsRow_succ own; have zY59 : w.heap.size < Y59.heap.size := Nat.lt_of_lt_of_le zZ58 hb.size; have BY59 := Lib.hid (BZ58.out.trans (hb.mono (Nat.le_succ _))); have CY59 := Lib.hid ((hb.block _ (Nat.lt_succ_self _)).trans CZ58.out); have OY59 : Hid (Y59.ownsRow (w.heap.size + 1) 9 1 (.slice (some ⟨g60, 0, none⟩) 16 p61) 16 [.string ⟨#[99, 114, 97, 102, 116]⟩, .string (S (Lib.itoa c.ad)), .string ⟨#[97, 116]⟩, .string (S (Lib.itoa c.p.x)), .string (S (Lib.itoa c.p.y)), .string (S (Lib.itoa c.p.z)), .string ⟨#[109, 111, 118, 105, 110, 103]⟩, .string (S (Lib.itoa c.v.x)), .string (S (Lib.itoa c.v.y)), .string (S (Lib.itoa c.v.z)), .string ⟨#[112, 117, 108, 108]⟩, .string (S (Lib.itoa c.pu)), .string ⟨#[109, 111, 100, 101]⟩, .string (S (moW c.mo)), .string ⟨#[112, 105, 108, 111, 116]⟩, .string (S (Lib.itoa c.de))]) := Lib.hid own; have EY59 := Lib.hid (EZ58.out.below (hb.mono (by omega))); clear BZ58 CZ58 OZ58 EZ58 zZ58 hg hb own)
  rw [rounds_succ]
  obtain ⟨X62, hX⟩ : ∃ X62, X62 = Y59.alloc (.cells #[.string ⟨#[]⟩, .func (.func 134) #[] #[]] 121) := ⟨_, rfl⟩
  have bX : Below Y59.heap.size Y59 X62 := by rw [hX]; exact (Below.refl _ _).alloc (Nat.le_refl _) _
  have FX62 : Hid (X62.heap[Y59.heap.size]? = some (.cells #[.string ⟨#[]⟩, .func (.func 134) #[] #[]] 121 (0, 0))) := Lib.hid (by rw [hX]; exact heap_alloc_new _ _)
  have hXs : Hid (X62.heap.size = Y59.heap.size + 1) := Lib.hid (by rw [hX]; simp)
  have zF : w.heap.size < Y59.heap.size := zY59
  have zX62 := Nat.lt_of_lt_of_le zY59 (bX).size
  have BX62 := Lib.hid (BY59.out.trans ((bX).mono (Nat.le_of_lt zY59)))
  have CX62 := Lib.hid (((bX).block _ zY59).trans CY59.out)
  have OX62 := Lib.hid (row_below OY59.out (bX))
  have EX62 := Lib.hid (EY59.out.below ((bX).mono (by omega)))
  clear BY59 CY59 OY59 EY59 zY59
  clear bX
  go_wp2_with fail
  rw [← hX]
  have fc : X62.cell? ⟨Y59.heap.size, 1, none⟩ = some (.func (.func 134) #[] #[]) := by simp [World.cell?, FX62.out]
  clear hX hXs
  refine (field9 w.heap.size _).mono ?_
  rintro e wS ⟨rfl, rfl⟩
  have kc : X62.cell? ⟨w.heap.size, 11, none⟩ = some (.int .i64 c.pp) := by simp [World.cell?, CX62.out]
  go_wp2_with fail
  refine (itoa60 c.pp s9 K X62 EX62.out).mono ?_
  rintro e Z63 ⟨rfl, hb⟩
  clear kc fc FX62 zF
  have zZ63 := Nat.lt_of_lt_of_le zX62 (hb).size
  have BZ63 := Lib.hid (BX62.out.trans ((hb).mono (Nat.le_of_lt zX62)))
  have CZ63 := Lib.hid (((hb).block _ zX62).trans CX62.out)
  have OZ63 := Lib.hid (row_below OX62.out (hb))
  have EZ63 := Lib.hid (EX62.out.below ((hb).mono (by omega)))
  clear BX62 CX62 OX62 EX62 zX62
  clear hb
  go_wp2_with (at_builtin; refine wpList_appS rfl _ _ 74 rfl (w.heap.size + 1) 9 i0 _ 16 Tryz.underlying74 hi0 hz0 hz1 hz2 rfl (.slice (some ⟨g60, 0, none⟩) 16 p61) 16 _ (.string (S (Lib.itoa c.pp))) rfl rfl OZ63.out _ rfl (Z63.heap.size) rfl rfl (by omega) (by decide) zZ63 ?_; intro v' Y64 own hg hb; obtain ⟨g65, p66, rfl⟩ := ownsRow_succ own; have zY64 : w.heap.size < Y64.heap.size := Nat.lt_of_lt_of_le zZ63 hb.size; have BY64 := Lib.hid (BZ63.out.trans (hb.mono (Nat.le_succ _))); have CY64 := Lib.hid ((hb.block _ (Nat.lt_succ_self _)).trans CZ63.out); have OY64 : Hid (Y64.ownsRow (w.heap.size + 1) 9 1 (.slice (some ⟨g65, 0, none⟩) 17 p66) 17 [.string ⟨#[99, 114, 97, 102, 116]⟩, .string (S (Lib.itoa c.ad)), .string ⟨#[97, 116]⟩, .string (S (Lib.itoa c.p.x)), .string (S (Lib.itoa c.p.y)), .string (S (Lib.itoa c.p.z)), .string ⟨#[109, 111, 118, 105, 110, 103]⟩, .string (S (Lib.itoa c.v.x)), .string (S (Lib.itoa c.v.y)), .string (S (Lib.itoa c.v.z)), .string ⟨#[112, 117, 108, 108]⟩, .string (S (Lib.itoa c.pu)), .string ⟨#[109, 111, 100, 101]⟩, .string (S (moW c.mo)), .string ⟨#[112, 105, 108, 111, 116]⟩, .string (S (Lib.itoa c.de)), .string (S (Lib.itoa c.pp))]) := Lib.hid own; have EY64 := Lib.hid (EZ63.out.below (hb.mono (by omega))); clear BZ63 CZ63 OZ63 EZ63 zZ63 hg hb own)
  rw [rounds_succ]
  obtain ⟨X67, hX⟩ : ∃ X67, X67 = Y64.alloc (.cells #[.string ⟨#[]⟩, .func (.func 135) #[] #[]] 121) := ⟨_, rfl⟩
  have bX : Below Y64.heap.size Y64 X67 := by rw [hX]; exact (Below.refl _ _).alloc (Nat.le_refl _) _
  have FX67 : Hid (X67.heap[Y64.heap.size]? = some (.cells #[.string ⟨#[]⟩, .func (.func 135) #[] #[]] 121 (0, 0))) := Lib.hid (by rw [hX]; exact heap_alloc_new _ _)
  have hXs : Hid (X67.heap.size = Y64.heap.size + 1) := Lib.hid (by rw [hX]; simp)
  have zF : w.heap.size < Y64.heap.size := zY64
  have zX67 := Nat.lt_of_lt_of_le zY64 (bX).size
  have BX67 := Lib.hid (BY64.out.trans ((bX).mono (Nat.le_of_lt zY64)))
  have CX67 := Lib.hid (((bX).block _ zY64).trans CY64.out)
  have OX67 := Lib.hid (row_below OY64.out (bX))
  have EX67 := Lib.hid (EY64.out.below ((bX).mono (by omega)))
  clear BY64 CY64 OY64 EY64 zY64
  clear bX
  go_wp2_with fail
  rw [← hX]
  have fc : X67.cell? ⟨Y64.heap.size, 1, none⟩ = some (.func (.func 135) #[] #[]) := by simp [World.cell?, FX67.out]
  clear hX hXs
  refine (field10 w.heap.size _).mono ?_
  rintro e wS ⟨rfl, rfl⟩
  have kc : X67.cell? ⟨w.heap.size, 12, none⟩ = some (.int .i64 c.mi) := by simp [World.cell?, CX67.out]
  go_wp2_with fail
  refine (itoa60 c.mi s10 K X67 EX67.out).mono ?_
  rintro e Z68 ⟨rfl, hb⟩
  clear kc fc FX67 zF
  have zZ68 := Nat.lt_of_lt_of_le zX67 (hb).size
  have BZ68 := Lib.hid (BX67.out.trans ((hb).mono (Nat.le_of_lt zX67)))
  have CZ68 := Lib.hid (((hb).block _ zX67).trans CX67.out)
  have OZ68 := Lib.hid (row_below OX67.out (hb))
  have EZ68 := Lib.hid (EX67.out.below ((hb).mono (by omega)))
  clear BX67 CX67 OX67 EX67 zX67
  clear hb
  go_wp2_with (at_builtin; refine wpList_appS rfl _ _ 74 rfl (w.heap.size + 1) 9 i0 _ 16 Tryz.underlying74 hi0 hz0 hz1 hz2 rfl (.slice (some ⟨g65, 0, none⟩) 17 p66) 17 _ (.string (S (Lib.itoa c.mi))) rfl rfl OZ68.out _ rfl (Z68.heap.size) rfl rfl (by omega) (by decide) zZ68 ?_; intro v' Y69 own hg hb; obtain ⟨g70, p71, rfl⟩ := ownsRow_succ own; have zY69 : w.heap.size < Y69.heap.size := Nat.lt_of_lt_of_le zZ68 hb.size; have BY69 := Lib.hid (BZ68.out.trans (hb.mono (Nat.le_succ _))); have CY69 := Lib.hid ((hb.block _ (Nat.lt_succ_self _)).trans CZ68.out); have OY69 : Hid (Y69.ownsRow (w.heap.size + 1) 9 1 (.slice (some ⟨g70, 0, none⟩) 18 p71) 18 [.string ⟨#[99, 114, 97, 102, 116]⟩, .string (S (Lib.itoa c.ad)), .string ⟨#[97, 116]⟩, .string (S (Lib.itoa c.p.x)), .string (S (Lib.itoa c.p.y)), .string (S (Lib.itoa c.p.z)), .string ⟨#[109, 111, 118, 105, 110, 103]⟩, .string (S (Lib.itoa c.v.x)), .string (S (Lib.itoa c.v.y)), .string (S (Lib.itoa c.v.z)), .string ⟨#[112, 117, 108, 108]⟩, .string (S (Lib.itoa c.pu)), .string ⟨#[109, 111, 100, 101]⟩, .string (S (moW c.mo)), .string ⟨#[112, 105, 108, 111, 116]⟩, .string (S (Lib.itoa c.de)), .string (S (Lib.itoa c.pp)), .string (S (Lib.itoa c.mi))]) := Lib.hid own; have EY69 := Lib.hid (EZ68.out.below (hb.mono (by omega))); clear BZ68 CZ68 OZ68 EZ68 zZ68 hg hb own)
  rw [rounds_succ]
  go_wp2_with fail
  go_ret
  obtain ⟨gq, cq, hv, q1, q2, q3⟩ := row_words (ws := crL c) (by rw [show (crL c).map (fun x => Value.string (S x)) = [.string ⟨#[99, 114, 97, 102, 116]⟩, .string (S (Lib.itoa c.ad)), .string ⟨#[97, 116]⟩, .string (S (Lib.itoa c.p.x)), .string (S (Lib.itoa c.p.y)), .string (S (Lib.itoa c.p.z)), .string ⟨#[109, 111, 118, 105, 110, 103]⟩, .string (S (Lib.itoa c.v.x)), .string (S (Lib.itoa c.v.y)), .string (S (Lib.itoa c.v.z)), .string ⟨#[112, 117, 108, 108]⟩, .string (S (Lib.itoa c.pu)), .string ⟨#[109, 111, 100, 101]⟩, .string (S (moW c.mo)), .string ⟨#[112, 105, 108, 111, 116]⟩, .string (S (Lib.itoa c.de)), .string (S (Lib.itoa c.pp)), .string (S (Lib.itoa c.mi))] from rfl]; exact OY69.out) (by simp [crL, crP, writeP])
  exact ⟨⟨gq, cq, by rw [← hv]; rfl, q1, q2, q3⟩, BY69.out⟩
end Go.Proofs.YtnnnpliigdfipaaGreatDoor
