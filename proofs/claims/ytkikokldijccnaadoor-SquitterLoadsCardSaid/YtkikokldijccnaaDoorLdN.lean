/- squitter's reference: numbers. -/
import Derived.Test.YtkikokldijccnaaDoorRows
import Derived.WalkKit
import Derived.WalkLawsBesides
import Derived.WalkSpells
import Derived.ProofKit
import Derived.Below
import Derived.Outline
import Derived.Lib.Hide
import Derived.Deep.RegionWith
import Derived.Deep.RegionHeld3
import Derived.Deep.DrawnRows
import Derived.StillTailTactics
import Derived.BigQuiet
import Derived.Deep.QuietTactic
import Derived.Deep.LoopGhost
import Derived.IntWalk
import Derived.BigQuiet
import Derived.Laws.Strings3
import Derived.Test.YtkikokldijccnaaDoorSqLq
import Derived.Test.YtkikokldijccnaaDoorKR
namespace Go.Proofs.YtkikokldijccnaaDoor
open Go.RowKit Go.Maps
attribute [local go_sem ↓] Go.wp_at_zero Go.wp_at_succ
attribute [local go_sem] wrap_lit
attribute [local go_sem] S_size

theorem R_info : (Tryd.prog.info? 38).map (fun i => (i.zero, i.size, i.bytes)) = some (some (.slice none 0 0), 1, 24) := by kernel_rfl
theorem idx_run (l : Tx) (k : Nat) (hk : k < l.length) (c : Int) (hc : c = (l[k].toNat : Int)) (W : World) : (Instr.index 9 (.string (S l)) (.int .i64 (k : Int))).run Tryd.prog W = .ok (.int .u8 c) W := by
  have h : 0 ≤ (k : Int) ∧ (k : Int) < (S l).size := by rw [S_size]; omega
  rw [run_index_string (h := Tryd.underlying9), dif_pos h]
  subst hc
  rfl
/-- the scan under way -/
def ScI (s : Tx) (k : Nat) (out : List (List Int)) (line : List Int) (n : Int) (dg : Bool) : Prop := scanR (s.drop k) out line n dg = scanR s [] [] 0 false
theorem scan_at {s : Tx} {k : Nat} (hk : k < s.length) (out : List (List Int)) (line : List Int) (n : Int) (dg : Bool) : scanR (s.drop k) out line n dg =
    if 48 ≤ s[k].toNat ∧ s[k].toNat ≤ 57 then (if (dg = true ∧ n = 0) ∨ 2147483648 < n then none else scanR (s.drop (k + 1)) out line (10 * n + (s[k].toNat - 48 : Int)) true)
    else if s[k] = 32 ∧ dg = true then scanR (s.drop (k + 1)) out (line ++ [n]) 0 false
    else if s[k] = 10 ∧ dg = true then scanR (s.drop (k + 1)) (out ++ [line ++ [n]]) [] 0 false
    else none := by
  rw [List.drop_eq_getElem_cons hk, scanR]
section
variable {s : Tx} {k : Nat} {out : List (List Int)} {line : List Int} {n c : Int} {dg : Bool}
theorem u8_of {x : UInt8} {m : Nat} (hm : m < 256) (h : x.toNat = m) : x = UInt8.ofNat m := by
  apply UInt8.toNat_inj.1
  rw [UInt8.toNat_ofNat', h, Nat.mod_eq_of_lt (by simpa using hm)]
theorem Sc_dig (hk : k < s.length) (h : ScI s k out line n dg) (hc : c = (s[k].toNat : Int)) (h1 : 48 ≤ c) (h2 : c ≤ 57) (h3 : ¬ (dg = true ∧ n = 0)) (h4 : n ≤ 2147483648) : ScI s (k + 1) out line (10 * n + (c - 48)) true := by
  unfold ScI at h ⊢
  rw [scan_at hk, if_pos (by omega), if_neg (by rintro (g | g); exact h3 g; omega)] at h
  rw [hc]; exact h
theorem Sc_digbad (hk : k < s.length) (h : ScI s k out line n dg) (hc : c = (s[k].toNat : Int)) (h1 : 48 ≤ c) (h2 : c ≤ 57) (h3 : (dg = true ∧ n = 0) ∨ 2147483648 < n) : scanR s [] [] 0 false = none := by
  unfold ScI at h
  rw [scan_at hk, if_pos (by omega), if_pos h3] at h
  exact h.symm
theorem Sc_sp (hk : k < s.length) (h : ScI s k out line n true) (hc : c = (s[k].toNat : Int)) (h1 : c = 32) : ScI s (k + 1) out (line ++ [n]) 0 false := by
  unfold ScI at h ⊢
  have e : s[k] = 32 := u8_of (m := 32) (by decide) (by omega)
  rw [scan_at hk, if_neg (by omega), if_pos ⟨e, rfl⟩] at h
  exact h
theorem Sc_nl (hk : k < s.length) (h : ScI s k out line n true) (hc : c = (s[k].toNat : Int)) (h1 : c = 10) : ScI s (k + 1) (out ++ [line ++ [n]]) [] 0 false := by
  unfold ScI at h ⊢
  have e : s[k] = 10 := u8_of (m := 10) (by decide) (by omega)
  rw [scan_at hk, if_neg (by omega), if_neg (by rw [e]; simp), if_pos ⟨e, rfl⟩] at h
  exact h
theorem Sc_bad (hk : k < s.length) (h : ScI s k out line n dg) (hc : c = (s[k].toNat : Int)) (h1 : ¬ (48 ≤ c ∧ c ≤ 57)) (h2 : ¬ (c = 32 ∧ dg = true)) (h3 : ¬ (c = 10 ∧ dg = true)) : scanR s [] [] 0 false = none := by
  unfold ScI at h
  rw [scan_at hk, if_neg (by omega), if_neg (fun g => h2 ⟨by rw [hc, g.1]; rfl, g.2⟩), if_neg (fun g => h3 ⟨by rw [hc, g.1]; rfl, g.2⟩)] at h
  exact h.symm
theorem Sc_end (h : ScI s s.length out line n dg) : scanR s [] [] 0 false = if dg = false ∧ line = [] then some out else none := by
  unfold ScI at h
  rw [List.drop_length, scanR] at h
  exact h.symm
end
/-- rows under way: a slice of rows, all below LB -/
def OutI (w : World) (B LB : Nat) (v : Value) (out : List (List Int)) (vs : List Value) : Prop := vs.length = out.length ∧ w.ownsRow B 38 1 v out.length vs ∧ (∀ g, v.ownBlock = some g → g < LB) ∧ ∀ r, r < vs.length → ∃ g Cr cs, vs[r]? = some (.slice (some ⟨g, 0, none⟩) (row out r).length Cr) ∧ g < LB ∧ w.heap[g]? = some (.cells cs 3 (0, 0)) ∧ ∀ j, j < (row out r).length → cs[j]? = some (.int .i64 (nth (row out r) j))
theorem OutI.nil (w : World) (B LB : Nat) : OutI w B LB (.slice none 0 0) [] [] := ⟨rfl, World.ownsRow_nil _ _ _ _, fun g h => by simp [Value.ownBlock] at h, fun r h => by simp at h⟩
theorem OutI.below {w w' : World} {B LB : Nat} {v : Value} {out : List (List Int)} {vs : List Value} (h : OutI w B LB v out vs) (hb : Below LB w w') : OutI w' B LB v out vs := by
  obtain ⟨h1, ⟨hl, h0 | ⟨g, cap, cur, rfl, hg, hh, hrest⟩⟩, h3, h4⟩ := h
  · exact ⟨h1, ⟨hl, .inl h0⟩, h3, fun r hr => by
      obtain ⟨g, Cr, cs, e1, e2, e3, e4⟩ := h4 r hr
      exact ⟨g, Cr, cs, e1, e2, (hb.block g e2).trans e3, e4⟩⟩
  · exact ⟨h1, ⟨hl, .inr ⟨g, cap, cur, rfl, hg, (hb.block g (h3 g rfl)).trans hh, hrest⟩⟩, h3, fun r hr => by
      obtain ⟨g, Cr, cs, e1, e2, e3, e4⟩ := h4 r hr
      exact ⟨g, Cr, cs, e1, e2, (hb.block g e2).trans e3, e4⟩⟩
theorem row_snoc_lt {out : List (List Int)} {x : List Int} {r : Nat} (h : r < out.length) : row (out ++ [x]) r = row out r := by
  unfold row; rw [List.getD_eq_getElem?_getD, List.getD_eq_getElem?_getD, List.getElem?_append_left h]
theorem row_snoc_at (out : List (List Int)) (x : List Int) : row (out ++ [x]) out.length = x := by
  unfold row; rw [List.getD_eq_getElem?_getD, List.getElem?_append_right (Nat.le_refl _)]; simp
theorem OutI.push {w w2 : World} {B LB g : Nat} {v v' : Value} {out : List (List Int)} {vs : List Value} {x : List Int} {Cr L : Nat} {cs : Array Value} {ob : Obj} (hL : L = x.length) (h : OutI w B LB v out vs) (hg : w.heap[g]? = some (.cells cs 3 (0, 0))) (hx : ∀ j, j < x.length → cs[j]? = some (.int .i64 (nth x j)))
    (hown : w2.ownsRow B 38 1 v' (out.length + 1) (vs ++ [.slice (some ⟨g, 0, none⟩) L Cr])) (hgr : (w.alloc ob).grownBy w2 v.ownBlock) : OutI w2 B w2.heap.size v' (out ++ [x]) (vs ++ [.slice (some ⟨g, 0, none⟩) L Cr]) := by
  subst hL
  obtain ⟨h1, h2, h3, h4⟩ := h
  have keep : ∀ (k : Nat) (cs : Array Value), w.heap[k]? = some (Obj.cells cs 3 (0, 0)) → w2.heap[k]? = some (Obj.cells cs 3 (0, 0)) := fun k cs hk => by
    have e1 : (w.alloc ob).heap[k]? = some (Obj.cells cs 3 (0, 0)) := (Below.heap_alloc _ _ _ (heap_lt hk)).trans hk
    refine (hgr.block k (heap_lt e1) fun e => ?_).trans e1
    rcases h2.2 with ⟨rfl, _⟩ | ⟨g', cap, cur, rfl, _, hgg, _⟩
    · simp [Value.ownBlock] at e
    · obtain rfl : k = g' := by simpa [Value.ownBlock] using e
      rw [hk] at hgg
      injection hgg with e
      injection e with _ e _
      revert e; decide
  refine ⟨by simp [h1], by simpa using hown, fun k hk => (World.ownsRow.lt hown k hk).2, fun r hr => ?_⟩
  rcases Nat.lt_or_ge r vs.length with q | q
  · obtain ⟨gr, Cq, cq, e1, e2, e3, e4⟩ := h4 r q
    rw [row_snoc_lt (by omega)]
    have := keep _ _ e3
    exact ⟨gr, Cq, cq, by rw [List.getElem?_append_left q]; exact e1, heap_lt this, this, e4⟩
  · obtain rfl : r = vs.length := by simp at hr; omega
    have e : row (out ++ [x]) vs.length = x := by rw [h1]; exact row_snoc_at out x
    rw [e]
    have := keep _ _ hg
    exact ⟨g, Cr, cs, by rw [List.getElem?_append_right (Nat.le_refl _)]; simp, heap_lt this, this, hx⟩
theorem OutI.ris {w : World} {B LB : Nat} {v : Value} {out : List (List Int)} {vs : List Value} (h : OutI w B LB v out vs) : ∃ A cap, v = .slice A out.length cap ∧ RIs .i64 w w.heap.size A out := by
  obtain ⟨h1, ⟨hl, h0 | ⟨g, cap, cur, rfl, hg, hh, hnc, hm, hcs, htake⟩⟩, h3, h4⟩ := h
  · obtain ⟨rfl, hn0⟩ := h0
    exact ⟨none, 0, by rw [hn0], fun h => by omega⟩
  · refine ⟨_, _, rfl, fun hn => ⟨g, 0, rfl, heap_lt hh, fun r hr => ?_⟩⟩
    obtain ⟨gr, Cr, cs, e1, e2, e3, e4⟩ := h4 r (by omega)
    refine ⟨_, Cr, ?_, fun _ => ⟨gr, 0, rfl, heap_lt e3, fun j hj => by rw [Nat.zero_add]; exact (cellOf e3).trans (e4 j hj)⟩⟩
    have e : (cur.toList.take (out.length * 1))[r]? = vs[r]? := by rw [htake]
    rw [List.getElem?_take_of_lt (by omega), e1] at e
    rw [Nat.zero_add]
    simp only [World.cell?, hh]
    simpa using e
theorem wpList_appV {P : Program} {ops : Array Oper} {rest : List Oper} {o : Oper} {a : Act} {Q : Exit → Act → World → Prop} {w : World} (hgd : o.guard = none) (s x : Operand) (t : TypeId)
    (ho : o.op = .call { callee := .builtin .append, args := #[s, x], argTypes := #[t, t] })
    (base : Nat) (e : TypeId) (i : TypeInfo) (z : Value) (bytes : Nat) (ht : P.underlying t = some (.slice e)) (hi : P.info? e = some i) (hz : i.zero = some z)
    (hsize : i.size = 1) (hby : i.bytes = bytes) (hzs : z.cells.size = 1)
    (v : Value) (n : Nat) (vs : List Value) (y : Value) (hy : y.oneCell' = true) (hs : a.eval s = v) (hown : w.ownsRow base e 1 v n vs)
    (ob : Obj) (hob : ob = .cells #[y] e) (H : Nat) (hH : w.heap.size = H) (hx : a.eval x = .slice (some ⟨H, 0, none⟩) 1 1)
    (hn : n ≤ 1000000) (hb1 : bytes ≤ 1000) (hbase : base ≤ w.heap.size)
    (h : ∀ v' w', w'.ownsRow base e 1 v' (n + 1) (vs ++ [y]) → (w.alloc ob).grownBy w' v.ownBlock → Below base w w' → wpList P ops Q rest (a.put o.dst v') w') : wpList P ops Q (o :: rest) a (w.alloc ob) := by
  subst hob hH
  have hbytes : (n + 1) * bytes ≤ 1000001 * 1000 := Nat.mul_le_mul (by omega) hb1
  refine wpList_append_own _ hgd s x t ho base e i z 1 bytes ht hi hz hsize hby hzs (by decide) v n _ hs (World.ownsRow.alloc hown _) ⟨w.heap.size, 0, none⟩ 1 1 [y] hx rfl (fun j u hu => ?_) (fun u hu => ?_) (by unfold maxLen; omega) (by omega) (by simp; omega) ?_
  · cases j with
    | zero =>
      obtain rfl : y = u := by simpa using hu
      exact World.cell?_alloc_at _ _ _ _ rfl
    | succ j => simp at hu
  · obtain rfl : u = y := by simpa using hu
    exact hy
  · intro v' w' hown' hg _
    exact h v' w' hown' hg (((Below.refl base w).alloc hbase _).grown hg (by simp; omega) fun g hg' => (World.ownsRow.lt hown g hg').1)
theorem acc_one {w : World} {B : Nat} {v : Value} {n : Nat} {ys : List Int} (h : Acc .i64 w B 3 1 v n ys) (hn : ys ≠ []) : ∃ g cap cs, v = .slice (some ⟨g, 0, none⟩) n cap ∧ B ≤ g ∧ w.heap[g]? = some (.cells cs 3 (0, 0)) ∧ ∀ j, j < ys.length → cs[j]? = some (.int .i64 (nth ys j)) := by
  rcases h.slice with ⟨e, -⟩ | ⟨g, cap, cs, e, h1, h2, -, -, h3⟩
  · exact absurd e hn
  · exact ⟨g, cap, cs, e, h1, h2, h3⟩
/-- what numbers returns -/
def NumR (s : Tx) (w : World) (e : Ending) (w' : World) : Prop := ∃ v b, e = .returned (.tuple #[v, .bool b]) ∧ ((b = true ∧ ∃ L, scanR s [] [] 0 false = some L ∧ ∃ A cap, v = .slice A L.length cap ∧ RIs .i64 w' w'.heap.size A L) ∨ (b = false ∧ scanR s [] [] 0 false = none)) ∧ Below w.heap.size w w'
set_option maxRecDepth 100000 in
set_option maxHeartbeats 8000000 in
theorem numbers50 (s : Tx) (hs : s.length ≤ 100000) (w : World) : Calls Tryd.prog 50 #[.string (S s)] w (NumR s w) := by
  obtain ⟨i0, hi0, hz0, hz1, hz2⟩ := info_parts int_info
  obtain ⟨j0, hj0, jz0, jz1, jz2⟩ := info_parts R_info
  go_enter Tryd.func50, Tryd.ntmps50
  go_wp2_with fail
  go_loopw [4, 5, 6, 7, 8] (fun ov lv nn dd ii wr => ∃ (k LB : Nat) (out : List (List Int)) (vs : List Value) (line : List Int) (n : Int) (dg : Bool), k ≤ s.length ∧ nn = .int .i64 n ∧ dd = .bool dg ∧ ii = .int .i64 k ∧ 0 ≤ n ∧ n ≤ 21474836490 ∧ out.length ≤ k ∧ line.length ≤ k ∧ Hid (ScI s k out line n dg) ∧ Hid (OutI wr w.heap.size LB ov out vs) ∧ Hid (Acc .i64 wr LB 3 1 lv line.length line) ∧ w.heap.size ≤ LB ∧ LB ≤ wr.heap.size ∧ Below w.heap.size w wr) (fun _ _ _ _ ii _ => s.length - (intOf ii).toNat)
  case atStart => exact ⟨0, w.heap.size, [], [], [], 0, false, Nat.zero_le _, rfl, rfl, rfl, Int.le_refl _, by omega, Nat.le_refl _, Nat.le_refl _, Lib.hid (by unfold ScI; rfl), Lib.hid (OutI.nil _ _ _), Lib.hid (Acc.nil _ _ _ _ _), Nat.le_refl _, Nat.le_refl _, Below.refl _ _⟩
  case round =>
    obtain ⟨k, LB, out, vs, line, n, dg, hk, rfl, rfl, rfl, n0, n1, ho, hl, HS, HO, HA, hB0, hB1, hbr⟩ := hrel
    have HBR := Lib.hid hbr
    have hsz := hbr.size
    clear hbr
    by_cases hlt : k < s.length
    · have hltI : (k : Int) < (s.length : Int) := by omega
      obtain ⟨c, hcc⟩ : ∃ c : Int, c = (s[k].toNat : Int) := ⟨_, rfl⟩
      have c0 : 0 ≤ c := by omega
      have c1 : c ≤ 255 := by have := s[k].toNat_lt; omega
      have hix := idx_run s k hlt c hcc
      have HCC := Lib.hid hcc
      clear hcc
      by_cases hd : 48 ≤ c ∧ c ≤ 57
      · obtain ⟨d0, d1⟩ := hd
        have HBAD : Hid ((dg = true ∧ n = 0) ∨ 2147483648 < n → scanR s [] [] 0 false = none) := Lib.hid (Sc_digbad hlt HS.out HCC.out d0 d1)
        have HGO : Hid (¬ (dg = true ∧ n = 0) → n ≤ 2147483648 → ScI s (k + 1) out line (10 * n + (c - 48)) true) := Lib.hid (Sc_dig hlt HS.out HCC.out d0 d1)
        cases dg with
        | false =>
          cases q1 : decide (2147483648 < n) with
          | true =>
            have HX := Lib.hid (HBAD.out (.inr (of_decide_eq_true q1)))
            go_wp2_with fail
            go_ret2
            exact ⟨_, _, rfl, .inr ⟨rfl, HX.out⟩, HBR.out⟩
          | false =>
            have hn2 : n ≤ 2147483648 := by have := of_decide_eq_false q1; omega
            have HX := Lib.hid (HGO.out (by simp) hn2)
            go_wp2_with fail
            exact ⟨⟨k + 1, LB, out, vs, line, 10 * n + (c - 48), true, by omega, rfl, rfl, by go_num, by omega, by omega, by omega, by omega, HX, HO, HA, hB0, hB1, HBR.out⟩, by simp [intOf]; omega⟩
        | true =>
          by_cases hn0 : n = 0
          · have q0 : (n == 0) = true := by rw [hn0]; rfl
            have HX := Lib.hid (HBAD.out (.inl ⟨rfl, hn0⟩))
            clear hn0
            go_wp2_with fail
            go_ret2
            exact ⟨_, _, rfl, .inr ⟨rfl, HX.out⟩, HBR.out⟩
          · have q0 : (n == 0) = false := by rw [beq_eq_false_iff_ne]; exact hn0
            have HN0 := Lib.hid hn0
            clear hn0
            cases q1 : decide (2147483648 < n) with
            | true =>
              have HX := Lib.hid (HBAD.out (.inr (of_decide_eq_true q1)))
              go_wp2_with fail
              go_ret2
              exact ⟨_, _, rfl, .inr ⟨rfl, HX.out⟩, HBR.out⟩
            | false =>
              have hn2 : n ≤ 2147483648 := by have := of_decide_eq_false q1; omega
              have HX := Lib.hid (HGO.out (fun h => HN0.out h.2) hn2)
              go_wp2_with fail
              exact ⟨⟨k + 1, LB, out, vs, line, 10 * n + (c - 48), true, by omega, rfl, rfl, by go_num, by omega, by omega, by omega, by omega, HX, HO, HA, hB0, hB1, HBR.out⟩, by simp [intOf]; omega⟩
      · have HD := Lib.hid hd
        have HBAD : Hid (¬ (c = 32 ∧ dg = true) → ¬ (c = 10 ∧ dg = true) → scanR s [] [] 0 false = none) := Lib.hid (Sc_bad hlt HS.out HCC.out hd)
        clear hd
        have HLO : Hid (c < 48 ∨ 57 < c) := Lib.hid (by have := HD.out; omega)
        by_cases hc : c = 32
        · have q1 : (c == 32) = true := by rw [hc]; rfl
          have q2 : (c == 10) = false := by rw [hc]; rfl
          have q3 : decide (48 ≤ c) = false := by rw [hc]; rfl
          cases dg with
          | true =>
            have HX := Lib.hid (Sc_sp hlt HS.out HCC.out hc)
            clear hc
            go_wp2_with (first
              | (at_builtin; refine wpList_appH rfl _ _ 38 rfl .i64 LB 3 i0 _ 1 8 Tryd.underlying38 hi0 hz0 hz1 hz2 rfl (by decide) _ _ _ [n] rfl HA.out _ rfl wr.heap.size rfl rfl rfl (by omega) (by decide) (by omega) ?_; intro v' w4 hacc4 hb4)
              | go_in)
            exact ⟨⟨k + 1, LB, out, vs, line ++ [n], 0, false, by omega, rfl, rfl, by go_num, Int.le_refl _, by omega, by omega, by simp; omega, HX, Lib.hid (HO.out.below hb4), Lib.hid (by rw [List.length_append]; exact hacc4), hB0, Nat.le_trans hB1 hb4.size, HBR.out.trans (hb4.mono hB0)⟩, by simp [intOf]; omega⟩
          | false =>
            have HX := Lib.hid (HBAD.out (by simp) (by simp))
            clear hc
            go_wp2_with fail
            go_ret2
            exact ⟨_, _, rfl, .inr ⟨rfl, HX.out⟩, HBR.out⟩
        · have q1 : (c == 32) = false := by rw [beq_eq_false_iff_ne]; exact hc
          have HC1 := Lib.hid hc
          clear hc
          by_cases hc : c = 10
          · have q2 : (c == 10) = true := by rw [hc]; rfl
            have q3 : decide (48 ≤ c) = false := by rw [hc]; rfl
            cases dg with
            | true =>
              have HX := Lib.hid (Sc_nl hlt HS.out HCC.out hc)
              clear hc
              go_wp2_with (first
                | (at_builtin; refine wpList_appH rfl _ _ 38 rfl .i64 LB 3 i0 _ 1 8 Tryd.underlying38 hi0 hz0 hz1 hz2 rfl (by decide) _ _ _ [n] rfl HA.out _ rfl wr.heap.size rfl rfl rfl (by omega) (by decide) (by omega) ?_; intro v' w4 hacc4 hb4; obtain ⟨gi, cpi, csi, rfl, hgi, hhi, hci⟩ := acc_one hacc4 (by simp); have HB4 := Lib.hid hb4; have HS4 := Lib.hid (And.intro hhi hci); have hs4 := hb4.size; clear hacc4 hb4 hhi hci)
                | (at_builtin; refine wpList_appV rfl _ _ 86 rfl w.heap.size 38 j0 _ 24 Tryd.underlying86 hj0 jz0 jz1 jz2 rfl _ _ vs (.slice (some ⟨gi, 0, none⟩) (line.length + 1) cpi) rfl rfl (HO.out.below HB4.out).2.1 _ rfl w4.heap.size rfl rfl (by omega) (by decide) (by omega) ?_; intro v2 w6 hown6 hg6 hb6)
                | go_in)
              have HO6 := (HO.out.below HB4.out).push (x := line ++ [n]) (by simp) HS4.out.1 HS4.out.2 hown6 hg6
              exact ⟨⟨k + 1, w6.heap.size, out ++ [line ++ [n]], _, [], 0, false, by omega, rfl, rfl, by go_num, Int.le_refl _, by omega, by simp; omega, by simp, HX, Lib.hid HO6, Lib.hid (Acc.nil _ _ _ _ _), by have := hb6.size; omega, Nat.le_refl _, HBR.out.trans ((HB4.out.mono hB0).trans hb6)⟩, by simp [intOf]; omega⟩
            | false =>
              have HX := Lib.hid (HBAD.out (by simp) (by simp))
              clear hc
              go_wp2_with fail
              go_ret2
              exact ⟨_, _, rfl, .inr ⟨rfl, HX.out⟩, HBR.out⟩
          · have q2 : (c == 10) = false := by rw [beq_eq_false_iff_ne]; exact hc
            have HX := Lib.hid (HBAD.out (fun h => HC1.out h.1) (fun h => hc h.1))
            clear hc
            cases q3 : decide (48 ≤ c) with
            | false =>
              go_wp2_with fail
              go_ret2
              exact ⟨_, _, rfl, .inr ⟨rfl, HX.out⟩, HBR.out⟩
            | true =>
              have q4 : decide (c ≤ 57) = false := decide_eq_false (by have := HLO.out; have := of_decide_eq_true q3; omega)
              go_wp2_with fail
              go_ret2
              exact ⟨_, _, rfl, .inr ⟨rfl, HX.out⟩, HBR.out⟩
    · obtain rfl : k = s.length := by omega
      have HE := Lib.hid (Sc_end HS.out)
      obtain ⟨A, cap, hov, hris⟩ := HO.out.ris
      have HRI := Lib.hid hris
      clear hlt hris
      cases dg with
      | true =>
        go_wp2_with fail
        go_ret2
        exact ⟨_, _, rfl, .inr ⟨rfl, by rw [HE.out]; rfl⟩, HBR.out⟩
      | false =>
        rcases HA.out.slice with ⟨rfl, rfl⟩ | ⟨g, cp, cs, rfl, hB, hg, hnc, hsz2, hc⟩
        · go_wp2_with fail
          go_ret2
          exact ⟨_, _, rfl, .inl ⟨rfl, out, by rw [HE.out]; rfl, A, cap, rfl, HRI.out⟩, HBR.out⟩
        · by_cases hl0 : line = []
          · subst hl0
            go_wp2_with fail
            go_ret2
            exact ⟨_, _, rfl, .inl ⟨rfl, out, by rw [HE.out]; rfl, A, cap, rfl, HRI.out⟩, HBR.out⟩
          · have q1 : ((line.length : Int) == 0) = false := by rw [beq_eq_false_iff_ne]; have := List.length_pos_iff.2 hl0; omega
            have HX : Hid (scanR s [] [] 0 false = none) := Lib.hid (by rw [HE.out, if_neg (fun h => hl0 h.2)])
            clear hl0
            go_wp2_with fail
            go_ret2
            exact ⟨_, _, rfl, .inr ⟨rfl, HX.out⟩, HBR.out⟩
end Go.Proofs.YtkikokldijccnaaDoor
