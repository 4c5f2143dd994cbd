/- squitter.Load: the library, must, numbers. -/
import Derived.Test.YtkikokldijccnaaDoorRows
import Derived.WalkKit
import Derived.WalkLawsBesides
import Derived.WalkSpells
import Derived.ProofKit
import Derived.Below
import Derived.Outline
import Derived.Lib.Hide
import Derived.Deep.RegionWith
import Derived.Deep.RegionHeld3
import Derived.Deep.DrawnRows
import Derived.StillTailTactics
import Derived.BigQuiet
import Derived.Deep.QuietTactic
import Derived.Deep.LoopGhost
import Derived.IntWalk
import Derived.Lib.AtoiErrMem
import Derived.Lib.AppendIntMem
import Derived.Test.YtkikokldijccnaaDoorSqLq
import Derived.Test.YtkikokldijccnaaDoorSh2
namespace Go.Proofs.YtkikokldijccnaaDoor
open Go.RowKit Go.Maps
attribute [local go_sem ↓] Go.wp_at_zero Go.wp_at_succ
attribute [local go_sem] wrap_lit
/-- what Load's library wants of the world, below block K -/
structure LEnv (K : Nat) (w : World) : Prop where
  env : Env K w
  le : 4 ≤ K
  syn : ∃ t p, w.cell? ⟨2, 0, none⟩ = some (.iface t p)
  rng : ∃ t p, w.cell? ⟨3, 0, none⟩ = some (.iface t p)
  mx : ∃ m, w.cell? ⟨1, 0, none⟩ = some (.int .i64 m)
theorem LEnv.below {K : Nat} {w w' : World} (h : LEnv K w) (hb : Below K w w') : LEnv K w' where
  env := h.env.below hb
  le := h.le
  syn := by
    obtain ⟨t, p, e⟩ := h.syn
    exact ⟨t, p, (hb.cell (p := ⟨2, 0, none⟩) (Nat.lt_of_lt_of_le (by decide) h.le)).trans e⟩
  rng := by
    obtain ⟨t, p, e⟩ := h.rng
    exact ⟨t, p, (hb.cell (p := ⟨3, 0, none⟩) (Nat.lt_of_lt_of_le (by decide) h.le)).trans e⟩
  mx := by
    obtain ⟨m, e⟩ := h.mx
    exact ⟨m, (hb.cell (p := ⟨1, 0, none⟩) (Nat.lt_of_lt_of_le (by decide) h.le)).trans e⟩
theorem atoi_bd {l : Tx} {v : Int} (h : Lib.atoiAll l = .ok v) : -9223372036854775808 ≤ v ∧ v ≤ 9223372036854775807 := by
  unfold Lib.atoiAll at h
  split at h
  · cases h
  · simp only at h
    split at h
    · cases h
    · cases h
    · split at h
      · cases h
      · rename_i g1
        split at h
        · cases h
        · rename_i g2
          injection h with h
          split at h
          · rename_i g3
            simp only [not_and, Nat.not_lt] at g2
            have := g2 g3
            omega
          · rename_i g3
            simp only [not_and, Nat.not_le] at g1
            have := g1 g3
            omega
theorem atoi138_ok (l : Tx) (hl : l.length ≤ 100000) (v : Int) (h : Lib.atoiAll l = .ok v) (w : World) : Calls Tryd.prog 58 #[.string (S l)] w fun e w' => e = .returned (.tuple #[.int .i64 v, .nilIface]) ∧ Below w.heap.size w w' := by
  refine (Tryd.strconv_Atoi_ok (S l) (by rw [S_size]; omega) v (by rw [S_list]; exact h) w).mono ?_
  rintro e w' ⟨rfl, rfl | ⟨t, rfl⟩⟩
  · exact ⟨rfl, Below.refl _ _⟩
  · exact ⟨rfl, Lib.bytesWorld_below _ _ _⟩
theorem atoi138_no (l : Tx) (hl : l.length ≤ 100000) (h : ∀ v, Lib.atoiAll l ≠ .ok v) (K : Nat) (w : World) (E : LEnv K w) : Calls Tryd.prog 58 #[.string (S l)] w fun e w' => (∃ (v : Int) (t : TypeId) (p : Value), e = .returned (.tuple #[.int .i64 v, .iface t p])) ∧ Below w.heap.size w w' := by
  rcases e : Lib.atoiAll l with v | _ | _
  · exact absurd e (h v)
  · obtain ⟨t, p, hv⟩ := E.syn
    refine (Tryd.strconv_Atoi_syntax (S l) (by rw [S_size]; omega) (by rw [S_list]; exact e) _ w hv (.inr ⟨t, p, rfl⟩)).mono ?_
    rintro e w' ⟨N, rfl, -, -, hb⟩
    exact ⟨⟨_, _, _, rfl⟩, hb⟩
  · obtain ⟨t, p, hv⟩ := E.rng
    refine (Tryd.strconv_Atoi_range (S l) (by rw [S_size]; omega) (by rw [S_list]; exact e) _ w hv (.inr ⟨t, p, rfl⟩)).mono ?_
    rintro e w' ⟨N, rfl, -, -, hb⟩
    exact ⟨⟨_, _, _, rfl⟩, hb⟩
/-- the words of a line in memory -/
def wordsV (ws : List Tx) : Array Value := (ws.map fun x => Value.string (S x)).toArray
theorem split_list (l : Tx) (c : UInt8) : (Lib.splitB ⟨#[c]⟩ 0 (Lib.countB (S l) ⟨#[c]⟩) (S l)) = (splitC c l).map S := by
  have h := Lib.splitB_data ⟨#[c]⟩ 0 (Lib.countB (S l) ⟨#[c]⟩) (S l)
  have e : Lib.splitK (⟨#[c]⟩ : ByteArray).data.toList 0 (Lib.countB (S l) ⟨#[c]⟩) (S l).data.toList = splitC c l := by
    rw [S_list]
    exact splitK_eq c _ l (by show l.count c ≤ Lib.count (S l).data.toList [c]; rw [S_list, Lib.count_one]; exact Nat.le_refl _)
  rw [e] at h
  rw [← h, List.map_map]
  conv => lhs; rw [← List.map_id (Lib.splitB _ _ _ _)]
  apply List.map_congr_left
  intro s _
  exact (S_data s).symm
theorem split46 (l : Tx) (hl : l.length ≤ 100000) (c : UInt8) (K : Nat) (w : World) (E : LEnv K w) : Calls Tryd.prog 46 #[.string (S l), .string ⟨#[c]⟩] w fun e w' => e = .returned (.slice (some ⟨w.heap.size, 0, none⟩) (splitC c l).length (splitC c l).length) ∧ w.alloc (.cells (wordsV (splitC c l)) 9) = w' := by
  obtain ⟨m, hm⟩ := E.mx
  refine (Tryd.strings_Split (S l) ⟨#[c]⟩ m w (by rw [S_size]; omega) hm (by show 1 ≤ 1; exact Nat.le_refl _)).mono ?_
  rintro e w' ⟨rfl, rfl⟩
  have h := split_list l c
  have hn : Lib.countB (S l) ⟨#[c]⟩ + 1 = (splitC c l).length := by
    have := Lib.splitB_all ⟨#[c]⟩ (by show 1 ≤ 1; exact Nat.le_refl _) 0 (Lib.countB (S l) ⟨#[c]⟩) (S l) rfl
    rw [h, List.length_map] at this
    exact this.symm
  rw [hn, h, List.map_map]
  exact ⟨rfl, rfl⟩
/-- the panic that Load turns into ErrForm -/
def pan : List PanicEntry := [{ v := .iface 79 (.agg #[.int .i64 2]), recovered := false }]
theorem must_t (w : World) : Calls Tryd.prog 47 #[.bool true] w fun e w' => e = .returned (.tuple #[]) ∧ w' = w := by
  go_enter Tryd.func47, Tryd.ntmps47
  go_wp2_with fail
  go_end0
  exact ⟨rfl, rfl⟩
theorem must_f (w : World) : Calls Tryd.prog 47 #[.bool false] w fun e w' => e = .panicked pan ∧ w' = w := by
  go_enter Tryd.func47, Tryd.ntmps47
  go_wp2_with fail
  exact ⟨rfl, rfl, rfl⟩
theorem split_len (c : UInt8) : ∀ l : Tx, (splitC c l).length ≤ l.length + 1 := by
  intro l
  induction l with
  | nil => simp [splitC]
  | cons a l ih =>
    unfold splitC
    split
    · simp; omega
    · split
      · simp
      · rename_i h; rw [h] at ih; simp at ih ⊢; omega
theorem split_word (c : UInt8) : ∀ (l : Tx) (x : Tx), x ∈ splitC c l → x.length ≤ l.length := by
  intro l
  induction l with
  | nil => intro x hx; simp [splitC] at hx; subst hx; simp
  | cons a l ih =>
    intro x hx
    unfold splitC at hx
    split at hx
    · rcases List.mem_cons.1 hx with rfl | hx
      · simp
      · have := ih x hx; simp; omega
    · split at hx
      · simp at hx; subst hx; simp
      · rename_i h
        rcases List.mem_cons.1 hx with rfl | hx
        · have := ih _ (by rw [h]; exact List.mem_cons_self ..)
          simp; omega
        · have := ih x (by rw [h]; exact List.mem_cons_of_mem _ hx)
          simp; omega
theorem allO_snoc : ∀ (l : List (Option Int)) (ys : List Int) (n : Int), allO l = some ys → allO (l ++ [some n]) = some (ys ++ [n]) := by
  intro l ys n h
  rw [allO_iff] at h ⊢
  rw [h]; simp
theorem allO_none {l : List (Option Int)} (h : none ∈ l) : allO l = none := by
  cases e : allO l with
  | none => rfl
  | some ys =>
    rw [allO_iff] at e
    rw [e] at h
    simp at h
/-- a row that the call made -/
def RowQ (w : World) (l : List Int) (e : Ending) (w' : World) : Prop := ∃ g off cap cur, e = .returned (.slice (some ⟨g, off, none⟩) l.length cap) ∧ w.heap.size ≤ g ∧ w'.heap[g]? = some (.cells cur 3 (0, 0)) ∧ l.length ≤ cap ∧ off + cap ≤ cur.size ∧ cap ≤ maxLen ∧ (∀ j c, l[j]? = some c → cur[off + j]? = some (.int .i64 c)) ∧ Below w.heap.size w w'
theorem numM_at {u : Tx} (hno : ∀ v, Lib.atoiAll u ≠ .ok v) : numM u = none := by
  unfold numM
  split
  · rename_i n h; exact absurd h (hno n)
  · rfl
theorem numM_ok {u : Tx} {n : Int} (h : Lib.atoiAll u = .ok n) : numM u = if 0 ≤ n ∧ n ≤ 1073741824 ∧ Lib.itoa n = u then some n else none := by
  unfold numM; rw [h]
set_option maxRecDepth 100000 in
set_option maxHeartbeats 4000000 in
theorem numbers48 (l : Tx) (hl : l.length ≤ 70000) {K : Nat} {w : World} (E : LEnv K w) (hK : K ≤ w.heap.size) : Calls Tryd.prog 48 #[.string (S l)] w fun e w' => (∃ ns, numsM l = some ns ∧ RowQ w ns e w') ∨ (numsM l = none ∧ e = .panicked pan ∧ Below w.heap.size w w') := by
  obtain ⟨i0, hi0, hz0, hz1, hz2⟩ := info_parts int_info
  have HE := Lib.hid E
  have hsl := split_len 32 l
  have hsw := split_word 32 l
  have hnm : numsM l = allO ((splitC 32 l).map numM) := rfl
  clear E
  go_enter Tryd.func48, Tryd.ntmps48
  go_wp2_with fail
  refine (split46 l (by omega) 32 K w HE.out).mono ?_
  rintro e w1 ⟨rfl, hw1⟩
  obtain ⟨ws, hws⟩ : ∃ ws, ws = splitC 32 l := ⟨_, rfl⟩
  have hne0 : ws ≠ [] := by rw [hws]; exact splitC_ne 32 l
  rw [← hws] at hsl hsw hnm hw1 ⊢
  have hcell : ∀ i u, ws[i]? = some u → w1.cell? ⟨w.heap.size, i, none⟩ = some (.string (S u)) := fun i u hu => by
    rw [← hw1, cellOf (heap_alloc_new w _)]
    unfold wordsV
    simp [hu]
  have hb1 : Below w.heap.size w w1 := by rw [← hw1]; exact below_alloc1 w _
  have hs1 : w1.heap.size = w.heap.size + 1 := by rw [← hw1]; exact size_alloc _ _
  have HC := Lib.hid hcell
  have HB1 := Lib.hid hb1
  have HNM := Lib.hid hnm
  have HSW := Lib.hid hsw
  have HS1 := Lib.hid hs1
  have hwl : ws.length ≤ 70001 := by omega
  have HN0 : Hid (0 < ws.length) := Lib.hid (List.length_pos_iff.2 hne0)
  clear hcell hb1 hnm hsw hws hw1 hs1 hne0
  go_wp2_with fail
  go_loopw [2, 4, 5, 6, 10] (fun v _ _ _ ii wr => ∃ (i : Nat) (ys : List Int), i ≤ ws.length ∧ ii = .int .i64 i ∧ allO ((ws.take i).map numM) = some ys ∧ ys.length = i ∧ Acc .i64 wr (w.heap.size + 1) 3 1 v ys.length ys ∧ Below (w.heap.size + 1) w1 wr) (fun _ _ _ _ ii _ => ws.length - (intOf ii).toNat)
  case atStart => exact ⟨0, [], Nat.zero_le _, rfl, rfl, rfl, Acc.nil _ _ _ _ _, Below.refl _ _⟩
  case round =>
    obtain ⟨i, ys, hi, rfl, hall, hyl, hacc, hbr⟩ := hrel
    have HAL := Lib.hid hall
    have HA := Lib.hid hacc
    have HBR := Lib.hid hbr
    have hsr : w.heap.size + 1 ≤ wr.heap.size := by have := hbr.size; have := HS1.out; omega
    have HBW : Hid (Below w.heap.size w wr) := Lib.hid (HB1.out.trans (hbr.mono (Nat.le_succ _)))
    clear hall hacc
    by_cases hlt : i < ws.length
    · obtain ⟨u, hu⟩ : ∃ u, ws[i]? = some u := ⟨_, List.getElem?_eq_getElem hlt⟩
      have cu : wr.cell? ⟨w.heap.size, i, none⟩ = some (.string (S u)) := (hbr.cell (p := ⟨w.heap.size, i, none⟩) (Nat.lt_succ_self _)).trans (HC.out i u hu)
      have hul : u.length ≤ 70000 := Nat.le_trans (HSW.out u (List.mem_of_getElem? hu)) hl
      have htk : ws.take (i + 1) = ws.take i ++ [u] := by
        obtain ⟨h1, h2⟩ := List.getElem?_eq_some_iff.1 hu
        rw [List.take_succ_eq_append_getElem h1, h2]
      have hltI : (i : Int) < (ws.length : Int) := by omega
      have hE := HE.out.below (HBW.out.mono hK)
      have HER := Lib.hid hE
      have hno : numM u = none → numsM l = none := fun e => by
        rw [HNM.out]
        exact allO_none (List.mem_map.2 ⟨u, List.mem_of_getElem? hu, e⟩)
      have HNOO := Lib.hid hno
      have HTK := Lib.hid htk
      clear hbr hu htk hE hno
      by_cases hat : ∃ n, Lib.atoiAll u = .ok n
      · obtain ⟨n, hn⟩ := hat
        have hnm := numM_ok hn
        have hbd := atoi_bd hn
        have HN := Lib.hid hn
        have HNM2 := Lib.hid hnm
        obtain ⟨d0, d1⟩ := hbd
        clear hn hnm
        cases q1 : decide (0 ≤ n) with
        | false =>
          have HNO : Hid (numsM l = none) := Lib.hid (HNOO.out (by rw [HNM2.out, if_neg]; rintro ⟨g, -⟩; exact of_decide_eq_false q1 g))
          go_wp2_with fail
          refine (atoi138_ok u (by omega) n HN.out wr).mono ?_
          rintro e w3 ⟨rfl, hb3⟩
          have HB3 := Lib.hid (HBW.out.trans (hb3.mono (by omega)))
          clear hb3
          go_wp2_with fail
          refine (must_f _).mono ?_
          rintro e wm ⟨rfl, hw⟩
          rw [hw]
          clear hw wm
          exact ⟨rfl, .inr ⟨HNO.out, rfl, HB3.out⟩⟩
        | true =>
          cases q2 : decide (n ≤ 1073741824) with
          | false =>
            have HNO : Hid (numsM l = none) := Lib.hid (HNOO.out (by rw [HNM2.out, if_neg]; rintro ⟨-, g, -⟩; exact of_decide_eq_false q2 g))
            go_wp2_with fail
            refine (atoi138_ok u (by omega) n HN.out wr).mono ?_
            rintro e w3 ⟨rfl, hb3⟩
            have HB3 := Lib.hid (HBW.out.trans (hb3.mono (by omega)))
            clear hb3
            go_wp2_with fail
            refine (must_f _).mono ?_
            rintro e wm ⟨rfl, hw⟩
            rw [hw]
            clear hw wm
            exact ⟨rfl, .inr ⟨HNO.out, rfl, HB3.out⟩⟩
          | true =>
            go_wp2_with fail
            refine (atoi138_ok u (by omega) n HN.out wr).mono ?_
            rintro e w3 ⟨rfl, hb3⟩
            have HA3 := Lib.hid (HA.out.below hb3)
            have HBR3 := Lib.hid (HBR.out.trans (hb3.mono hsr))
            have HB3 := Lib.hid (HBW.out.trans (hb3.mono (by omega)))
            have HE3 := Lib.hid (HER.out.below (hb3.mono (by omega)))
            have hs3 : w.heap.size + 1 ≤ w3.heap.size := by have := hb3.size; omega
            clear hb3
            go_wp2_with fail
            refine (itoaC n (by omega) (by omega) K w3 HE3.out.env).mono ?_
            rintro e w5 ⟨rfl, hb5⟩
            have HA2 := Lib.hid (HA3.out.below hb5)
            have HBR5 := Lib.hid (HBR3.out.trans (hb5.mono hs3))
            have HB5 := Lib.hid (HB3.out.trans (hb5.mono (by omega)))
            have hs5 : w.heap.size + 1 ≤ w5.heap.size := by have := hb5.size; omega
            clear hb5
            by_cases heq : Lib.itoa n = u
            · have HQ : Hid (numM u = some n) := Lib.hid (by rw [HNM2.out, if_pos ⟨of_decide_eq_true q1, of_decide_eq_true q2, heq⟩])
              have HEQ := Lib.hid heq
              have q3 : (Lib.itoa n == u) = true := by rw [heq]; exact beq_self_eq_true _
              clear heq
              go_wp2_with fail
              refine (must_t _).mono ?_
              rintro e wm ⟨rfl, hw⟩
              rw [hw]
              clear hw wm
              go_wp2_with (first
                | (at_builtin; refine wpList_appH rfl _ _ 38 rfl .i64 (w.heap.size + 1) 3 i0 _ 1 8 Tryd.underlying38 hi0 hz0 hz1 hz2 rfl (by decide) _ _ _ [n] rfl HA2.out _ rfl w5.heap.size rfl rfl rfl (by omega) (by decide) (by omega) ?_; intro v' w4 hacc4 hb4)
                | go_in)
              exact ⟨⟨i + 1, ys ++ [n], by omega, by go_num, by rw [HTK.out, List.map_append, List.map_singleton, HQ.out]; exact allO_snoc _ _ _ HAL.out, by simp [hyl], by rw [List.length_append]; exact hacc4, HBR5.out.trans hb4⟩, by simp [intOf]; omega⟩
            · have HNO : Hid (numsM l = none) := Lib.hid (HNOO.out (by rw [HNM2.out, if_neg]; rintro ⟨-, -, g⟩; exact heq g))
              have q3 : (Lib.itoa n == u) = false := by rw [beq_eq_false_iff_ne]; exact heq
              clear heq
              go_wp2_with fail
              refine (must_f _).mono ?_
              rintro e wm ⟨rfl, hw⟩
              rw [hw]
              clear hw wm
              exact ⟨rfl, .inr ⟨HNO.out, rfl, HB5.out⟩⟩
      · have HNO : Hid (numsM l = none) := Lib.hid (HNOO.out (numM_at fun v hv => hat ⟨v, hv⟩))
        have HAT := Lib.hid hat
        clear hat
        go_wp2_with fail
        refine (atoi138_no u (by omega) (fun v hv => HAT.out ⟨v, hv⟩) K wr HER.out).mono ?_
        rintro e w3 ⟨⟨v, te, pe, rfl⟩, hb3⟩
        have HB3 := Lib.hid (HBW.out.trans (hb3.mono (by omega)))
        clear hb3
        have qi : ∀ w, Sem.run Tryd.prog (binOp BinOp.eql 63 (Value.iface te pe) Value.nilIface) w = .ok (.bool false) w := fun w => by kernel_rfl
        go_wp2_with fail
        refine (must_f _).mono ?_
        rintro e wm ⟨rfl, hw⟩
        rw [hw]
        clear hw wm
        exact ⟨rfl, .inr ⟨HNO.out, rfl, HB3.out⟩⟩
    · obtain rfl : i = ws.length := by omega
      rw [List.take_length, ← HNM.out] at HAL
      clear hlt hbr
      go_wp2_with fail
      go_ret
      refine .inl ⟨ys, HAL.out, ?_⟩
      obtain ⟨g, hg, hsl, -⟩ := own_sl HA.out (by have := HN0.out; omega)
      rcases hsl with ⟨-, e, -⟩ | ⟨g', off, cap, cur, e, rfl, h2, h3, h4, h5, h6⟩
      · cases e
      · obtain rfl := Option.some.inj e
        exact ⟨g, off, cap, cur, rfl, by omega, h2, h3, h4, h5, h6, HBW.out⟩
end Go.Proofs.YtkikokldijccnaaDoor
