/- encounter: Own. -/
import Derived.Test.YtnnnpliigdfipaaGreatDoorRows
import Derived.WalkKit
import Derived.WalkLawsBesides
import Derived.WalkSpells
import Derived.ProofKit
import Derived.Below
import Derived.Outline
import Derived.Lib.Hide
import Derived.Deep.RegionWith
import Derived.Deep.RegionHeld3
import Derived.Deep.DrawnRows
import Derived.StillTailTactics
import Derived.BigQuiet
import Derived.Deep.QuietTactic
import Derived.Deep.LoopGhost
import Derived.IntWalk
import Derived.Lib.MinMax
import Derived.Deep.CutBlock
import Derived.Deep.DeepCutAuto
import Derived.Test.YtnnnpliigdfipaaGreatDoorEnBD
import Derived.Test.YtnnnpliigdfipaaGreatDoorEnCA
import Derived.Test.YtnnnpliigdfipaaGreatDoorKS
namespace Go.Proofs.YtnnnpliigdfipaaGreatDoor
open Go.RowKit
attribute [local go_sem ↓] Go.wp_at_zero Go.wp_at_succ
attribute [local go_sem] wrap_lit
theorem run_append_nil0 {P : Program} {w : World} (t ty e : TypeId) (i : TypeInfo) (ht : P.underlying t = some (.slice e)) (hi : P.info? e = some i) (A : Option Addr) (c : Nat) : (Builtin.append_ #[t, t] ty #[.slice none 0 0, .slice A 0 c]).run P w = .ok (.slice none 0 0) w := by
  cases A <;> simp [Builtin.append_, run_underlying ht, sizeOf, typeInfo, hi, Builtin.lenOf, Builtin.firstCells, loadCells, loadCellsFrom]
theorem wpList_legs {ops : Array Oper} {rest : List Oper} {o : Oper} {a : Act} {Q : Exit → Act → World → Prop} {w : World} (hgd : o.guard = none) (s x : Operand)
    (ho : o.op = .call { callee := .builtin .append, args := #[s, x], argTypes := #[52, 52] }) (hs : a.eval s = .slice none 0 0) (A : Option Addr) (c : Nat) (lg : List (Int × Int)) (hx : a.eval x = .slice A lg.length c)
    (B : Nat) (hA : Is .i64 w B A (flat lg)) (hl : lg.length ≤ 1000) (H : Nat) (hH : w.heap.size = H)
    (h : ∀ A' c' w', w'.ownsRow H 54 2 (.slice A' lg.length c') lg.length ((flat lg).map (Value.int .i64)) → Below H w w' → wpList Tryz.prog ops Q rest (a.put o.dst (.slice A' lg.length c')) w') : wpList Tryz.prog ops Q (o :: rest) a w := by
  obtain ⟨i1, hi1, hj0, hj1, hj2⟩ := info_parts Leg_info
  cases lg with
  | nil =>
    refine wpList_plain hgd fun K hK => ?_
    have hrun := run_append_nil0 (P := Tryz.prog) (w := w) 52 o.type 54 i1 Tryz.underlying52 hi1 A c
    have hx' : a.eval x = .slice A 0 c := hx
    unfold Oper.wp
    simp [execOp, ho, resolve, invoke, builtin, hs, hx', hrun, Result.andThen]
    exact hK _ _ (h none 0 _ (World.ownsRow_nil _ _ _ _) (Below.refl _ _))
  | cons y l =>
    obtain ⟨b, off, rfl, hb, hc⟩ := hA (by simp [flat])
    refine wpList_append_lies (P := Tryz.prog) w hgd s x 52 ho w.heap.size 54 i1 _ 2 16 Tryz.underlying52 hi1 hj0 hj1 hj2 rfl (by decide) (.slice none 0 0) 0 [] hs (World.ownsRow_nil _ _ _ _) ⟨b, off, none⟩ (y :: l).length c ((flat (y :: l)).map (Value.int .i64)) hx (by rw [List.length_map, flat2_len]) (fun j u hu => ?_) (fun u hu => ?_) (by simp) (by unfold maxLen; omega) (by omega) (Nat.le_refl _) H hH ?_
    · rw [List.getElem?_map] at hu
      have hj : j < (flat (y :: l)).length := by
        rcases Nat.lt_or_ge j (flat (y :: l)).length with g | g
        · exact g
        · rw [List.getElem?_eq_none g] at hu; cases hu
      rw [addr_add' b off j, hc j hj]
      simpa [nth, List.getD_eq_getElem?_getD, hj] using hu
    · obtain ⟨n, -, rfl⟩ := List.mem_map.1 hu
      rfl
    · intro g cp w' hown hg _ _
      subst hH
      rw [List.nil_append, Nat.zero_add] at hown
      rw [Nat.zero_add]
      exact h _ _ _ hown ⟨hg.os, hg.tape, hg.output, hg.size, fun k hk => hg.block k hk (by simp [Value.ownBlock])⟩
theorem set3_0' (w : World) (r : Nat) (X Y Z : Value) (h : (w.cell? ⟨r, 0, none⟩).isSome = true) : (((w.setCell ⟨r, 0, none⟩ X).setCell ⟨r, 1, none⟩ Y).setCell ⟨r, 2, none⟩ Z).cell? ⟨r, 0, none⟩ = some X := by
  rw [World.cell?_setCell_other _ _ _ _ (by intro e; simp at e), World.cell?_setCell_other _ _ _ _ (by intro e; simp at e), World.cell?_setCell_same' _ _ _ h]
theorem set3_1' (w : World) (r : Nat) (X Y Z : Value) (h : (w.cell? ⟨r, 1, none⟩).isSome = true) : (((w.setCell ⟨r, 0, none⟩ X).setCell ⟨r, 1, none⟩ Y).setCell ⟨r, 2, none⟩ Z).cell? ⟨r, 1, none⟩ = some Y := by
  rw [World.cell?_setCell_other _ _ _ _ (by intro e; simp at e), World.cell?_setCell_same' _ _ _ (by rw [World.cell?_setCell_other _ _ _ _ (by intro e; simp at e)]; exact h)]
theorem set3_2' (w : World) (r : Nat) (X Y Z : Value) (h : (w.cell? ⟨r, 2, none⟩).isSome = true) : (((w.setCell ⟨r, 0, none⟩ X).setCell ⟨r, 1, none⟩ Y).setCell ⟨r, 2, none⟩ Z).cell? ⟨r, 2, none⟩ = some Z := by
  rw [World.cell?_setCell_same' _ _ _ (by rw [World.cell?_setCell_other _ _ _ _ (by intro e; simp at e), World.cell?_setCell_other _ _ _ _ (by intro e; simp at e)]; exact h)]
/-- an aircraft more, with legs of its own -/
theorem PS.pushL {w w' : World} {n0 B : Nat} {v v' : Value} {cs : List Cr} {lvs : List Value} {Bl : Nat} {c : Cr} {lv : Value} (h : PS w n0 v cs lvs Bl) (hB : n0 ≤ B) (hl : w.ownsRow B 54 2 lv c.lg.length ((flat c.lg).map (Value.int .i64))) (hs : ∀ (j : Nat) (lw : Value) (k : Nat), lvs[j]? = some lw → lw.ownBlock = some k → k < B)
    (hrow : w'.ownsRow n0 63 13 v' (cs.length + 1) (crsV cs lvs ++ crV c lv)) (hg : w.grownBy w' v.ownBlock) : PS w' n0 v' (cs ++ [c]) (lvs ++ [lv]) B := by
  have far : ∀ {B n : Nat} {u : Value} {ys : List Value}, w.ownsRow B 54 2 u n ys → w'.ownsRow B 54 2 u n ys := fun hu =>
    ownsRow_foreign hu hg (fun r hr cs' e' f he => by
      rcases h.row.2 with ⟨rfl, _⟩ | ⟨g, cap, cur, rfl, _, hgg, _⟩
      · cases hr
      · simp only [Value.ownBlock, Option.some.injEq] at hr
        subst hr
        rw [hgg] at he
        cases he
        decide)
  refine ⟨by rw [crsV_app _ _ _ _ h.len, List.length_append]; exact hrow, by simp [h.len], fun j d lw h1 h2 => ?_, fun j lw k h1 h2 h3 => ?_⟩
  · rcases Nat.lt_or_ge j cs.length with hj | hj
    · rw [List.getElem?_append_left hj] at h1
      rw [List.getElem?_append_left (by rw [h.len]; exact hj)] at h2
      obtain ⟨B', h3, h4, -⟩ := h.legs j d lw h1 h2
      exact ⟨B', h3, far h4, fun e => by simp at e; omega⟩
    · have e : j = cs.length := by
        have := (List.getElem?_eq_some_iff.1 h1).1
        simp at this; omega
      subst e
      rw [List.getElem?_append_right (Nat.le_refl _)] at h1
      rw [List.getElem?_append_right (by rw [h.len]; exact Nat.le_refl _)] at h2
      simp [h.len] at h1 h2
      subst h1 h2
      exact ⟨B, hB, far hl, fun _ => rfl⟩
  · have hj : j < cs.length := by simp at h2; omega
    rw [List.getElem?_append_left (by rw [h.len]; exact hj)] at h1
    exact hs j lw k h1 h3
set_option maxRecDepth 100000 in
set_option maxHeartbeats 4000000 in
theorem own12 (x : En) (A : Option Addr) (cap : Nat) (w : World) (hc : InCr w w.heap.size A x.cs) (hN : x.cs.length ≤ 1000) (hG : ∀ c ∈ x.cs, c.lg.length ≤ 1000) :
    Calls Tryz.prog 12 #[.agg #[.int .i64 x.cy, .int .i64 x.gr, .slice A x.cs.length cap]] w fun e w' => (∃ v lvs Bl, e = .returned (.agg #[.int .i64 x.cy, .int .i64 x.gr, v]) ∧ PS w' w.heap.size v x.cs lvs Bl ∧ Bl ≤ w'.heap.size) ∧ Below w.heap.size w w' := by
  have HC := Lib.hid hc
  have HG := Lib.hid hG
  clear hc hG
  go_enter Tryz.func12, Tryz.ntmps12
  go_wp2_with fail
  obtain ⟨i0, hi0, hz0, hz1, hz2⟩ := info_parts Craft_info
  obtain ⟨G, hG⟩ : ∃ G, G = w.heap.size := ⟨_, rfl⟩
  obtain ⟨W0, hW0⟩ : ∃ W0, W0 = (w.alloc (.cells #[.int .i64 x.cy, .int .i64 x.gr, .slice none 0 0] 24)).alloc (.cells #[.int .i64 0, .int .i64 0, .slice none 0 0] 24) := ⟨_, rfl⟩
  have B0 : Hid (Below G w W0) := Lib.hid (by rw [hW0, hG]; exact ((Below.refl _ _).alloc (Nat.le_refl _) _).alloc (by simp) _)
  have X0 : Hid (W0.heap[G]? = some (.cells #[.int .i64 x.cy, .int .i64 x.gr, .slice none 0 0] 24 (0, 0))) := Lib.hid (by rw [hW0, hG]; exact (Below.heap_alloc _ _ _ (by simp)).trans (heap_alloc_new _ _))
  have R0 : Hid (W0.heap[G + 1]? = some (.cells #[.int .i64 0, .int .i64 0, .slice none 0 0] 24 (0, 0))) := Lib.hid (by rw [hW0, hG]; exact heap_alloc_at _ _ _ (by simp))
  have S0 : G + 2 ≤ W0.heap.size := by rw [hW0, hG]; simp
  rw [← hW0, ← hG]
  clear hW0
  rw [← hG] at HC
  have HGW := Lib.hid hG
  clear hG
  go_loopw [4] (fun i wr => ∃ (k : Nat) (v : Value) (lvs : List Value) (Bl : Nat), k ≤ x.cs.length ∧ i = .int .i64 k ∧ G + 2 ≤ wr.heap.size ∧ wr.heap[G]? = some (.cells #[.int .i64 x.cy, .int .i64 x.gr, v] 24 (0, 0)) ∧ wr.heap[G + 1]? = some (.cells #[.int .i64 0, .int .i64 0, .slice none 0 0] 24 (0, 0)) ∧ PS wr (G + 2) v (x.cs.take k) lvs Bl ∧ Bl ≤ wr.heap.size ∧ Below G w wr) (fun i _ => x.cs.length - (intOf i).toNat)
  case atStart => exact ⟨0, _, [], 0, Nat.zero_le _, rfl, S0, X0.out, R0.out, PS.nil _ _, Nat.zero_le _, B0.out⟩
  case round =>
    obtain ⟨k, v, lvs, Bl, hk, rfl, hs, hX, hR, hps, hBl, hb⟩ := hrel
    have HX := Lib.hid hX
    have HR := Lib.hid hR
    have HP := Lib.hid hps
    have HB := Lib.hid hb
    clear hX hR hps hb X0 R0 B0
    by_cases hlt : k < x.cs.length
    · obtain ⟨b, off, rfl, hbb, hcc⟩ := HC.out (by omega)
      obtain ⟨c, hcj⟩ : ∃ c, x.cs[k]? = some c := ⟨_, List.getElem?_eq_getElem hlt⟩
      have hlen := HG.out c (List.mem_of_getElem? hcj)
      obtain ⟨LA, lcap, hA, hL⟩ := hcc k c hcj
      have HJ := Lib.hid hcj
      have HL := Lib.hid (hL.below HB.out)
      clear hcc hcj hL
      obtain ⟨a0, a1, a2, a3, a4, a5, a6, a7, a8, a9, a10, a11, a12⟩ := hA.below HB.out hbb
      clear hA
      have hlI : (k : Int) < (x.cs.length : Int) := by omega
      have hg2 : G < wr.heap.size := by omega
      have hg3 : G + 1 < wr.heap.size := by omega
      go_upto_region 8 with (at_builtin; refine wpList_legs rfl _ _ rfl rfl LA lcap c.lg rfl G (HL.out.below ((Below.refl _ _).alloc (by omega) _)) hlen _ rfl ?_; intro A2 c2 w2 hlv hb2; have hC2 : w2.heap[wr.heap.size]? = some (.cells #[.int .i64 c.ad, .int .i64 c.p.x, .int .i64 c.p.y, .int .i64 c.p.z, .int .i64 c.v.x, .int .i64 c.v.y, .int .i64 c.v.z, .int .i64 c.pu, .slice LA c.lg.length lcap, .int .u8 c.mo, .int .i64 c.de, .int .i64 c.pp, .int .i64 c.mi] 63 (0, 0)) := (hb2.block _ (by simp)).trans (heap_alloc_new _ _); have c8 : w2.cell? ⟨wr.heap.size, 8, none⟩ = some (.slice LA c.lg.length lcap) := (by simp [World.cell?, hC2]); have f8 : w2.frozen? ⟨wr.heap.size, 8, none⟩ = false := (by simp [World.frozen?, hC2]); have HC2 := Lib.hid hC2; have HLV := Lib.hid hlv; have HB2 := Lib.hid hb2; clear hC2 hlv hb2)
      clear c8 f8 a0 a1 a2 a3 a4 a5 a6 a7 a8 a9 a10 a11 a12
      obtain ⟨W3, hW3⟩ : ∃ W3, W3 = w2.setCell ⟨wr.heap.size, 8, none⟩ (.slice A2 c.lg.length c2) := ⟨_, rfl⟩
      rw [← hW3]
      have b23 : Below wr.heap.size wr W3 := by rw [hW3]; exact (((Below.refl _ _).alloc (Nat.le_refl _) _).trans (HB2.out.mono (by simp))).setCell (Nat.le_refl _) _
      have hC3 : W3.heap[wr.heap.size]? = some (.cells #[.int .i64 c.ad, .int .i64 c.p.x, .int .i64 c.p.y, .int .i64 c.p.z, .int .i64 c.v.x, .int .i64 c.v.y, .int .i64 c.v.z, .int .i64 c.pu, .slice A2 c.lg.length c2, .int .u8 c.mo, .int .i64 c.de, .int .i64 c.pp, .int .i64 c.mi] 63 (0, 0)) := by rw [hW3]; exact (setCell_heap _ _ _ _ _ _ _ HC2.out).trans (by simp)
      have P3 := Lib.hid (HP.out.below b23)
      have L3 : Hid (W3.ownsRow (wr.heap.size + 1) 54 2 (.slice A2 c.lg.length c2) c.lg.length ((flat c.lg).map (Value.int .i64))) := Lib.hid (by rw [hW3]; exact ownsRow_setCell_below (by simpa using HLV.out) (by simp) _)
      have X3 := Lib.hid ((b23.block _ hg2).trans HX.out)
      have R3 := Lib.hid ((b23.block _ hg3).trans HR.out)
      have HB3 := Lib.hid (HB.out.trans (b23.mono (by omega)))
      have s3 := b23.size
      have s3' := heap_lt hC3
      have c3_0 : W3.cell? ⟨wr.heap.size, 0, none⟩ = some (.int .i64 c.ad) := by simp [World.cell?, hC3]
      have c3_1 : W3.cell? ⟨wr.heap.size, 1, none⟩ = some (.int .i64 c.p.x) := by simp [World.cell?, hC3]
      have c3_2 : W3.cell? ⟨wr.heap.size, 2, none⟩ = some (.int .i64 c.p.y) := by simp [World.cell?, hC3]
      have c3_3 : W3.cell? ⟨wr.heap.size, 3, none⟩ = some (.int .i64 c.p.z) := by simp [World.cell?, hC3]
      have c3_4 : W3.cell? ⟨wr.heap.size, 4, none⟩ = some (.int .i64 c.v.x) := by simp [World.cell?, hC3]
      have c3_5 : W3.cell? ⟨wr.heap.size, 5, none⟩ = some (.int .i64 c.v.y) := by simp [World.cell?, hC3]
      have c3_6 : W3.cell? ⟨wr.heap.size, 6, none⟩ = some (.int .i64 c.v.z) := by simp [World.cell?, hC3]
      have c3_7 : W3.cell? ⟨wr.heap.size, 7, none⟩ = some (.int .i64 c.pu) := by simp [World.cell?, hC3]
      have c3_8 : W3.cell? ⟨wr.heap.size, 8, none⟩ = some (.slice A2 c.lg.length c2) := by simp [World.cell?, hC3]
      have c3_9 : W3.cell? ⟨wr.heap.size, 9, none⟩ = some (.int .u8 c.mo) := by simp [World.cell?, hC3]
      have c3_10 : W3.cell? ⟨wr.heap.size, 10, none⟩ = some (.int .i64 c.de) := by simp [World.cell?, hC3]
      have c3_11 : W3.cell? ⟨wr.heap.size, 11, none⟩ = some (.int .i64 c.pp) := by simp [World.cell?, hC3]
      have c3_12 : W3.cell? ⟨wr.heap.size, 12, none⟩ = some (.int .i64 c.mi) := by simp [World.cell?, hC3]
      have x3 : W3.cell? ⟨G, 2, none⟩ = some v := by simp [World.cell?, X3.out]
      clear HC2 HLV HB2 hW3 b23 HX HR HB HL hC3
      have hrow3 : W3.ownsRow (G + 2) 63 13 v k (crsV (x.cs.take k) lvs) := by have := P3.out.row; rw [List.length_take, Nat.min_eq_left hk] at this; exact this
      have HROW := Lib.hid hrow3
      clear hrow3
      have HLT := Lib.hid (fun r hr => HROW.out.lt r hr)
      go_wp2_with (at_builtin; refine wpList_append_lies (P := Tryz.prog) _ rfl _ _ 22 rfl (G + 2) 63 i0 _ 13 120 Tryz.underlying22 hi0 hz0 hz1 hz2 rfl (by decide) v k (crsV (x.cs.take k) lvs) rfl (HROW.out.alloc _) ⟨W3.heap.size, 0, none⟩ 1 1 (crV c (.slice A2 c.lg.length c2)) rfl rfl (World.news_of_block (cs := (crV c (.slice A2 c.lg.length c2)).toArray) (heap_alloc_new W3 _)) (by simp [crV, Value.oneCell']) (by decide) (by unfold maxLen; omega) (by omega) (by simp; omega) _ rfl ?_; intro g2 cap2 w4 hown hgrow hat hlt4; have hX4 : w4.heap[G]? = some (.cells #[.int .i64 x.cy, .int .i64 x.gr, v] 24 (0, 0)) := (hgrow.block G (by simp; omega) (fun e => by have := (HLT.out G e.symm).1; omega)).trans ((Below.heap_alloc _ _ _ (by omega)).trans X3.out); have x42 : w4.cell? ⟨G, 2, none⟩ = some v := (by simp [World.cell?, hX4]); have f42 : w4.frozen? ⟨G, 2, none⟩ = false := (by simp [World.frozen?, hX4]); have HX4 := Lib.hid hX4; have HOWN := Lib.hid hown; have HGROW := Lib.hid hgrow; clear hX4 hown hgrow hat)
      have hR4 : w4.heap[G + 1]? = some (.cells #[.int .i64 0, .int .i64 0, .slice none 0 0] 24 (0, 0)) := (HGROW.out.block (G + 1) (by simp; omega) (fun e => by have := (HLT.out (G + 1) e.symm).1; omega)).trans ((Below.heap_alloc _ _ _ (by omega)).trans R3.out)
      have hlen2 : (x.cs.take k).length = k := by rw [List.length_take]; omega
      have hT : x.cs.take (k + 1) = x.cs.take k ++ [c] := by
        rw [List.take_succ_eq_append_getElem hlt]
        congr 2
        have := HJ.out
        rw [List.getElem?_eq_getElem hlt] at this
        exact Option.some.inj this
      have hsz := HGROW.out.size
      simp only [World.size_alloc] at hsz
      have hP4 := PS.pushL (P3.out.below ((Below.refl _ _).alloc (Nat.le_refl _) _)) (show G + 2 ≤ wr.heap.size + 1 by omega) (L3.out.alloc _) (fun j lw k' h1 h2 => Nat.lt_succ_of_lt (HP.out.lt h1 h2).2) (by rw [hlen2]; exact HOWN.out) HGROW.out
      have hP5 := hP4.grown_own (grownBy_set w4 G 2 (.slice (some ⟨g2, 0, none⟩) (k + 1) cap2)) (fun r hr => .inl (by cases hr; omega))
      refine ⟨⟨k + 1, .slice (some ⟨g2, 0, none⟩) (k + 1) cap2, lvs ++ [.slice A2 c.lg.length c2], wr.heap.size + 1, by omega, by go_num, ?_, ?_, ?_, ?_, ?_, ?_⟩, ?_⟩
      · simp [World.setCell]; omega
      · exact (setCell_heap _ _ _ _ _ _ _ HX4.out).trans (by simp)
      · exact (Below.heap_setCell _ _ _ _ (by simp)).trans hR4
      · rw [hT]; exact hP5
      · simp [World.setCell]; omega
      · exact ((HB3.out.alloc (by omega) _).grown HGROW.out (by simp; omega) (fun r hr => by have := (HLT.out r hr).1; omega)).setCell (p := ⟨G, 2, none⟩) (Nat.le_refl _) _
      · simp [intOf]; omega
    · obtain rfl : k = x.cs.length := by omega
      have hlI : ¬ (x.cs.length : Int) < (x.cs.length : Int) := by omega
      have hp := HP.out
      rw [List.take_length] at hp
      have HQ := Lib.hid hp
      clear hp hlI
      have hX := HX.out
      have hR := HR.out
      have x0 : wr.cell? ⟨G, 0, none⟩ = some (.int .i64 x.cy) := by simp [World.cell?, hX]
      have x1 : wr.cell? ⟨G, 1, none⟩ = some (.int .i64 x.gr) := by simp [World.cell?, hX]
      have x2 : wr.cell? ⟨G, 2, none⟩ = some v := by simp [World.cell?, hX]
      have r0 : wr.cell? ⟨G + 1, 0, none⟩ = some (.int .i64 0) := by simp [World.cell?, hR]
      have r1 : wr.cell? ⟨G + 1, 1, none⟩ = some (.int .i64 0) := by simp [World.cell?, hR]
      have r2 : wr.cell? ⟨G + 1, 2, none⟩ = some (.slice none 0 0) := by simp [World.cell?, hR]
      have fr : ∀ i, wr.frozen? ⟨G + 1, i, none⟩ = false := fun i => by simp [World.frozen?, hR]
      clear hX hR
      obtain ⟨A9, cap9, rfl, -⟩ := ownsRow_form HQ.out.row
      go_wp2_with fail
      (try simp only [Exit.inBlock, Exit.then])
      rw [← HGW.out]
      have hR2 := HR.out
      have z0 := fun (X Y Z : Value) => set3_0' wr (G + 1) X Y Z (by rw [r0]; rfl)
      have z1 := fun (X Y Z : Value) => set3_1' wr (G + 1) X Y Z (by rw [r1]; rfl)
      have z2 := fun (X Y Z : Value) => set3_2' wr (G + 1) X Y Z (by rw [r2]; rfl)
      refine bodyPost_ret (v := .agg #[.int .i64 x.cy, .int .i64 x.gr, .slice A9 x.cs.length cap9]) (by simp [results, Tryz.results12, go_sem, z0, z1, z2]) rfl ⟨⟨_, lvs, Bl, rfl, ?_, by simpa [World.setCell] using hBl⟩, ?_⟩
      · exact (((HQ.out.grown_own (grownBy_set _ (G + 1) 0 _) (fun r hr => .inl (by cases hr; omega))).grown_own (grownBy_set _ (G + 1) 1 _) (fun r hr => .inl (by cases hr; omega))).grown_own (grownBy_set _ (G + 1) 2 _) (fun r hr => .inl (by cases hr; omega))).mono (by omega)
      · exact ((HB.out.setCell (p := ⟨G + 1, 0, none⟩) (by simp) _).setCell (p := ⟨G + 1, 1, none⟩) (by simp) _).setCell (p := ⟨G + 1, 2, none⟩) (by simp) _
end Go.Proofs.YtnnnpliigdfipaaGreatDoor
