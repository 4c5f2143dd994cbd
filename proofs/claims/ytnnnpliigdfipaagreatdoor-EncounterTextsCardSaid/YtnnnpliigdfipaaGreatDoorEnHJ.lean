/- encounter: spoil. -/
import Derived.Test.YtnnnpliigdfipaaGreatDoorRows
import Derived.WalkKit
import Derived.WalkLawsBesides
import Derived.WalkSpells
import Derived.ProofKit
import Derived.Below
import Derived.Outline
import Derived.Lib.Hide
import Derived.Deep.RegionWith
import Derived.Deep.RegionHeld3
import Derived.Deep.DrawnRows
import Derived.StillTailTactics
import Derived.BigQuiet
import Derived.Deep.QuietTactic
import Derived.Deep.LoopGhost
import Derived.IntWalk
import Derived.Lib.MinMax
import Derived.Test.YtnnnpliigdfipaaGreatDoorEnBD
namespace Go.Proofs.YtnnnpliigdfipaaGreatDoor
open Go.RowKit
attribute [local go_sem ↓] Go.wp_at_zero Go.wp_at_succ
attribute [local go_sem] wrap_lit
/-- what spoil may rely on: the row's block, each aircraft's legs -/
structure SL (w : World) (n0 g : Nat) (cs : List Cr) (lvs : List Value) : Prop where
  row : ∃ cur, w.heap[g]? = some (.cells cur 63 (0, 0)) ∧ cs.length * 13 ≤ cur.size ∧ ∀ (j : Nat) (lv : Value), lvs[j]? = some lv → cur[j * 13 + 8]? = some lv
  legs : ∀ (j : Nat) (c : Cr) (lv : Value), cs[j]? = some c → lvs[j]? = some lv → ∃ A cap, lv = .slice A c.lg.length cap ∧ (0 < c.lg.length → ∃ gj cur, A = some ⟨gj, 0, none⟩ ∧ n0 ≤ gj ∧ w.heap[gj]? = some (.cells cur 54 (0, 0)) ∧ c.lg.length * 2 ≤ cur.size)
theorem set_keep {w : World} {b : Nat} {cur : Array Value} {T : TypeId} {f : Nat × Nat} (h : w.heap[b]? = some (.cells cur T f)) (g i : Nat) (u : Value) : ∃ cur', (w.setCell ⟨g, i, none⟩ u).heap[b]? = some (.cells cur' T f) ∧ cur'.size = cur.size := by
  by_cases e : b = g
  · subst e
    exact ⟨_, setCell_heap _ _ _ _ _ _ _ h, by simp⟩
  · exact ⟨cur, (set_far _ _ _ _ _ e).trans h, rfl⟩
theorem SL.setLeg {w : World} {n0 g : Nat} {cs : List Cr} {lvs : List Value} (h : SL w n0 g cs lvs) {gj i : Nat} {cu : Array Value} (hg : w.heap[gj]? = some (.cells cu 54 (0, 0))) (u : Value) : SL (w.setCell ⟨gj, i, none⟩ u) n0 g cs lvs where
  row := by
    obtain ⟨cur, h1, h2, h3⟩ := h.row
    refine ⟨cur, (set_far _ _ _ _ _ (fun e => ?_)).trans h1, h2, h3⟩
    subst e
    rw [h1] at hg
    injection hg with e
    injection e with _ e _
    revert e; decide
  legs := fun j c lv h1 h2 => by
    obtain ⟨A, cap, e, h3⟩ := h.legs j c lv h1 h2
    refine ⟨A, cap, e, fun h0 => ?_⟩
    obtain ⟨g', cur, e1, e2, e3, e4⟩ := h3 h0
    obtain ⟨cur', q1, q2⟩ := set_keep e3 gj i u
    exact ⟨g', cur', e1, e2, q1, by omega⟩
theorem SL.setRow {w : World} {n0 g : Nat} {cs : List Cr} {lvs : List Value} (h : SL w n0 g cs lvs) (j : Nat) (u : Value) : SL (w.setCell ⟨g, j * 13, none⟩ u) n0 g cs lvs where
  row := by
    obtain ⟨cur, h1, h2, h3⟩ := h.row
    refine ⟨_, setCell_heap _ _ _ _ _ _ _ h1, by simpa using h2, fun k lv hk => ?_⟩
    have := h3 k lv hk
    rw [Array.getElem?_setIfInBounds_ne (by omega)]
    exact this
  legs := fun k c lv h1 h2 => by
    obtain ⟨A, cap, e, h3⟩ := h.legs k c lv h1 h2
    refine ⟨A, cap, e, fun h0 => ?_⟩
    obtain ⟨g', cur, e1, e2, e3, e4⟩ := h3 h0
    obtain ⟨cur', q1, q2⟩ := set_keep e3 g (j * 13) u
    exact ⟨g', cur', e1, e2, q1, by omega⟩
theorem SL.below {w w' : World} {n0 g : Nat} {cs : List Cr} {lvs : List Value} (h : SL w n0 g cs lvs) (hb : Below w.heap.size w w') : SL w' n0 g cs lvs where
  row := by
    obtain ⟨cur, h1, h2, h3⟩ := h.row
    exact ⟨cur, (hb.block _ (heap_lt h1)).trans h1, h2, h3⟩
  legs := fun j c lv h1 h2 => by
    obtain ⟨A, cap, e, h3⟩ := h.legs j c lv h1 h2
    refine ⟨A, cap, e, fun h0 => ?_⟩
    obtain ⟨g', cur, e1, e2, e3, e4⟩ := h3 h0
    exact ⟨g', cur, e1, e2, (hb.block _ (heap_lt e3)).trans e3, e4⟩
theorem ownsRow_size {w : World} {base g : Nat} {e : TypeId} {size n cap : Nat} {xs : List Value} (h : w.ownsRow base e size (.slice (some ⟨g, 0, none⟩) n cap) n xs) : ∃ cur : Array Value, w.heap[g]? = some (.cells cur e (0, 0)) ∧ xs.length ≤ cur.size ∧ ∀ (i : Nat) (u : Value), xs[i]? = some u → cur[i]? = some u := by
  obtain ⟨hl, h⟩ := h
  rcases h with ⟨e, -⟩ | ⟨g', cap', cur, e, hb, hg, h1, h2, h3, h4⟩
  · cases e
  · injection e with e1 e2 e3
    injection e1 with e1
    injection e1 with e1
    subst e1
    refine ⟨cur, hg, ?_, fun i u hu => ?_⟩
    · rw [← h4]; simp; omega
    · rw [← h4, List.getElem?_take] at hu
      split at hu
      · simpa using hu
      · cases hu
theorem PS.sl {w : World} {n0 : Nat} {g cap : Nat} {cs : List Cr} {lvs : List Value} {Bl : Nat} (h : PS w n0 (.slice (some ⟨g, 0, none⟩) cs.length cap) cs lvs Bl) : SL w n0 g cs lvs where
  row := by
    obtain ⟨cur, h1, h2, h3⟩ := ownsRow_size h.row
    refine ⟨cur, h1, by rw [crsV_len _ _ h.len] at h2; exact h2, fun j lv hj => ?_⟩
    have hjl : j < cs.length := by rw [← h.len]; exact (List.getElem?_eq_some_iff.1 hj).1
    exact h3 _ _ (crsV_at cs lvs j _ lv 8 (List.getElem?_eq_getElem hjl) hj (by omega))
  legs := fun j c lv h1 h2 => by
    obtain ⟨B, h3, h4, -⟩ := h.legs j c lv h1 h2
    obtain ⟨A, cap, rfl, -, hA⟩ := ownsRow_form h4
    refine ⟨A, cap, rfl, fun h0 => ?_⟩
    obtain ⟨g', rfl, hg', -, -, -⟩ := hA h0
    obtain ⟨cur, q1, q2, -⟩ := ownsRow_size h4
    exact ⟨g', cur, rfl, by omega, q1, by simpa [flat2_len] using q2⟩
theorem cur_some {cur : Array Value} {i : Nat} (h : i < cur.size) : ∃ u, cur[i]? = some u := ⟨_, Array.getElem?_eq_getElem h⟩
set_option maxRecDepth 100000 in
set_option maxHeartbeats 4000000 in
theorem spoil18 (cy gr : Int) (n0 : Nat) (v : Value) (cs : List Cr) (lvs : List Value) (Bl : Nat) (w : World) (hn0 : n0 ≤ w.heap.size) (hp : PS w n0 v cs lvs Bl) (hN : cs.length ≤ 10000) (hG : ∀ c ∈ cs, c.lg.length ≤ 10000) :
    Calls Tryz.prog 18 #[.agg #[.int .i64 cy, .int .i64 gr, v]] w fun e w' => e = .returned (.tuple #[]) ∧ Below n0 w w' := by
  obtain ⟨A, cap, rfl, hcap, hA⟩ := ownsRow_form hp.row
  have HP := Lib.hid hp
  have HG := Lib.hid hG
  have HAA := Lib.hid hA
  have hNI : (cs.length : Int) ≤ 10000 := by omega
  clear hp hG hA
  go_enter Tryz.func18, Tryz.ntmps18
  go_wp2_with fail
  obtain ⟨w0, hw0⟩ : ∃ w0, w0 = w.alloc (.cells #[.int .i64 cy, .int .i64 gr, .slice A cs.length cap] 24) := ⟨_, rfl⟩
  have X0 : Hid (w0.heap[w.heap.size]? = some (.cells #[.int .i64 cy, .int .i64 gr, .slice A cs.length cap] 24 (0, 0))) := Lib.hid (by rw [hw0]; exact heap_alloc_new _ _)
  have b0 : Below w.heap.size w w0 := by rw [hw0]; exact (Below.refl _ _).alloc (Nat.le_refl _) _
  have B0 := Lib.hid b0
  have P0 := Lib.hid (HP.out.below b0)
  have s0 := heap_lt X0.out
  rw [← hw0]
  clear hw0 b0 HP
  by_cases hz : cs.length = 0
  · have hzI : (cs.length : Int) = 0 := by omega
    have x2 : w0.cell? ⟨w.heap.size, 2, none⟩ = some (.slice A cs.length cap) := by simp [World.cell?, X0.out]
    go_loopw [2] (fun i wr => i = .int .i64 0 ∧ wr = w0) (fun _ _ => 0)
    case atStart => exact ⟨rfl, rfl⟩
    case round =>
      obtain ⟨rfl, rfl⟩ := hrel
      go_wp2_with fail
      go_end0
      exact ⟨rfl, B0.out.mono hn0⟩
  · obtain ⟨g, rfl, hg0, hg, -, -⟩ := HAA.out (by omega)
    have S0 := Lib.hid P0.out.sl
    have L0 := Lib.hid P0.out.len
    clear P0 HAA hz
    go_loopw [2] (fun i wr => ∃ k : Nat, k ≤ cs.length ∧ i = .int .i64 k ∧ Hid (SL wr n0 g cs lvs) ∧ wr.heap[w.heap.size]? = w0.heap[w.heap.size]? ∧ Hid (Below n0 w wr)) (fun i _ => cs.length - (intOf i).toNat)
    case atStart => exact ⟨0, Nat.zero_le _, rfl, S0, rfl, Lib.hid (B0.out.mono hn0)⟩
    case round =>
      obtain ⟨k, hk, rfl, HS, hx, HB⟩ := hrel
      have HX := Lib.hid (hx.trans X0.out)
      have x2 : wr.cell? ⟨w.heap.size, 2, none⟩ = some (.slice (some ⟨g, 0, none⟩) cs.length cap) := by simp [World.cell?, HX.out]
      clear hx
      by_cases hlt : k < cs.length
      · have hltI : (k : Int) < (cs.length : Int) := by omega
        obtain ⟨c, hc⟩ : ∃ c, cs[k]? = some c := ⟨_, List.getElem?_eq_getElem hlt⟩
        obtain ⟨lv, hlv⟩ : ∃ lv, lvs[k]? = some lv := ⟨_, List.getElem?_eq_getElem (by rw [L0.out]; exact hlt)⟩
        obtain ⟨LA, lcap, rfl, -⟩ := HS.out.legs k c lv hc hlv
        have hgl := HG.out c (List.mem_of_getElem? hc)
        have hglI : (c.lg.length : Int) ≤ 10000 := by omega
        have HC := Lib.hid hc
        have HLV := Lib.hid hlv
        clear hc hlv
        go_wp2_with fail
        clear x2
        go_loopw [3] (fun i wx => ∃ m : Nat, m ≤ c.lg.length ∧ i = .int .i64 m ∧ Hid (SL wx n0 g cs lvs) ∧ wx.heap[w.heap.size]? = w0.heap[w.heap.size]? ∧ Hid (Below n0 w wx)) (fun i _ => c.lg.length - (intOf i).toNat)
        case atStart => exact ⟨0, Nat.zero_le _, rfl, HS, HX.out.trans X0.out.symm, HB⟩
        case round =>
          obtain ⟨m, hm, rfl, HS2, hx, HB2⟩ := hrel
          have HX2 := Lib.hid (hx.trans X0.out)
          obtain ⟨cg, g1, g2, g3⟩ := HS2.out.row
          have x2 : wr.cell? ⟨w.heap.size, 2, none⟩ = some (.slice (some ⟨g, 0, none⟩) cs.length cap) := by simp [World.cell?, HX2.out]
          have y8 : wr.cell? ⟨g, k * 13 + 8, none⟩ = some (.slice LA c.lg.length lcap) := by simp [World.cell?, g1, g3 k _ HLV.out]
          have hwg : w.heap.size ≠ g := fun e => by omega
          clear hx
          by_cases hltm : m < c.lg.length
          · obtain ⟨A2, cap2, e, h3⟩ := HS2.out.legs k c _ HC.out HLV.out
            injection e with e1 e2 e3
            subst e1 e3
            obtain ⟨gj, cu, rfl, q2, q3, q4⟩ := h3 (by omega)
            obtain ⟨u0, hu0⟩ := cur_some (cur := cu) (i := m * 2) (by omega)
            obtain ⟨u1, hu1⟩ := cur_some (cur := cu) (i := m * 2 + 1) (by omega)
            have l0 : wr.cell? ⟨gj, m * 2, none⟩ = some u0 := by simp [World.cell?, q3, hu0]
            have l1 : wr.cell? ⟨gj, m * 2 + 1, none⟩ = some u1 := by simp [World.cell?, q3, hu1]
            have fj : ∀ i, wr.frozen? ⟨gj, i, none⟩ = false := fun i => by simp [World.frozen?, q3]
            have hltmI : (m : Int) < (c.lg.length : Int) := by omega
            have Q3 := Lib.hid q3
            have hwj : w.heap.size ≠ gj := fun e => by
              have h := HX2.out
              rw [e, q3] at h
              injection h with h
              injection h with _ h _
              revert h; decide
            clear h3 q3 g1 g3 hu0 hu1 e2
            go_wp2_with fail
            obtain ⟨cu2, z1, -⟩ := set_keep Q3.out gj (m * 2) (.int .i64 (-7))
            exact ⟨⟨m + 1, by omega, by go_num, Lib.hid ((HS2.out.setLeg Q3.out _).setLeg z1 _), ((set_far _ _ _ _ _ hwj).trans (set_far _ _ _ _ _ hwj)).trans (HX2.out.trans X0.out.symm), Lib.hid ((HB2.out.setCell (p := ⟨gj, m * 2, none⟩) q2 _).setCell (p := ⟨gj, m * 2 + 1, none⟩) q2 _)⟩, by simp [intOf]; omega⟩
          · obtain rfl : m = c.lg.length := by omega
            obtain ⟨u0, hu0⟩ := cur_some (cur := cg) (i := k * 13) (by omega)
            have l0 : wr.cell? ⟨g, k * 13, none⟩ = some u0 := by simp [World.cell?, g1, hu0]
            have fj : ∀ i, wr.frozen? ⟨g, i, none⟩ = false := fun i => by simp [World.frozen?, g1]
            have hltmI : ¬ (c.lg.length : Int) < (c.lg.length : Int) := by omega
            clear g1 g3 hu0
            go_wp2_with fail
            exact ⟨⟨k + 1, by omega, by go_num, Lib.hid (HS2.out.setRow k _), (set_far _ _ _ _ _ hwg).trans (HX2.out.trans X0.out.symm), Lib.hid (HB2.out.setCell (p := ⟨g, k * 13, none⟩) hg0 _)⟩, by simp [intOf]; omega⟩
      · have hltI : ¬ (k : Int) < (cs.length : Int) := by omega
        go_wp2_with fail
        go_end0
        exact ⟨rfl, HB.out⟩
end Go.Proofs.YtnnnpliigdfipaaGreatDoor
