/- squitter: Now, advance. -/
import Derived.Test.YtkikokldijccnaaGreatDoorRows
import Derived.WalkKit
import Derived.WalkLawsBesides
import Derived.WalkSpells
import Derived.ProofKit
import Derived.Below
import Derived.Outline
import Derived.Lib.Hide
import Derived.Deep.RegionWith
import Derived.Deep.RegionHeld3
import Derived.Deep.DrawnRows
import Derived.StillTailTactics
import Derived.BigQuiet
import Derived.Deep.QuietTactic
import Derived.Deep.LoopGhost
import Derived.IntWalk
import Derived.BigQuiet
import Derived.Test.YtkikokldijccnaaGreatDoorSqB
namespace Go.Proofs.YtkikokldijccnaaGreatDoor
open Go.RowKit Go.Maps
attribute [local go_sem ↓] Go.wp_at_zero Go.wp_at_succ
attribute [local go_sem] wrap_lit
theorem int_law : Keyed Tryz.prog 3 := int_keyed Tryz.underlying3
theorem TabC.cell {w : World} {H mb : Nat} {t : Ts} {bk gk : Int → Nat} {O : Nat → Prop} (h : TabC w H mb t bk gk O) : w.cell? ⟨H, 0, none⟩ = some (.int .i64 t.need) ∧ w.cell? ⟨H, 1, none⟩ = some (.int .i64 t.win) ∧ w.cell? ⟨H, 2, none⟩ = some (.int .i64 t.keep) ∧ w.cell? ⟨H, 3, none⟩ = some (.int .i64 t.now) ∧ w.cell? ⟨H, 4, none⟩ = some (.map (some mb)) :=
  ⟨cellOf h.cells, cellOf h.cells, cellOf h.cells, cellOf h.cells, cellOf h.cells⟩
theorem ne_of_cells {w : World} {a b : Nat} {o p : Obj} (ha : w.heap[a]? = some o) (hb : w.heap[b]? = some p) (h : o ≠ p) : a ≠ b := fun e => h (by subst e; rw [ha] at hb; exact Option.some.inj hb)
theorem OwnT.obj {w : World} {mb : Nat} {es : List (Int × Tk)} {bk : Int → Nat} (h : OwnT w mb es bk) : ∃ a c, w.heap[mb]? = some (.map a c) := by
  obtain ⟨es, clock, h1, _⟩ := h
  exact ⟨_, _, h1⟩
theorem EntAt.objb {w : World} {b g : Nat} {x : Tk} (h : EntAt w b g x) : ∃ c, w.heap[b]? = some (.cells c 65 (0, 0)) := by
  obtain ⟨_, _, _, h1, _⟩ := h
  exact ⟨_, h1⟩
theorem EntAt.objg {w : World} {b g : Nat} {x : Tk} (h : EntAt w b g x) : ∃ c, w.heap[g]? = some (.cells c 3 (0, 0)) := by
  obtain ⟨_, _, _, _, h1, _⟩ := h
  exact ⟨_, h1⟩
/-- the kinds of a table's blocks tell them apart -/
theorem Tab.apart {w : World} {H mb : Nat} {t : Ts} {bk gk : Int → Nat} {O : Nat → Prop} (c : TabC w H mb t bk gk O) (hm : ∃ a k, w.heap[mb]? = some (.map a k)) : H ≠ mb ∧ ∀ p ∈ t.es, bk p.1 ≠ mb ∧ gk p.1 ≠ mb ∧ bk p.1 ≠ H ∧ gk p.1 ≠ H ∧ ∀ q ∈ t.es, bk p.1 ≠ gk q.1 := by
  obtain ⟨a, k, hm⟩ := hm
  refine ⟨ne_of_cells c.cells hm (by simp), fun p hp => ?_⟩
  obtain ⟨cb, hb⟩ := (c.ent p hp).objb
  obtain ⟨cg, hg⟩ := (c.ent p hp).objg
  refine ⟨ne_of_cells hb hm (by simp), ne_of_cells hg hm (by simp), ne_of_cells hb c.cells (by simp), ne_of_cells hg c.cells (by simp), fun q hq => ?_⟩
  obtain ⟨cq, hq⟩ := (c.ent q hq).objg
  exact ne_of_cells hb hq (by simp)
theorem now14 {w : World} {H mb : Nat} {t : Ts} {bk gk : Int → Nat} {O : Nat → Prop} (hT : Tab w H mb t bk gk O) : Calls Tryz.prog 9 #[.pointer (some ⟨H, 0, none⟩)] w fun e w' => e = .returned (.int .i64 t.now) ∧ w' = w := by
  obtain ⟨c0, c1, c2, c3, c4⟩ := hT.c.cell
  go_enter Tryz.func9, Tryz.ntmps9
  go_wp2_with (first | (go_at_call 17; refine (none32 _ H mb c4).mono ?_; rintro e w1 ⟨rfl, rfl⟩) | go_in)
  go_ret
  exact ⟨rfl, rfl⟩
theorem now14z {w : World} {H : Nat} (c4 : w.cell? ⟨H, 4, none⟩ = some (.map none)) : Calls Tryz.prog 9 #[.pointer (some ⟨H, 0, none⟩)] w fun e w' => e = .returned (.int .i64 0) ∧ w' = w := by
  go_enter Tryz.func9, Tryz.ntmps9
  go_wp2_with (first | (go_at_call 17; refine (none32z _ H c4).mono ?_; rintro e w1 ⟨rfl, rfl⟩) | go_in)
  go_ret
  exact ⟨rfl, rfl⟩
theorem now14n {w : World} : Calls Tryz.prog 9 #[.pointer none] w fun e w' => e = .returned (.int .i64 0) ∧ w' = w := by
  go_enter Tryz.func9, Tryz.ntmps9
  go_wp2_with (first | (go_at_call 17; refine (none32n _).mono ?_; rintro e w1 ⟨rfl, rfl⟩) | go_in)
  go_ret
  exact ⟨rfl, rfl⟩
theorem setCell_cells {w : World} {b i : Nat} {cs : Array Value} {ty : TypeId} {z : Nat × Nat} {v : Value} (h : w.heap[b]? = some (.cells cs ty z)) : (w.setCell ⟨b, i, none⟩ v).heap[b]? = some (.cells (cs.setIfInBounds i v) ty z) := by
  simp [World.setCell, Array.getElem?_modify, h]
theorem frozenOf {w : World} {b i : Nat} {cs : Array Value} {ty : TypeId} (h : w.heap[b]? = some (.cells cs ty (0, 0))) : w.frozen? ⟨b, i, none⟩ = false := by simp [World.frozen?, h]
theorem size_setCell (w : World) (a : Addr) (v : Value) : (w.setCell a v).heap.size = w.heap.size := by simp [World.setCell]
theorem last_get : ∀ {l : List Int}, l ≠ [] → l[l.length - 1]? = some (lastC l)
  | [], h => absurd rfl h
  | [c], _ => rfl
  | c :: d :: l, _ => by
    have ih := last_get (l := d :: l) (by simp)
    have e : lastC (c :: d :: l) = lastC (d :: l) := by simp [lastC, List.getLastD]
    rw [e, ← ih]
    simp
def lenAt (w : World) (b : Nat) : Nat := match w.cell? ⟨b, 1, none⟩ with | some (.slice _ n _) => n | _ => 0
theorem lenAt_of {w : World} {b n cap : Nat} {a : Option Addr} (h : w.cell? ⟨b, 1, none⟩ = some (.slice a n cap)) : lenAt w b = n := by unfold lenAt; rw [h]
theorem grown_set (w : World) (b q : Nat) (v : Value) : w.grownBy (w.setCell ⟨b, q, none⟩ v) (some b) :=
  ⟨rfl, rfl, rfl, Nat.le_of_eq (size_setCell _ _ _).symm, fun k _ hn => Below.heap_setCell _ _ _ _ (fun e => hn (by rw [e]))⟩
theorem TabC.sub {w : World} {H mb : Nat} {t t' : Ts} {bk gk : Int → Nat} {O : Nat → Prop} (h : TabC w H mb t bk gk O) (e1 : t'.need = t.need) (e2 : t'.win = t.win) (e3 : t'.keep = t.keep) (e4 : t'.now = t.now) (hs : ∀ p ∈ t'.es, p ∈ t.es) : TabC w H mb t' bk gk O where
  cells := by rw [e1, e2, e3, e4]; exact h.cells
  ent := fun p hp => h.ent p (hs p hp)
  injb := fun p hp q hq => h.injb p (hs p hp) q (hs q hq)
  injg := fun p hp q hq => h.injg p (hs p hp) q (hs q hq)
  oH := h.oH
  om := h.om
  ob := fun p hp => h.ob p (hs p hp)
  lt := h.lt
set_option maxRecDepth 100000 in
set_option maxHeartbeats 4000000 in
theorem adv44 {w : World} {H mb : Nat} {t : Ts} {bk gk : Int → Nat} {O : Nat → Prop} (hok : Ok t) {now : Int} (hn : t.now ≤ now) (hn1 : now ≤ 1073741824) (hT : Tab w H mb t bk gk O) : Calls Tryz.prog 18 #[.pointer (some ⟨H, 0, none⟩), .int .i64 now] w fun e w' => e = .returned (.tuple #[]) ∧ Tab w' H mb (advT t now) bk gk O ∧ Turn O w w' := by
  obtain ⟨c0, c1, c2, c3, c4⟩ := hT.c.cell
  have hap := Tab.apart hT.c hT.own.obj
  have hHs := hT.c.lt H hT.c.oH
  have t0 := hok.t0
  have hw1 : ∃ w1 : World, w1 = w.setCell ⟨H, 3, none⟩ (.int .i64 now) := ⟨_, rfl⟩
  obtain ⟨w1, hw1⟩ := hw1
  have hT1 : TabC w1 H mb ⟨t.need, t.win, t.keep, now, t.es⟩ bk gk O := by
    have hk : ∀ k, k ≠ H → w1.heap[k]? = w.heap[k]? := fun k hk => by rw [hw1]; exact Below.heap_setCell _ _ _ _ hk
    have hs : w1.heap.size = w.heap.size := by rw [hw1]; simp [World.setCell]
    refine ⟨?_, fun p hp => (hT.c.ent p hp).kept (hk _ (hap.2 p hp).2.2.1) (hk _ (hap.2 p hp).2.2.2.1), hT.c.injb, hT.c.injg, hT.c.oH, hT.c.om, hT.c.ob, fun k hk => by rw [hs]; exact hT.c.lt k hk⟩
    rw [hw1]
    exact setCell_cells hT.c.cells
  have hO1 : OwnT w1 mb t.es bk := hT.own.kept (by rw [hw1]; exact Below.heap_setCell _ _ _ _ hap.1.symm)
  have hU1 : Turn O w w1 := by rw [hw1]; exact (Turn.refl O w).setCell (.inl hT.c.oH) _
  have hs1 : w1.heap.size = w.heap.size := by rw [hw1]; simp [World.setCell]
  obtain ⟨d0, d1, d2, d3, d4⟩ := hT1.cell
  have hfz := frozenOf (i := 3) hT.c.cells
  rw [hw1] at d4
  go_enter Tryz.func18, Tryz.ntmps18
  go_wp2_with (first
    | (at_range; rw [← hw1]; refine wpList_range_own _ rfl _ 34 rfl 3 63 int_law Tryz.underlying34 Rp mb 1000 _ rfl hO1 ?_; intro w2 hrg2 hg2 hs2)
    | go_in)
  clear d4
  rw [hs1] at hrg2
  try go_frame
  go_loopw [4, 5, 6] (fun _ _ _ wr => ∃ (left : Lit → Bool) (cnt : Nat), wr.ranges Tryz.prog 3 Rp mb w.heap.size 1000 (.map (encE bk (midE t now left))) left cnt ∧ TabC wr H mb (midT t now left) bk gk O ∧ Turn O w wr ∧ w.heap.size < wr.heap.size)
    (fun _ _ _ wr => wr.rangeLeft mb w.heap.size)
  case atStart => exact ⟨_, _, by rw [mid_start]; exact hrg2, by
    refine TabC.sub (t := ⟨t.need, t.win, t.keep, now, t.es⟩) ?_ rfl rfl rfl rfl (fun p hp => by rw [show (midT t now _).es = t.es from mid_start bk] at hp; exact hp)
    exact hT1.kept (fun k hk hkm => hg2.block k (hT1.lt k hk) (by simp)) ⟨hap.1, fun p hp => ⟨(hap.2 p hp).1, (hap.2 p hp).2.1⟩⟩ (by omega), hU1.grown hg2 (fun k hk => by cases hk), by omega⟩
  case round =>
    obtain ⟨left, cnt, hrg, hTr, hUr, hsr⟩ := hrel
    obtain ⟨e0, e1, e2, e3, e4⟩ := hTr.cell
    go_wp2_with (first
      | (at_next; refine wpList_next_ranges _ rfl _ rfl 3 int_law Rp (Value.int .i64) (fun b : Nat => Value.pointer (some ⟨b, 0, none⟩)) (fun key kl hkey => by obtain ⟨x, rfl, _⟩ := keyOf_int_inv Tryz.underlying3 hkey; exact ⟨x, rfl⟩) (fun v y hv => by obtain ⟨b, rfl, _⟩ := Rp_inv hv; exact ⟨b, rfl⟩) mb w.heap.size 1000 _ _ _ rfl hrg ?_ ?_)
      | go_in)
    · intro _ hl0
      go_wp2
      go_end0
      exact ⟨rfl, ⟨by rw [← mid_end hl0]; exact hTr, by have := hrg.owns; have e := mid_end (t := t) (now := now) hl0; unfold OwnT; rw [← e]; exact this⟩, hUr⟩
    · intro x c kl y yp w3 cnt3 hkey hlk hR hat hrg3 hlt hg3 hs3 hen
      obtain ⟨x', hx1, rfl, hxw⟩ := keyOf_int_inv Tryz.underlying3 hkey
      obtain rfl : x = x' := by injection hx1
      obtain rfl : y = .lit (.int .i64 c) := by have := hR; simp [Rp] at this; exact this.1.symm
      obtain ⟨p, hp, hpx⟩ := enc_found hat
      obtain ⟨q, hq, hq1, hpe⟩ := mid_mem.1 hp
      have hqx : q.1 = x := by rw [hpe] at hpx; exact hpx
      obtain ⟨qa, e⟩ := q
      obtain rfl : qa = x := hqx
      have hbk : c = bk qa := by
        have := enc_at (bk := bk) (x := qa) (es := midE t now left) (z := .lit (.int .i64 0)) ⟨p, hp, hpx⟩
        rw [hat] at this
        simp at this
        omega
      subst hbk
      have hme : (qa, e) ∈ midE t now left := mid_has hq hlk
      have hoe := hok.ent _ hq
      have hN64 : (e.cy.length : Int) ≤ t.win := hoe.len (by have := hok.n1; have := hok.nw; omega)
      have hw64 := hok.w64
      have hne : e.cy ≠ [] := hoe.ne
      have hN1 : 1 ≤ e.cy.length := List.length_pos_iff.2 hne
      have hl0 : 0 ≤ lastC e.cy := (hoe.c0 _ (lastC_mem hne)).1
      have hl1 : lastC e.cy ≤ t.now := (hoe.c0 _ (lastC_mem hne)).2
      have hapr := Tab.apart hTr (OwnT.obj (es := midE t now left) (bk := bk) hrg.owns)
      have hOr : ∀ k, O k → k ≠ w.heap.size := fun k hk e => by have := hT.c.lt k hk; omega
      have hT3 : TabC w3 H mb (midT t now left) bk gk O := hTr.kept (fun k hk _ => hg3.block k (hTr.lt k hk) (fun e => hOr k hk (Option.some.inj e))) ⟨hapr.1, fun p hp => ⟨(hapr.2 p hp).1, (hapr.2 p hp).2.1⟩⟩ hg3.size
      have hU3 : Turn O w w3 := hUr.grown hg3 (fun k hk => .inr (by cases hk; exact Nat.le_refl _))
      obtain ⟨off, cap, cur, hb, hg, hcap, hcur, hmax, hval⟩ := hT3.ent (qa, e) hme
      have f0 : w3.cell? ⟨bk qa, 0, none⟩ = some (.bool e.kn) := cellOf hb
      have f1 : w3.cell? ⟨bk qa, 1, none⟩ = some (.slice (some ⟨gk qa, off, none⟩) e.cy.length cap) := cellOf hb
      have f2 : w3.cell? ⟨gk qa, off + (e.cy.length - 1), none⟩ = some (.int .i64 (lastC e.cy)) := (cellOf hg).trans (hval _ _ (last_get hne))
      have g1 : w3.cell? ⟨H, 1, none⟩ = some (.int .i64 t.win) := hT3.cell.2.1
      have g2 : w3.cell? ⟨H, 2, none⟩ = some (.int .i64 t.keep) := hT3.cell.2.2.1
      have g4 : w3.cell? ⟨H, 4, none⟩ = some (.map (some mb)) := hT3.cell.2.2.2.2
      have HV := Lib.hid hval
      have HR3 := Lib.hid hrg3
      have HE := Lib.hid hen
      clear hval
      go_wp2_with fail
      go_quiet (fail)
      have hrg4 : (w3.drewN nq).ranges Tryz.prog 3 Rp mb w.heap.size 1000 (.map (encE bk (midE t now left))) (fun z : Lit => left z && !z.sameKey (.int .i64 qa)) cnt3 := HR3.out
      have hT4 : TabC (w3.drewN nq) H mb (midT t now left) bk gk O := hT3.kept (fun _ _ _ => rfl) ⟨hapr.1, fun p hp => ⟨(hapr.2 p hp).1, (hapr.2 p hp).2.1⟩⟩ (Nat.le_refl _)
      have hU4 : Turn O w (w3.drewN nq) := hU3.drewN nq
      have hs4 : w.heap.size < (w3.drewN nq).heap.size := Nat.lt_of_lt_of_le hsr hg3.size
      have hd : deadT t now e = (decide (t.keep ≤ now - lastC e.cy) || (!e.kn && decide (t.win ≤ now - lastC e.cy))) := rfl
      cases q1 : decide (t.keep ≤ now - lastC e.cy) with
      | true =>
        have hdd : deadT t now e = true := by rw [hd, q1]; rfl
        clear hd
        go_wp2_with (first
          | (at_delete; refine wpList_delete_ranges _ rfl _ _ 34 3 rfl 63 int_law Tryz.underlying34 Rp mb w.heap.size 1000 _ _ _ rfl hrg4 _ _ rfl (keyOf_int_mk Tryz.underlying3 hxw) ?_; intro w5 cnt5 hrg5 hle hturn; go_frame)
          | go_in)
        rw [strike_twice, mid_dead hok.asc hq hdd bk] at hrg5
        go_roundw
        case rel =>
          have hg5 := hturn.grown
          have hT5 : TabC w5 H mb (midT t now left) bk gk O := hT4.kept (fun k hk hkm => hg5.block k (hT4.lt k hk) (fun e => hkm (Option.some.inj e))) ⟨hapr.1, fun p hp => ⟨(hapr.2 p hp).1, (hapr.2 p hp).2.1⟩⟩ hg5.size
          exact ⟨_, cnt5, hrg5, hT5.sub rfl rfl rfl rfl (fun p hp => by
            rcases mid_next hok.asc hq hp with g | g
            · exact g.2
            · rw [hdd] at g; exact absurd g.2 (by decide)), hU4.grown hg5 (fun k hk => .inl (by cases hk; exact hT.c.om)), Nat.lt_of_lt_of_le hs4 hg5.size⟩
        case measure => rw [hrg5.left_eq, hrg.left_eq]; omega
      | false =>
        cases hkn : e.kn with
        | true =>
          rw [hkn] at f0
          have hdd : deadT t now e = false := by rw [hd, q1, hkn]; rfl
          clear hd
          go_wp2_with fail
          have hpp := (hapr.2 _ hme).2.2.2.2
          go_loopw [] (fun wi => ∃ cy : List Int, cy ≠ [] ∧ trimC t.win now cy = trimC t.win now e.cy ∧ cy.length ≤ e.cy.length ∧ (∀ c ∈ cy, 0 ≤ c ∧ c ≤ t.now) ∧ EntAt wi (bk qa) (gk qa) ⟨e.kn, cy⟩ ∧ (w3.drewN nq).grownBy wi (some (bk qa)) ∧ wi.heap.size = (w3.drewN nq).heap.size)
            (fun wi => lenAt wi (bk qa))
          case atStart => exact ⟨e.cy, hne, rfl, Nat.le_refl _, hoe.c0, ⟨off, cap, cur, hb, hg, hcap, hcur, hmax, HV.out⟩, World.grownBy.refl _ _, rfl⟩
          case round =>
            obtain ⟨cy, i1, i2, i3, i4, i5, i6, i7⟩ := hrel
            have hHb : H ≠ bk qa := fun e => (hapr.2 _ hme).2.2.1 e.symm
            have hHw : H < (w3.drewN nq).heap.size := hT4.lt H hT.c.oH
            have k0 : wr.cell? ⟨H, 1, none⟩ = some (.int .i64 t.win) := (i6.cell_far ⟨H, 1, none⟩ hHw (fun e => hHb (Option.some.inj e))).trans g1
            have X : trimC t.win now cy = cy → ∀ n, (wr.drewN n).ranges Tryz.prog 3 Rp mb w.heap.size 1000 (.map (encE bk (midE t now (fun z : Lit => left z && !z.sameKey (.int .i64 qa))))) (fun z : Lit => left z && !z.sameKey (.int .i64 qa)) cnt3 ∧ TabC (wr.drewN n) H mb (midT t now (fun z : Lit => left z && !z.sameKey (.int .i64 qa))) bk gk O ∧ Turn O w (wr.drewN n) ∧ w.heap.size < (wr.drewN n).heap.size := by
              intro ht n
              have htr : (⟨e.kn, cy⟩ : Tk) = trimT t now e := by unfold trimT; rw [← i2, ht]
              rw [htr] at i5
              have hnx : ∀ p ∈ midE t now (fun z : Lit => left z && !z.sameKey (.int .i64 qa)), ∃ p' ∈ midE t now left, p'.1 = p.1 := fun p hp => by
                rcases mid_next hok.asc hq hp with g | g
                · exact ⟨p, g.2, rfl⟩
                · exact ⟨_, hme, by rw [g.1]⟩
              refine ⟨?_, ⟨?_, fun p hp => ?_, fun p hp q hq => ?_, fun p hp q hq => ?_, hT.c.oH, hT.c.om, fun p hp => ?_, fun k hk => ?_⟩, ?_, ?_⟩
              · have hrk := hrg4.kept i6 (fun e => (hapr.2 _ hme).1 (Option.some.inj e).symm) (fun e => by have := hOr _ (hT4.ob _ hme).1; exact this (Option.some.inj e).symm)
                rw [mid_live hok.asc hq hdd bk] at hrk
                exact hrk
              · exact (i6.block H hHw (fun e => hHb (Option.some.inj e))).trans hT4.cells
              · rcases mid_next hok.asc hq hp with g | g
                · have ho := hT4.ob _ g.2
                  exact (hT4.ent p g.2).kept (i6.block _ (hT4.lt _ ho.1) (fun e => g.1 (hT4.injb _ g.2 _ hme (Option.some.inj e)))) (i6.block _ (hT4.lt _ ho.2) (fun e => (hapr.2 _ hme).2.2.2.2 _ g.2 (Option.some.inj e).symm))
                · rw [g.1]; exact i5
              · intro e
                obtain ⟨p', hp', e1⟩ := hnx p hp
                obtain ⟨q', hq', e2⟩ := hnx q hq
                rw [← e1, ← e2] at e ⊢
                exact hT4.injb _ hp' _ hq' e
              · intro e
                obtain ⟨p', hp', e1⟩ := hnx p hp
                obtain ⟨q', hq', e2⟩ := hnx q hq
                rw [← e1, ← e2] at e ⊢
                exact hT4.injg _ hp' _ hq' e
              · obtain ⟨p', hp', e1⟩ := hnx p hp
                rw [← e1]; exact hT4.ob _ hp'
              · show k < wr.heap.size
                rw [i7]; exact hT4.lt k hk
              · exact (hU4.grown i6 (fun k hk => .inl (by cases hk; exact (hT4.ob _ hme).1))).drewN n
              · show w.heap.size < wr.heap.size
                rw [i7]; exact hs4
            have HX := Lib.hid X
            clear X
            obtain ⟨off', cap', cur', jb, jg, jcap, jcur, jmax, jval⟩ := i5
            have k1 : wr.cell? ⟨bk qa, 1, none⟩ = some (.slice (some ⟨gk qa, off', none⟩) cy.length cap') := cellOf jb
            have kz : wr.frozen? ⟨bk qa, 1, none⟩ = false := frozenOf jb
            rcases cy with _ | ⟨c0, _ | ⟨c1, cs⟩⟩
            · exact absurd rfl i1
            · have k1' : wr.cell? ⟨bk qa, 1, none⟩ = some (.slice (some ⟨gk qa, off', none⟩) 1 cap') := k1
              clear k1
              have HJ := Lib.hid jval
              clear jval
              go_wp2_with fail
              go_quiet (fail)
              go_wp2_with fail
              go_roundw
              case rel => obtain ⟨x1, x2, x3, x4⟩ := HX.out rfl _; exact ⟨_, cnt3, x1, x2, x3, x4⟩
              case measure => obtain ⟨x1, _⟩ := HX.out rfl _; rw [x1.left_eq, hrg.left_eq]; omega
            · have k2 : wr.cell? ⟨gk qa, off', none⟩ = some (.int .i64 c0) := (cellOf jg).trans (jval 0 c0 rfl)
              obtain ⟨kc0, kc1⟩ := i4 c0 (List.mem_cons_self ..)
              have kl : ((c0 :: c1 :: cs).length : Int) = (cs.length : Int) + 2 := by simp; omega
              have kl1 : (1 : Int) < ((c0 :: c1 :: cs).length : Int) := by omega
              have HJ := Lib.hid jval
              clear jval
              generalize hLL : (c0 :: c1 :: cs).length = LL at k1 kl kl1 i3 jcap
              have HK := Lib.hid (And.intro hLL kl)
              clear hLL kl
              have kd : decide ((1 : Int) < (LL : Int)) = true := decide_eq_true kl1
              cases q3 : decide (t.win ≤ now - c0) with
              | false =>
                go_wp2_with fail
                go_quiet (fail)
                go_wp2_with fail
                go_roundw
                case rel => obtain ⟨x1, x2, x3, x4⟩ := HX.out (by unfold trimC; rw [if_neg (by simpa using q3)]) _; exact ⟨_, cnt3, x1, x2, x3, x4⟩
                case measure => obtain ⟨x1, _⟩ := HX.out (by unfold trimC; rw [if_neg (by simpa using q3)]) _; rw [x1.left_eq, hrg.left_eq]; omega
              | true =>
                go_wp2_with fail
                go_quiet (fail)
                go_wp2_with fail
                obtain ⟨hLL, kl⟩ := HK.out
                have jb2 := setCell_cells (i := 1) (v := Value.slice (some ⟨gk qa, off' + 1, none⟩) (LL - 1) (cap' - 1)) (w := wr.drewN nq) jb
                have hbg : gk qa ≠ bk qa := fun e => hpp _ hme e.symm
                have e1 : LL - 1 = (c1 :: cs).length := by rw [← hLL]; simp
                refine ⟨⟨c1 :: cs, by simp, ?_, ?_, fun c hc => i4 c (List.mem_cons_of_mem _ hc), ⟨off' + 1, cap' - 1, cur', ?_, ?_, ?_, ?_, ?_, ?_⟩, ?_, ?_⟩, ?_⟩
                · rw [← i2]; conv => rhs; unfold trimC; rw [if_pos (by simpa using q3)]
                · rw [← e1]; omega
                · rw [← e1]; exact jb2
                · exact (Below.heap_setCell _ _ _ _ hbg).trans jg
                · rw [← e1]; omega
                · omega
                · omega
                · intro j c hj
                  have := HJ.out (j + 1) c hj
                  rw [show off' + 1 + j = off' + (j + 1) by omega]
                  exact this
                · exact World.grownBy.trans (b := wr.drewN nq) ⟨i6.os, i6.tape, i6.output, i6.size, i6.block⟩ (grown_set _ _ _ _)
                · rw [size_setCell]; exact i7
                · rw [lenAt_of k1, lenAt_of (cellOf jb2)]; omega
        | false =>
          rw [hkn] at f0
          cases q2 : decide (t.win ≤ now - lastC e.cy) with
          | true =>
            have hdd : deadT t now e = true := by rw [hd, q1, hkn, q2]; rfl
            clear hd
            go_wp2_with (first
              | (at_delete; refine wpList_delete_ranges _ rfl _ _ 34 3 rfl 63 int_law Tryz.underlying34 Rp mb w.heap.size 1000 _ _ _ rfl hrg4 _ _ rfl (keyOf_int_mk Tryz.underlying3 hxw) ?_; intro w5 cnt5 hrg5 hle hturn; go_frame)
              | go_in)
            rw [strike_twice, mid_dead hok.asc hq hdd bk] at hrg5
            go_roundw
            case rel =>
              have hg5 := hturn.grown
              have hT5 : TabC w5 H mb (midT t now left) bk gk O := hT4.kept (fun k hk hkm => hg5.block k (hT4.lt k hk) (fun e => hkm (Option.some.inj e))) ⟨hapr.1, fun p hp => ⟨(hapr.2 p hp).1, (hapr.2 p hp).2.1⟩⟩ hg5.size
              exact ⟨_, cnt5, hrg5, hT5.sub rfl rfl rfl rfl (fun p hp => by
                rcases mid_next hok.asc hq hp with g | g
                · exact g.2
                · rw [hdd] at g; exact absurd g.2 (by decide)), hU4.grown hg5 (fun k hk => .inl (by cases hk; exact hT.c.om)), Nat.lt_of_lt_of_le hs4 hg5.size⟩
            case measure => rw [hrg5.left_eq, hrg.left_eq]; omega
          | false =>
            have hdd : deadT t now e = false := by rw [hd, q1, hkn, q2]; rfl
            clear hd
            go_wp2_with fail
            have hpp := (hapr.2 _ hme).2.2.2.2
            go_loopw [] (fun wi => ∃ cy : List Int, cy ≠ [] ∧ trimC t.win now cy = trimC t.win now e.cy ∧ cy.length ≤ e.cy.length ∧ (∀ c ∈ cy, 0 ≤ c ∧ c ≤ t.now) ∧ EntAt wi (bk qa) (gk qa) ⟨e.kn, cy⟩ ∧ (w3.drewN nq).grownBy wi (some (bk qa)) ∧ wi.heap.size = (w3.drewN nq).heap.size)
              (fun wi => lenAt wi (bk qa))
            case atStart => exact ⟨e.cy, hne, rfl, Nat.le_refl _, hoe.c0, ⟨off, cap, cur, hb, hg, hcap, hcur, hmax, HV.out⟩, World.grownBy.refl _ _, rfl⟩
            case round =>
              obtain ⟨cy, i1, i2, i3, i4, i5, i6, i7⟩ := hrel
              have hHb : H ≠ bk qa := fun e => (hapr.2 _ hme).2.2.1 e.symm
              have hHw : H < (w3.drewN nq).heap.size := hT4.lt H hT.c.oH
              have k0 : wr.cell? ⟨H, 1, none⟩ = some (.int .i64 t.win) := (i6.cell_far ⟨H, 1, none⟩ hHw (fun e => hHb (Option.some.inj e))).trans g1
              have X : trimC t.win now cy = cy → ∀ n, (wr.drewN n).ranges Tryz.prog 3 Rp mb w.heap.size 1000 (.map (encE bk (midE t now (fun z : Lit => left z && !z.sameKey (.int .i64 qa))))) (fun z : Lit => left z && !z.sameKey (.int .i64 qa)) cnt3 ∧ TabC (wr.drewN n) H mb (midT t now (fun z : Lit => left z && !z.sameKey (.int .i64 qa))) bk gk O ∧ Turn O w (wr.drewN n) ∧ w.heap.size < (wr.drewN n).heap.size := by
                intro ht n
                have htr : (⟨e.kn, cy⟩ : Tk) = trimT t now e := by unfold trimT; rw [← i2, ht]
                rw [htr] at i5
                have hnx : ∀ p ∈ midE t now (fun z : Lit => left z && !z.sameKey (.int .i64 qa)), ∃ p' ∈ midE t now left, p'.1 = p.1 := fun p hp => by
                  rcases mid_next hok.asc hq hp with g | g
                  · exact ⟨p, g.2, rfl⟩
                  · exact ⟨_, hme, by rw [g.1]⟩
                refine ⟨?_, ⟨?_, fun p hp => ?_, fun p hp q hq => ?_, fun p hp q hq => ?_, hT.c.oH, hT.c.om, fun p hp => ?_, fun k hk => ?_⟩, ?_, ?_⟩
                · have hrk := hrg4.kept i6 (fun e => (hapr.2 _ hme).1 (Option.some.inj e).symm) (fun e => by have := hOr _ (hT4.ob _ hme).1; exact this (Option.some.inj e).symm)
                  rw [mid_live hok.asc hq hdd bk] at hrk
                  exact hrk
                · exact (i6.block H hHw (fun e => hHb (Option.some.inj e))).trans hT4.cells
                · rcases mid_next hok.asc hq hp with g | g
                  · have ho := hT4.ob _ g.2
                    exact (hT4.ent p g.2).kept (i6.block _ (hT4.lt _ ho.1) (fun e => g.1 (hT4.injb _ g.2 _ hme (Option.some.inj e)))) (i6.block _ (hT4.lt _ ho.2) (fun e => (hapr.2 _ hme).2.2.2.2 _ g.2 (Option.some.inj e).symm))
                  · rw [g.1]; exact i5
                · intro e
                  obtain ⟨p', hp', e1⟩ := hnx p hp
                  obtain ⟨q', hq', e2⟩ := hnx q hq
                  rw [← e1, ← e2] at e ⊢
                  exact hT4.injb _ hp' _ hq' e
                · intro e
                  obtain ⟨p', hp', e1⟩ := hnx p hp
                  obtain ⟨q', hq', e2⟩ := hnx q hq
                  rw [← e1, ← e2] at e ⊢
                  exact hT4.injg _ hp' _ hq' e
                · obtain ⟨p', hp', e1⟩ := hnx p hp
                  rw [← e1]; exact hT4.ob _ hp'
                · show k < wr.heap.size
                  rw [i7]; exact hT4.lt k hk
                · exact (hU4.grown i6 (fun k hk => .inl (by cases hk; exact (hT4.ob _ hme).1))).drewN n
                · show w.heap.size < wr.heap.size
                  rw [i7]; exact hs4
              have HX := Lib.hid X
              clear X
              obtain ⟨off', cap', cur', jb, jg, jcap, jcur, jmax, jval⟩ := i5
              have k1 : wr.cell? ⟨bk qa, 1, none⟩ = some (.slice (some ⟨gk qa, off', none⟩) cy.length cap') := cellOf jb
              have kz : wr.frozen? ⟨bk qa, 1, none⟩ = false := frozenOf jb
              rcases cy with _ | ⟨c0, _ | ⟨c1, cs⟩⟩
              · exact absurd rfl i1
              · have k1' : wr.cell? ⟨bk qa, 1, none⟩ = some (.slice (some ⟨gk qa, off', none⟩) 1 cap') := k1
                clear k1
                have HJ := Lib.hid jval
                clear jval
                go_wp2_with fail
                go_quiet (fail)
                go_wp2_with fail
                go_roundw
                case rel => obtain ⟨x1, x2, x3, x4⟩ := HX.out rfl _; exact ⟨_, cnt3, x1, x2, x3, x4⟩
                case measure => obtain ⟨x1, _⟩ := HX.out rfl _; rw [x1.left_eq, hrg.left_eq]; omega
              · have k2 : wr.cell? ⟨gk qa, off', none⟩ = some (.int .i64 c0) := (cellOf jg).trans (jval 0 c0 rfl)
                obtain ⟨kc0, kc1⟩ := i4 c0 (List.mem_cons_self ..)
                have kl : ((c0 :: c1 :: cs).length : Int) = (cs.length : Int) + 2 := by simp; omega
                have kl1 : (1 : Int) < ((c0 :: c1 :: cs).length : Int) := by omega
                have HJ := Lib.hid jval
                clear jval
                generalize hLL : (c0 :: c1 :: cs).length = LL at k1 kl kl1 i3 jcap
                have HK := Lib.hid (And.intro hLL kl)
                clear hLL kl
                have kd : decide ((1 : Int) < (LL : Int)) = true := decide_eq_true kl1
                cases q3 : decide (t.win ≤ now - c0) with
                | false =>
                  go_wp2_with fail
                  go_quiet (fail)
                  go_wp2_with fail
                  go_roundw
                  case rel => obtain ⟨x1, x2, x3, x4⟩ := HX.out (by unfold trimC; rw [if_neg (by simpa using q3)]) _; exact ⟨_, cnt3, x1, x2, x3, x4⟩
                  case measure => obtain ⟨x1, _⟩ := HX.out (by unfold trimC; rw [if_neg (by simpa using q3)]) _; rw [x1.left_eq, hrg.left_eq]; omega
                | true =>
                  go_wp2_with fail
                  go_quiet (fail)
                  go_wp2_with fail
                  obtain ⟨hLL, kl⟩ := HK.out
                  have jb2 := setCell_cells (i := 1) (v := Value.slice (some ⟨gk qa, off' + 1, none⟩) (LL - 1) (cap' - 1)) (w := wr.drewN nq) jb
                  have hbg : gk qa ≠ bk qa := fun e => hpp _ hme e.symm
                  have e1 : LL - 1 = (c1 :: cs).length := by rw [← hLL]; simp
                  refine ⟨⟨c1 :: cs, by simp, ?_, ?_, fun c hc => i4 c (List.mem_cons_of_mem _ hc), ⟨off' + 1, cap' - 1, cur', ?_, ?_, ?_, ?_, ?_, ?_⟩, ?_, ?_⟩, ?_⟩
                  · rw [← i2]; conv => rhs; unfold trimC; rw [if_pos (by simpa using q3)]
                  · rw [← e1]; omega
                  · rw [← e1]; exact jb2
                  · exact (Below.heap_setCell _ _ _ _ hbg).trans jg
                  · rw [← e1]; omega
                  · omega
                  · omega
                  · intro j c hj
                    have := HJ.out (j + 1) c hj
                    rw [show off' + 1 + j = off' + (j + 1) by omega]
                    exact this
                  · exact World.grownBy.trans (b := wr.drewN nq) ⟨i6.os, i6.tape, i6.output, i6.size, i6.block⟩ (grown_set _ _ _ _)
                  · rw [size_setCell]; exact i7
                  · rw [lenAt_of k1, lenAt_of (cellOf jb2)]; omega
end Go.Proofs.YtkikokldijccnaaGreatDoor
