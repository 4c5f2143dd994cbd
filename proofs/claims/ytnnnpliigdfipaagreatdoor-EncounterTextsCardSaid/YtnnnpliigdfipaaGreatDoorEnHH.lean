/- encounter: the reference's add. -/
import Derived.Test.YtnnnpliigdfipaaGreatDoorRows
import Derived.WalkKit
import Derived.WalkLawsBesides
import Derived.WalkSpells
import Derived.ProofKit
import Derived.Below
import Derived.Outline
import Derived.Lib.Hide
import Derived.Deep.RegionWith
import Derived.Deep.RegionHeld3
import Derived.Deep.DrawnRows
import Derived.StillTailTactics
import Derived.BigQuiet
import Derived.Deep.QuietTactic
import Derived.Deep.LoopGhost
import Derived.IntWalk
import Derived.Lib.MinMax
import Derived.OrdersHeld
import Derived.Deep.CutBlock
import Derived.Deep.CutRange
import Derived.Deep.DeepCutAuto
import Derived.Test.YtnnnpliigdfipaaGreatDoorEnHG
import Derived.Test.YtnnnpliigdfipaaGreatDoorEnBD
import Derived.Test.YtnnnpliigdfipaaGreatDoorEnHC
namespace Go.Proofs.YtnnnpliigdfipaaGreatDoor
open Go.RowKit
attribute [local go_sem ↓] Go.wp_at_zero Go.wp_at_succ
attribute [local go_sem] wrap_lit
/-- blocks that are no aircraft's and no legs' are as they were -/
def Kp (w w' : World) : Prop := ∀ (k : Nat) (v : Array Value) (T : TypeId) (f : Nat × Nat), w.heap[k]? = some (Obj.cells v T f) → T ≠ 63 → T ≠ 54 → w'.heap[k]? = w.heap[k]?
theorem Kp.refl (w : World) : Kp w w := fun _ _ _ _ _ _ _ => rfl
theorem Kp.trans {a b c : World} (h : Kp a b) (g : Kp b c) : Kp a c := fun k v T f hk h1 h2 => (g k v T f ((h k v T f hk h1 h2).trans hk) h1 h2).trans (h k v T f hk h1 h2)
theorem Kp.of_below {a b : World} (h : Below a.heap.size a b) : Kp a b := fun k _ _ _ hk _ _ => h.block k (heap_lt hk)
theorem Kp.grown {a b : World} {v : Value} {base n size : Nat} {T : TypeId} {xs : List Value} (hr : a.ownsRow base T size v n xs) (hT : T = 63 ∨ T = 54) (h : a.grownBy b v.ownBlock) : Kp a b := fun k u T' f hk h1 h2 => h.block k (heap_lt hk) (fun e => by
  obtain ⟨-, -, cur, h3⟩ := ownsRow_own hr e.symm
  rw [hk] at h3
  injection h3 with h3
  injection h3 with _ h4 _
  rcases hT with rfl | rfl
  · exact h1 h4
  · exact h2 h4)
theorem Kp.set {a b : World} {g i : Nat} {u : Value} {cur : Array Value} {T : TypeId} {f : Nat × Nat} (h : Kp a b) (hg : b.heap[g]? = some (.cells cur T f)) (hT : T = 63 ∨ T = 54) : Kp a (b.setCell ⟨g, i, none⟩ u) := fun k v T' f' hk h1 h2 => by
  refine (set_far _ _ _ _ _ (fun e => ?_)).trans (h k v T' f' hk h1 h2)
  subst e
  rw [h k v T' f' hk h1 h2, hk] at hg
  injection hg with h3
  injection h3 with _ h4 _
  rcases hT with rfl | rfl
  · exact h1 h4
  · exact h2 h4
theorem crO_at {ws : List Tx} {m : Nat} {ns : List Int} (hm : m < 3) (h : ∀ j : Nat, j < m → readP (crP (moW j)) ws = none) (hr : readP (crP (moW m)) ws = some ns) : crO ws = some (mkCr m ns) := by
  rcases (by omega : m = 0 ∨ m = 1 ∨ m = 2) with rfl | rfl | rfl
  · have hr : readP (crP w_none) ws = some ns := hr
    unfold crO; rw [hr]; rfl
  · have hr : readP (crP w_tables) ws = some ns := hr
    have h0 : readP (crP w_none) ws = none := h 0 (by omega)
    unfold crO; rw [h0, hr]; rfl
  · have hr : readP (crP w_rules) ws = some ns := hr
    have h0 : readP (crP w_none) ws = none := h 0 (by omega)
    have h1 : readP (crP w_tables) ws = none := h 1 (by omega)
    unfold crO; rw [h0, h1, hr]; rfl
theorem crO_no {ws : List Tx} (h : ∀ j : Nat, j < 3 → readP (crP (moW j)) ws = none) : crO ws = none := by
  have h0 : readP (crP w_none) ws = none := h 0 (by omega)
  have h1 : readP (crP w_tables) ws = none := h 1 (by omega)
  have h2 : readP (crP w_rules) ws = none := h 2 (by omega)
  unfold crO; rw [h0, h1, h2]
theorem rd2_leg {ws : List Tx} {a b : Int} (g : readP legP ws = some [a, b]) : rd2 w_leg ws = some (a, b) := by unfold rd2; rw [show [some w_leg, none, none] = legP from rfl, g]
theorem rd2_leg_no {ws : List Tx} (g : readP legP ws = none) : rd2 w_leg ws = none := by unfold rd2; rw [show [some w_leg, none, none] = legP from rfl, g]
theorem mk_at {m : Nat} {ns : List Int} (hn : ns.length = 11) : ∃ c : Cr, mkCr m ns = c ∧ c.lg = [] ∧ (m : Int) = c.mo ∧ ns = c.nums := by
  obtain ⟨a1, a2, a3, a4, a5, a6, a7, a8, a9, a10, a11, rfl⟩ := list11 hn
  exact ⟨_, rfl, rfl, rfl, rfl⟩
theorem list2 {ns : List Int} (hn : ns.length = 2) : ∃ a b, ns = [a, b] := by
  rcases ns with _ | ⟨a, _ | ⟨b, _ | ⟨c, l⟩⟩⟩ <;> simp at hn
  exact ⟨_, _, rfl⟩
theorem cur_at {w : World} {g i : Nat} {cur : Array Value} {T : TypeId} {f : Nat × Nat} {u : Value} (h : w.heap[g]? = some (.cells cur T f)) (k : cur[i]? = some u) : w.cell? ⟨g, i, none⟩ = some u := by simp [World.cell?, h, k]
theorem at_cur {w : World} {g i : Nat} {cur : Array Value} {T : TypeId} {f : Nat × Nat} {u : Value} (h : w.heap[g]? = some (.cells cur T f)) (k : w.cell? ⟨g, i, none⟩ = some u) : cur[i]? = some u := by simpa [World.cell?, h] using k
theorem readP_n {ps : List (Option Tx)} {ws : List Tx} {ns : List Int} (h : readP ps ws = some ns) : ns.length = cntN ps := ((readP_iff ps ws ns).1 h).2.1
/-- what add leaves -/
def AddR (n0 : Nat) (x : En) (ws : List Tx) (w : World) (e : Ending) (w' : World) : Prop :=
  ((∃ (y : En) (v : Value) (lvs : List Value) (Bl : Nat), stepE x false ws = some y ∧ e = .returned (.tuple #[.agg #[.int .i64 y.cy, .int .i64 y.gr, v], .bool true]) ∧ PS w' n0 v y.cs lvs Bl ∧ Bl ≤ w'.heap.size) ∨ (stepE x false ws = none ∧ ∃ a b A n c, e = .returned (.tuple #[.agg #[.int .i64 a, .int .i64 b, .slice A n c], .bool false]))) ∧ Below n0 w w'
/-- behind the append: the aircraft, the boxes -/
def AddC (n0 H : Nat) (x : En) (cs' : List Cr) (w wx : World) : Prop :=
  ∃ (v : Value) (lvs : List Value) (Bl : Nat), PS wx n0 v cs' lvs Bl ∧ Bl ≤ wx.heap.size ∧ wx.heap[H]? = some (.cells #[.int .i64 x.cy, .int .i64 x.gr, v] 24 (0, 0)) ∧ wx.heap[H + 1]? = some (.cells #[.int .i64 0, .int .i64 0, .slice none 0 0] 24 (0, 0)) ∧ Below n0 w wx
theorem addC_cr {w Y w2 : World} {n0 H : Nat} {x : En} {A : Option Addr} {cap : Nat} {lvs : List Value} {Bl : Nat} {c : Cr} {v' : Value} {ob : Obj} (P : PS Y n0 (.slice A x.cs.length cap) x.cs lvs Bl) (hn : n0 ≤ H) (hs0 : n0 ≤ Y.heap.size) (hlg : c.lg = []) (hX : Y.heap[H]? = some (.cells #[.int .i64 x.cy, .int .i64 x.gr, .slice A x.cs.length cap] 24 (0, 0)))
    (hR : Y.heap[H + 1]? = some (.cells #[.int .i64 0, .int .i64 0, .slice none 0 0] 24 (0, 0))) (B : Below n0 w Y) (hown : w2.ownsRow n0 63 13 v' (x.cs.length + 1) (crsV x.cs lvs ++ crV c (.slice none 0 0))) (hgrow : (Y.drew.alloc ob).grownBy w2 (Value.slice A x.cs.length cap).ownBlock) : AddC n0 H x (x.cs ++ [c]) w (w2.setCell ⟨H, 2, none⟩ v') := by
  have gdr : Y.grownBy (Y.drew.alloc ob) none := ⟨rfl, rfl, rfl, (World.grownBy_alloc Y.drew ob none).size, (World.grownBy_alloc Y.drew ob none).block⟩
  have P1 := P.grown gdr (foreign_none _)
  have hr1 := P1.row
  have KP : Kp (Y.drew.alloc ob) w2 := Kp.grown hr1 (.inl rfl) hgrow
  have hs1 : (Y.drew.alloc ob).heap.size = Y.heap.size + 1 := by simp
  have X1 : (Y.drew.alloc ob).heap[H]? = _ := (gdr.block _ (heap_lt hX) (by simp)).trans hX
  have R1 : (Y.drew.alloc ob).heap[H + 1]? = _ := (gdr.block _ (heap_lt hR) (by simp)).trans hR
  have X2 := (KP _ _ _ _ X1 (by decide) (by decide)).trans X1
  have R2 := (KP _ _ _ _ R1 (by decide) (by decide)).trans R1
  have P2 := PS.push P1 (by omega) hlg hown hgrow
  have hsz := hgrow.size
  refine ⟨v', _, _, P2.far X2 (by decide) (by decide), ?_, ?_, (set_far _ _ _ _ _ (by omega)).trans R2, ?_⟩
  · simpa [World.setCell] using hsz
  · exact (setCell_heap _ _ _ _ _ _ _ X2).trans (by simp)
  · exact (((B.trans ((Below.refl _ _).grown gdr (by omega) (fun r e => by cases e))).grown hgrow (by omega) (fun r hr => (hr1.lt r hr).1))).setCell (p := ⟨H, 2, none⟩) hn _
theorem addC_leg {w U w2 : World} {n0 H g : Nat} {x : En} {cap g' cap' : Nat} {init : List Cr} {lvs linit : List Value} {Bl : Nat} {c : Cr} {LA : Option Addr} {lcap : Nat} {ya yb : Int} {ob : Obj} (hcs : x.cs = init ++ [c]) (hlv : lvs = linit ++ [.slice LA c.lg.length lcap]) (P : PS U n0 (.slice (some ⟨g, 0, none⟩) x.cs.length cap) x.cs lvs Bl) (hBl : Bl ≤ U.heap.size) (hn : n0 ≤ U.heap.size)
    (hX : U.heap[H]? = some (.cells #[.int .i64 x.cy, .int .i64 x.gr, .slice (some ⟨g, 0, none⟩) x.cs.length cap] 24 (0, 0))) (hR : U.heap[H + 1]? = some (.cells #[.int .i64 0, .int .i64 0, .slice none 0 0] 24 (0, 0))) (B : Below n0 w U)
    (hown : w2.ownsRow Bl 54 2 (.slice (some ⟨g', 0, none⟩) (c.lg.length + 1) cap') (c.lg.length + 1) ((flat c.lg).map (Value.int .i64) ++ [.int .i64 ya, .int .i64 yb])) (hgrow : (U.drew.alloc ob).grownBy w2 (Value.slice LA c.lg.length lcap).ownBlock) :
    AddC n0 H x (addL x.cs (ya, yb)) w (w2.setCell ⟨g, init.length * 13 + 8, none⟩ (.slice (some ⟨g', 0, none⟩) (c.lg.length + 1) cap')) := by
  have gdr : U.grownBy (U.drew.alloc ob) none := ⟨rfl, rfl, rfl, (World.grownBy_alloc U.drew ob none).size, (World.grownBy_alloc U.drew ob none).block⟩
  have h1 := P.grown gdr (foreign_none _)
  have hBl0 := q1le P hcs hlv
  have hln : x.cs.length = init.length + 1 := by rw [hcs]; simp
  have hlen : linit.length = init.length := by have := P.len; rw [hcs, hlv] at this; simpa using this
  obtain ⟨Bq, q1, q2, q3⟩ := h1.legs init.length c (.slice LA c.lg.length lcap) (by rw [hcs]; simp) (by rw [hlv, ← hlen]; simp)
  have KP : Kp (U.drew.alloc ob) w2 := Kp.grown q2 (.inr rfl) hgrow
  have X1 : (U.drew.alloc ob).heap[H]? = _ := (gdr.block _ (heap_lt hX) (by simp)).trans hX
  have R1 : (U.drew.alloc ob).heap[H + 1]? = _ := (gdr.block _ (heap_lt hR) (by simp)).trans hR
  have X2 := (KP _ _ _ _ X1 (by decide) (by decide)).trans X1
  have R2 := (KP _ _ _ _ R1 (by decide) (by decide)).trans R1
  have hrow := h1.row
  obtain ⟨hg5, -, cur, hcur⟩ := ownsRow_own hrow (r := g) rfl
  have hne : H ≠ g := fun e => by subst e; rw [X1] at hcur; injection hcur with e; injection e with _ e _; revert e; decide
  have hne1 : H + 1 ≠ g := fun e => by subst e; rw [R1] at hcur; injection hcur with e; injection e with _ e _; revert e; decide
  rw [hcs, hlv] at h1
  rw [List.length_append, List.length_singleton] at h1
  obtain ⟨gq, eq, h2⟩ := PS.leg (x := (ya, yb)) h1 hown hgrow
  injection eq with eq
  injection eq with eq
  subst eq
  have hsz := hgrow.size
  have hs1 : (U.drew.alloc ob).heap.size = U.heap.size + 1 := by simp
  refine ⟨.slice (some ⟨g, 0, none⟩) x.cs.length cap, linit ++ [.slice (some ⟨g', 0, none⟩) (c.lg.length + 1) cap'], Bl, ?_, ?_, (set_far _ _ _ _ _ hne).trans X2, (set_far _ _ _ _ _ hne1).trans R2, ?_⟩
  · rw [hcs, addL_snoc, List.length_append, List.length_singleton]; exact h2
  · simp [World.setCell]; omega
  · exact (((B.trans ((Below.refl _ _).grown gdr (by omega) (fun r e => by cases e))).grown hgrow (by omega) (fun r hr => by have := (q2.lt r hr).1; have := q3 (by rw [hcs]; simp); omega))).setCell (p := ⟨g, init.length * 13 + 8, none⟩) hg5 _
set_option maxRecDepth 100000 in
set_option maxHeartbeats 8000000 in
theorem add67 (x : En) (A : Option Addr) (cap : Nat) (lvs : List Value) (Bl n0 : Nat) (s : Tx) (w : World) (hs : s.length ≤ 90000) (hn0 : n0 ≤ w.heap.size) (hp : PS w n0 (.slice A x.cs.length cap) x.cs lvs Bl) (hBl : Bl ≤ w.heap.size) (hlen : x.cs.length ≤ 10000) (hlg : ∀ c ∈ x.cs, c.lg.length ≤ 10000) :
    Calls Tryz.prog 67 #[.agg #[.int .i64 x.cy, .int .i64 x.gr, .slice A x.cs.length cap], .string (S s)] w (AddR n0 x (splitC 32 s) w) := by
  have HP := Lib.hid hp
  have hlI : (x.cs.length : Int) ≤ 100000 := by omega
  have RD := Lib.hid (fun (ps : List (Option Tx)) (WA : Option Addr) (wc : Nat) (w' : World) hW hl hok => read66 s ps WA wc w' hW hl hs hok)
  obtain ⟨ws, hws⟩ : ∃ ws, ws = splitC 32 s := ⟨_, rfl⟩
  rw [← hws] at RD ⊢
  clear hws
  go_enter Tryz.func67, Tryz.ntmps67
  go_wp2_with fail
  obtain ⟨w0, hw0⟩ : ∃ w0, w0 = (w.alloc (.cells #[.int .i64 x.cy, .int .i64 x.gr, .slice A x.cs.length cap] 24)).alloc (.cells #[.int .i64 0, .int .i64 0, .slice none 0 0] 24) := ⟨_, rfl⟩
  have b0 : Below w.heap.size w w0 := by rw [hw0]; exact ((Below.refl _ _).alloc (Nat.le_refl _) _).alloc (by simp) _
  have X0 : Hid (w0.heap[w.heap.size]? = some (.cells #[.int .i64 x.cy, .int .i64 x.gr, .slice A x.cs.length cap] 24 (0, 0))) := Lib.hid (by rw [hw0]; exact (Below.heap_alloc _ _ _ (by simp)).trans (heap_alloc_new _ _))
  have R0 : Hid (w0.heap[w.heap.size + 1]? = some (.cells #[.int .i64 0, .int .i64 0, .slice none 0 0] 24 (0, 0))) := Lib.hid (by rw [hw0]; exact heap_alloc_at _ _ _ (by simp))
  have B0 := Lib.hid b0
  have s0 : w.heap.size + 2 ≤ w0.heap.size := by rw [hw0]; simp
  rw [← hw0]
  clear hw0 b0
  go_loopw [6] (fun i wr => ∃ m : Nat, m ≤ 3 ∧ i = .int .i64 m ∧ Hid (∀ j : Nat, j < m → readP (crP (moW j)) ws = none) ∧ Below w0.heap.size w0 wr) (fun i _ => 3 - (intOf i).toNat)
  case atStart => exact ⟨0, Nat.zero_le _, rfl, Lib.hid (fun j h => absurd h (by omega)), Below.refl _ _⟩
  case round =>
    obtain ⟨m, hm, rfl, HM, hb⟩ := hrel
    have HB := Lib.hid hb
    have BW := Lib.hid (B0.out.trans (hb.mono (by omega)))
    have Xr := Lib.hid ((hb.block _ (heap_lt X0.out)).trans X0.out)
    have Rr := Lib.hid ((hb.block _ (heap_lt R0.out)).trans R0.out)
    have Pr := Lib.hid (HP.out.below BW.out)
    have sr := hb.size
    clear hb
    by_cases hlt : m < 3
    · have hltI : (m : Int) < 3 := by omega
      go_wp2_with fail
      refine (modes64 _).mono ?_
      rintro e M ⟨rfl, hM⟩
      have hM1 : M.heap[wr.heap.size]? = some (.cells (wordsV [w_none, w_tables, w_rules]) 9 (0, 0)) := by rw [← hM]; exact heap_alloc_new _ _
      have hMb : Below wr.heap.size wr M := by rw [← hM]; exact (Below.refl _ _).alloc (Nat.le_refl _) _
      have hcm : M.cell? ⟨wr.heap.size, m, none⟩ = some (.string (S (moW (m : Int)))) := words_at hM1 (moW_at (m := (m : Int)) (by omega) (by omega))
      clear hM hM1
      go_wp2_with fail
      obtain ⟨Z, hZ⟩ : ∃ Z, Z = M.alloc (.cells (wordsV (wordsOf (crP (moW (m : Int))))) 9) := ⟨_, rfl⟩
      have hZ1 : Z.heap[M.heap.size]? = some (.cells (wordsV (wordsOf (crP (moW (m : Int))))) 9 (0, 0)) := by rw [hZ]; exact heap_alloc_new _ _
      have hZb : Below wr.heap.size wr Z := by rw [hZ]; exact hMb.alloc hMb.size _
      rw [show M.alloc (.cells #[.string (⟨#[99, 114, 97, 102, 116]⟩), .string (⟨#[]⟩), .string (⟨#[97, 116]⟩), .string (⟨#[]⟩), .string (⟨#[]⟩), .string (⟨#[]⟩), .string (⟨#[109, 111, 118, 105, 110, 103]⟩), .string (⟨#[]⟩), .string (⟨#[]⟩), .string (⟨#[]⟩), .string (⟨#[112, 117, 108, 108]⟩), .string (⟨#[]⟩), .string (⟨#[109, 111, 100, 101]⟩), .string (S (moW (m : Int))), .string (⟨#[112, 105, 108, 111, 116]⟩), .string (⟨#[]⟩), .string (⟨#[]⟩), .string (⟨#[]⟩)] 9) = Z from hZ.symm]
      clear hZ hcm
      refine (RD.out (crP (moW (m : Int))) (some ⟨M.heap.size, 0, none⟩) 18 Z (InT.of_block hZ1) (crP_le _) (fun p hp => (okw_cr _ p hp).1)).mono ?_
      rintro e Y ⟨⟨nv, rfl, hacc⟩, hbY⟩
      have BY := Lib.hid (BW.out.trans ((hZb.mono (by omega)).trans (hbY.mono (by have := hZb.size; omega))))
      have Bw := Lib.hid (hZb.trans (hbY.mono hZb.size))
      clear hZ1 hMb
      cases hr : readP (crP (moW (m : Int))) ws with
      | none =>
        have HM2 : Hid (∀ j : Nat, j < m + 1 → readP (crP (moW j)) ws = none) := Lib.hid (fun j hj => by
          rcases Nat.lt_or_ge j m with g | g
          · exact HM.out j g
          · obtain rfl : j = m := by omega
            exact hr)
        clear hr hacc
        go_wp2_with fail
        exact ⟨⟨m + 1, by omega, by go_num, HM2, HB.out.trans (Bw.out.mono sr)⟩, by simp [intOf]; omega⟩
      | some ns =>
        obtain ⟨c, hcm2, hlg, hmo, hns⟩ := mk_at (m := m) (show ns.length = 11 by rw [readP_n hr]; rfl)
        have HST : Hid (stepE x false ws = some { x with cs := x.cs ++ [c] }) := Lib.hid (step_craft (by rw [crO_at hlt HM.out hr, hcm2]))
        have hacc := hacc ns hr
        subst hns
        have hacc : Acc .i64 Y Z.heap.size 3 1 nv 11 c.nums := hacc
        obtain ⟨NA, nc, rfl, hnc, hna⟩ := ownsRow_form hacc
        obtain ⟨gn, rfl, hgn0, hgn, ⟨cur, hcur⟩, hcn⟩ := hna (by omega)
        have hgw : gn ≠ w.heap.size := by have := hZb.size; omega
        have hwm : IntKind.u8.wrap (m : Int) = c.mo := by rw [← hmo]; exact wrap_u8 (by omega) (by omega)
        have k0 : cur[0]? = some (.int .i64 c.ad) := at_cur hcur (hcn 0 _ rfl)
        have k1 : cur[1]? = some (.int .i64 c.p.x) := at_cur hcur (hcn 1 _ rfl)
        have k2 : cur[2]? = some (.int .i64 c.p.y) := at_cur hcur (hcn 2 _ rfl)
        have k3 : cur[3]? = some (.int .i64 c.p.z) := at_cur hcur (hcn 3 _ rfl)
        have k4 : cur[4]? = some (.int .i64 c.v.x) := at_cur hcur (hcn 4 _ rfl)
        have k5 : cur[5]? = some (.int .i64 c.v.y) := at_cur hcur (hcn 5 _ rfl)
        have k6 : cur[6]? = some (.int .i64 c.v.z) := at_cur hcur (hcn 6 _ rfl)
        have k7 : cur[7]? = some (.int .i64 c.pu) := at_cur hcur (hcn 7 _ rfl)
        have k8 : cur[8]? = some (.int .i64 c.de) := at_cur hcur (hcn 8 _ rfl)
        have k9 : cur[9]? = some (.int .i64 c.pp) := at_cur hcur (hcn 9 _ rfl)
        have k10 : cur[10]? = some (.int .i64 c.mi) := at_cur hcur (hcn 10 _ rfl)
        have HCUR := Lib.hid hcur
        have HLG := Lib.hid hlg
        have XY := Lib.hid ((Bw.out.block _ (heap_lt Xr.out)).trans Xr.out)
        have RY := Lib.hid ((Bw.out.block _ (heap_lt Rr.out)).trans Rr.out)
        have PY := Lib.hid (HP.out.below BY.out)
        have HROW : Hid (∀ ob, (Y.drew.alloc ob).ownsRow n0 63 13 (.slice A x.cs.length cap) x.cs.length (crsV x.cs lvs)) := Lib.hid (fun ob => World.ownsRow.alloc (w := Y.drew) PY.out.row ob)
        have sY := BY.out.size
        have hXY := heap_lt XY.out
        have BN : Hid (Below n0 w Y) := Lib.hid (BY.out.mono hn0)
        clear hr hcm2 hacc hna hcn hcur hlg hmo Xr Rr Pr HB Bw
        go_upto_region 6 with fail
        go_cut [] from 12 to 71 (fun wx => AddC n0 w.heap.size x (x.cs ++ [c]) w wx)
        case first =>
          obtain ⟨i0, hi0, hz0, hz1, hz2⟩ := info_parts Craft_info
          have hx2 : ∀ W : World, W.heap[w.heap.size]? = some (.cells #[.int .i64 x.cy, .int .i64 x.gr, .slice A x.cs.length cap] 24 (0, 0)) → W.cell? ⟨w.heap.size, 2, none⟩ = some (.slice A x.cs.length cap) := fun W h => cur_at h rfl
          have HX2 := Lib.hid hx2
          clear hx2
          have xy2 : Y.drew.cell? ⟨w.heap.size, 2, none⟩ = some (.slice A x.cs.length cap) := HX2.out Y.drew XY.out
          have xy2a : ∀ ob, (Y.drew.alloc ob).cell? ⟨w.heap.size, 2, none⟩ = some (.slice A x.cs.length cap) := fun ob => (World.cell?_alloc_lt _ _ _ (show w.heap.size < Y.heap.size from hXY)).trans xy2
          have xy2b : ∀ ob, (Y.alloc ob).drew.cell? ⟨w.heap.size, 2, none⟩ = some (.slice A x.cs.length cap) := fun ob => xy2a ob
          refine wp_region_held_drew (S := fun w' => w'.heap[gn]? = some (.cells cur 3 (0, 0))) (by kernel_rfl) (show Y.drew.heap[gn]? = _ from HCUR.out) (fun hS => ?_)
          refine wpAnyH_take (i := 0) (v := ?vA1) rfl (by kernel_rfl) (by kernel_rfl) (by kernel_rfl) (fun _ _ _ h => h) (Or.inl ⟨by rfl, ?hA1⟩) hS ?rA1
          case hA1 =>
            intro w1 hSw
            clear hSw
            go_simp
            try with_reducible rfl
          (try simp only [Act.put])
          refine wpAnyH_take (i := 2) (v := ?vA2) rfl (by kernel_rfl) (by kernel_rfl) (by kernel_rfl) (fun _ _ _ h => h) (Or.inl ⟨by rfl, ?hA2⟩) hS ?rA2
          case hA2 =>
            intro w1 hSw
            clear hSw
            go_simp
            try with_reducible rfl
          (try simp only [Act.put])
          refine wpAnyH_take (i := 3) (v := ?vA3) rfl (by kernel_rfl) (by kernel_rfl) (by kernel_rfl) (fun _ _ _ h => h) (Or.inl ⟨by rfl, ?hA3⟩) hS ?rA3
          case hA3 =>
            intro w1 hSw
            clear hSw
            go_simp
            try with_reducible rfl
          (try simp only [Act.put])
          refine wpAnyH_take (i := 4) (v := ?vA4) rfl (by kernel_rfl) (by kernel_rfl) (by kernel_rfl) (fun _ _ _ h => h) (Or.inl ⟨by rfl, ?hA4⟩) hS ?rA4
          case hA4 =>
            intro w1 hSw
            have z : w1.cell? ⟨gn, 0, none⟩ = some (.int .i64 c.ad) := cur_at hSw k0
            clear hSw
            go_simp
            try with_reducible rfl
          (try simp only [Act.put])
          refine wpAnyH_take (i := 5) (v := ?vA5) rfl (by kernel_rfl) (by kernel_rfl) (by kernel_rfl) (fun _ _ _ h => h) (Or.inl ⟨by rfl, ?hA5⟩) hS ?rA5
          case hA5 =>
            intro w1 hSw
            clear hSw
            go_simp
            try with_reducible rfl
          (try simp only [Act.put])
          refine wpAnyH_take (i := 6) (v := ?vA6) rfl (by kernel_rfl) (by kernel_rfl) (by kernel_rfl) (fun _ _ _ h => h) (Or.inl ⟨by rfl, ?hA6⟩) hS ?rA6
          case hA6 =>
            intro w1 hSw
            clear hSw
            go_simp
            try with_reducible rfl
          (try simp only [Act.put])
          refine wpAnyH_take (i := 7) (v := ?vA7) rfl (by kernel_rfl) (by kernel_rfl) (by kernel_rfl) (fun _ _ _ h => h) (Or.inl ⟨by rfl, ?hA7⟩) hS ?rA7
          case hA7 =>
            intro w1 hSw
            have z : w1.cell? ⟨gn, 1, none⟩ = some (.int .i64 c.p.x) := cur_at hSw k1
            clear hSw
            go_simp
            try with_reducible rfl
          (try simp only [Act.put])
          refine wpAnyH_take (i := 8) (v := ?vA8) rfl (by kernel_rfl) (by kernel_rfl) (by kernel_rfl) (fun _ _ _ h => h) (Or.inl ⟨by rfl, ?hA8⟩) hS ?rA8
          case hA8 =>
            intro w1 hSw
            clear hSw
            go_simp
            try with_reducible rfl
          (try simp only [Act.put])
          refine wpAnyH_take (i := 9) (v := ?vA9) rfl (by kernel_rfl) (by kernel_rfl) (by kernel_rfl) (fun _ _ _ h => h) (Or.inl ⟨by rfl, ?hA9⟩) hS ?rA9
          case hA9 =>
            intro w1 hSw
            clear hSw
            go_simp
            try with_reducible rfl
          (try simp only [Act.put])
          refine wpAnyH_take (i := 10) (v := ?vA10) rfl (by kernel_rfl) (by kernel_rfl) (by kernel_rfl) (fun _ _ _ h => h) (Or.inl ⟨by rfl, ?hA10⟩) hS ?rA10
          case hA10 =>
            intro w1 hSw
            have z : w1.cell? ⟨gn, 2, none⟩ = some (.int .i64 c.p.y) := cur_at hSw k2
            clear hSw
            go_simp
            try with_reducible rfl
          (try simp only [Act.put])
          refine wpAnyH_take (i := 11) (v := ?vA11) rfl (by kernel_rfl) (by kernel_rfl) (by kernel_rfl) (fun _ _ _ h => h) (Or.inl ⟨by rfl, ?hA11⟩) hS ?rA11
          case hA11 =>
            intro w1 hSw
            clear hSw
            go_simp
            try with_reducible rfl
          (try simp only [Act.put])
          refine wpAnyH_take (i := 12) (v := ?vA12) rfl (by kernel_rfl) (by kernel_rfl) (by kernel_rfl) (fun _ _ _ h => h) (Or.inl ⟨by rfl, ?hA12⟩) hS ?rA12
          case hA12 =>
            intro w1 hSw
            clear hSw
            go_simp
            try with_reducible rfl
          (try simp only [Act.put])
          refine wpAnyH_take (i := 13) (v := ?vA13) rfl (by kernel_rfl) (by kernel_rfl) (by kernel_rfl) (fun _ _ _ h => h) (Or.inl ⟨by rfl, ?hA13⟩) hS ?rA13
          case hA13 =>
            intro w1 hSw
            have z : w1.cell? ⟨gn, 3, none⟩ = some (.int .i64 c.p.z) := cur_at hSw k3
            clear hSw
            go_simp
            try with_reducible rfl
          (try simp only [Act.put])
          refine wpAnyH_take (i := 14) (v := ?vA14) rfl (by kernel_rfl) (by kernel_rfl) (by kernel_rfl) (fun _ _ _ h => h) (Or.inl ⟨by rfl, ?hA14⟩) hS ?rA14
          case hA14 =>
            intro w1 hSw
            clear hSw
            go_simp
            try with_reducible rfl
          (try simp only [Act.put])
          refine wpAnyH_take (i := 15) (v := ?vA15) rfl (by kernel_rfl) (by kernel_rfl) (by kernel_rfl) (fun _ _ _ h => h) (Or.inl ⟨by rfl, ?hA15⟩) hS ?rA15
          case hA15 =>
            intro w1 hSw
            clear hSw
            go_simp
            try with_reducible rfl
          (try simp only [Act.put])
          refine wpAnyH_take (i := 16) (v := ?vA16) rfl (by kernel_rfl) (by kernel_rfl) (by kernel_rfl) (fun _ _ _ h => h) (Or.inl ⟨by rfl, ?hA16⟩) hS ?rA16
          case hA16 =>
            intro w1 hSw
            clear hSw
            go_simp
            try with_reducible rfl
          (try simp only [Act.put])
          refine wpAnyH_take (i := 17) (v := ?vA17) rfl (by kernel_rfl) (by kernel_rfl) (by kernel_rfl) (fun _ _ _ h => h) (Or.inl ⟨by rfl, ?hA17⟩) hS ?rA17
          case hA17 =>
            intro w1 hSw
            have z : w1.cell? ⟨gn, 4, none⟩ = some (.int .i64 c.v.x) := cur_at hSw k4
            clear hSw
            go_simp
            try with_reducible rfl
          (try simp only [Act.put])
          refine wpAnyH_take (i := 18) (v := ?vA18) rfl (by kernel_rfl) (by kernel_rfl) (by kernel_rfl) (fun _ _ _ h => h) (Or.inl ⟨by rfl, ?hA18⟩) hS ?rA18
          case hA18 =>
            intro w1 hSw
            clear hSw
            go_simp
            try with_reducible rfl
          (try simp only [Act.put])
          refine wpAnyH_take (i := 19) (v := ?vA19) rfl (by kernel_rfl) (by kernel_rfl) (by kernel_rfl) (fun _ _ _ h => h) (Or.inl ⟨by rfl, ?hA19⟩) hS ?rA19
          case hA19 =>
            intro w1 hSw
            clear hSw
            go_simp
            try with_reducible rfl
          (try simp only [Act.put])
          refine wpAnyH_take (i := 20) (v := ?vA20) rfl (by kernel_rfl) (by kernel_rfl) (by kernel_rfl) (fun _ _ _ h => h) (Or.inl ⟨by rfl, ?hA20⟩) hS ?rA20
          case hA20 =>
            intro w1 hSw
            have z : w1.cell? ⟨gn, 5, none⟩ = some (.int .i64 c.v.y) := cur_at hSw k5
            clear hSw
            go_simp
            try with_reducible rfl
          (try simp only [Act.put])
          refine wpAnyH_take (i := 21) (v := ?vA21) rfl (by kernel_rfl) (by kernel_rfl) (by kernel_rfl) (fun _ _ _ h => h) (Or.inl ⟨by rfl, ?hA21⟩) hS ?rA21
          case hA21 =>
            intro w1 hSw
            clear hSw
            go_simp
            try with_reducible rfl
          (try simp only [Act.put])
          refine wpAnyH_take (i := 22) (v := ?vA22) rfl (by kernel_rfl) (by kernel_rfl) (by kernel_rfl) (fun _ _ _ h => h) (Or.inl ⟨by rfl, ?hA22⟩) hS ?rA22
          case hA22 =>
            intro w1 hSw
            clear hSw
            go_simp
            try with_reducible rfl
          (try simp only [Act.put])
          refine wpAnyH_take (i := 23) (v := ?vA23) rfl (by kernel_rfl) (by kernel_rfl) (by kernel_rfl) (fun _ _ _ h => h) (Or.inl ⟨by rfl, ?hA23⟩) hS ?rA23
          case hA23 =>
            intro w1 hSw
            have z : w1.cell? ⟨gn, 6, none⟩ = some (.int .i64 c.v.z) := cur_at hSw k6
            clear hSw
            go_simp
            try with_reducible rfl
          (try simp only [Act.put])
          refine wpAnyH_take (i := 24) (v := ?vA24) rfl (by kernel_rfl) (by kernel_rfl) (by kernel_rfl) (fun _ _ _ h => h) (Or.inl ⟨by rfl, ?hA24⟩) hS ?rA24
          case hA24 =>
            intro w1 hSw
            clear hSw
            go_simp
            try with_reducible rfl
          (try simp only [Act.put])
          refine wpAnyH_take (i := 25) (v := ?vA25) rfl (by kernel_rfl) (by kernel_rfl) (by kernel_rfl) (fun _ _ _ h => h) (Or.inl ⟨by rfl, ?hA25⟩) hS ?rA25
          case hA25 =>
            intro w1 hSw
            clear hSw
            go_simp
            try with_reducible rfl
          (try simp only [Act.put])
          refine wpAnyH_take (i := 26) (v := ?vA26) rfl (by kernel_rfl) (by kernel_rfl) (by kernel_rfl) (fun _ _ _ h => h) (Or.inl ⟨by rfl, ?hA26⟩) hS ?rA26
          case hA26 =>
            intro w1 hSw
            clear hSw
            go_simp
            try with_reducible rfl
          (try simp only [Act.put])
          refine wpAnyH_take (i := 27) (v := ?vA27) rfl (by kernel_rfl) (by kernel_rfl) (by kernel_rfl) (fun _ _ _ h => h) (Or.inl ⟨by rfl, ?hA27⟩) hS ?rA27
          case hA27 =>
            intro w1 hSw
            have z : w1.cell? ⟨gn, 7, none⟩ = some (.int .i64 c.pu) := cur_at hSw k7
            clear hSw
            go_simp
            try with_reducible rfl
          (try simp only [Act.put])
          refine wpAnyH_take (i := 28) (v := ?vA28) rfl (by kernel_rfl) (by kernel_rfl) (by kernel_rfl) (fun _ _ _ h => h) (Or.inl ⟨by rfl, ?hA28⟩) hS ?rA28
          case hA28 =>
            intro w1 hSw
            clear hSw
            go_simp
            try with_reducible rfl
          (try simp only [Act.put])
          refine wpAnyH_take (i := 29) (v := ?vA29) rfl (by kernel_rfl) (by kernel_rfl) (by kernel_rfl) (fun _ _ _ h => h) (Or.inl ⟨by rfl, ?hA29⟩) hS ?rA29
          case hA29 =>
            intro w1 hSw
            clear hSw
            go_simp
            try with_reducible rfl
          (try simp only [Act.put])
          refine wpAnyH_take (i := 30) (v := ?vA30) rfl (by kernel_rfl) (by kernel_rfl) (by kernel_rfl) (fun _ _ _ h => h) (Or.inl ⟨by rfl, ?hA30⟩) hS ?rA30
          case hA30 =>
            intro w1 hSw
            clear hSw
            go_simp
            try with_reducible rfl
          (try simp only [Act.put])
          refine wpAnyH_take (i := 31) (v := ?vA31) rfl (by kernel_rfl) (by kernel_rfl) (by kernel_rfl) (fun _ _ _ h => h) (Or.inl ⟨by rfl, ?hA31⟩) hS ?rA31
          case hA31 =>
            intro w1 hSw
            clear hSw
            go_simp
            try with_reducible rfl
          (try simp only [Act.put])
          refine wpAnyH_take (i := 32) (v := ?vA32) rfl (by kernel_rfl) (by kernel_rfl) (by kernel_rfl) (fun _ _ _ h => h) (Or.inl ⟨by rfl, ?hA32⟩) hS ?rA32
          case hA32 =>
            intro w1 hSw
            have z : w1.cell? ⟨gn, 8, none⟩ = some (.int .i64 c.de) := cur_at hSw k8
            clear hSw
            go_simp
            try with_reducible rfl
          (try simp only [Act.put])
          refine wpAnyH_take (i := 33) (v := ?vA33) rfl (by kernel_rfl) (by kernel_rfl) (by kernel_rfl) (fun _ _ _ h => h) (Or.inl ⟨by rfl, ?hA33⟩) hS ?rA33
          case hA33 =>
            intro w1 hSw
            clear hSw
            go_simp
            try with_reducible rfl
          (try simp only [Act.put])
          refine wpAnyH_take (i := 34) (v := ?vA34) rfl (by kernel_rfl) (by kernel_rfl) (by kernel_rfl) (fun _ _ _ h => h) (Or.inl ⟨by rfl, ?hA34⟩) hS ?rA34
          case hA34 =>
            intro w1 hSw
            clear hSw
            go_simp
            try with_reducible rfl
          (try simp only [Act.put])
          refine wpAnyH_take (i := 35) (v := ?vA35) rfl (by kernel_rfl) (by kernel_rfl) (by kernel_rfl) (fun _ _ _ h => h) (Or.inl ⟨by rfl, ?hA35⟩) hS ?rA35
          case hA35 =>
            intro w1 hSw
            have z : w1.cell? ⟨gn, 9, none⟩ = some (.int .i64 c.pp) := cur_at hSw k9
            clear hSw
            go_simp
            try with_reducible rfl
          (try simp only [Act.put])
          refine wpAnyH_take (i := 36) (v := ?vA36) rfl (by kernel_rfl) (by kernel_rfl) (by kernel_rfl) (fun _ _ _ h => h) (Or.inl ⟨by rfl, ?hA36⟩) hS ?rA36
          case hA36 =>
            intro w1 hSw
            clear hSw
            go_simp
            try with_reducible rfl
          (try simp only [Act.put])
          refine wpAnyH_take (i := 37) (v := ?vA37) rfl (by kernel_rfl) (by kernel_rfl) (by kernel_rfl) (fun _ _ _ h => h) (Or.inl ⟨by rfl, ?hA37⟩) hS ?rA37
          case hA37 =>
            intro w1 hSw
            clear hSw
            go_simp
            try with_reducible rfl
          (try simp only [Act.put])
          refine wpAnyH_take (i := 38) (v := ?vA38) rfl (by kernel_rfl) (by kernel_rfl) (by kernel_rfl) (fun _ _ _ h => h) (Or.inl ⟨by rfl, ?hA38⟩) hS ?rA38
          case hA38 =>
            intro w1 hSw
            have z : w1.cell? ⟨gn, 10, none⟩ = some (.int .i64 c.mi) := cur_at hSw k10
            clear hSw
            go_simp
            try with_reducible rfl
          (try simp only [Act.put])
          refine wpAnyH_take (i := 39) (v := ?vA39) rfl (by kernel_rfl) (by kernel_rfl) (by kernel_rfl) (fun _ _ _ h => h) (Or.inl ⟨by rfl, ?hA39⟩) hS ?rA39
          case hA39 =>
            intro w1 hSw
            clear hSw
            go_simp
            try with_reducible rfl
          (try simp only [Act.put])
          refine wpAnyH_take (i := 40) (v := ?vA40) rfl (by kernel_rfl) (by kernel_rfl) (by kernel_rfl) (fun _ _ _ h => h) (Or.inl ⟨by rfl, ?hA40⟩) hS ?rA40
          case hA40 =>
            intro w1 hSw
            clear hSw
            go_simp
            try with_reducible rfl
          (try simp only [Act.put])
          refine wpAnyH_ready (rs := [1, 41]) (by kernel_rfl) (by simp) (AllReadyH.cons rfl (fun K hK => ?aA41) (AllReadyH.cons rfl (fun K hK => ?bA41) AllReadyH.nil))
          case aA41 =>
            go_simp
            refine hK.out _ _ (hS) (fun hS => ?_)
            clear hK K
            refine wpAnyH_ready (rs := [41]) (by kernel_rfl) (by simp) (AllReadyH.cons rfl (fun K hK => ?_) AllReadyH.nil)
            go_simp
            refine hK.out _ _ ((Below.heap_alloc Y.drew _ _ hgn).trans HCUR.out) (fun hS => ?_)
            clear hK K
            refine wpAnyH_ready (rs := [42]) (by kernel_rfl) (by simp) (AllReadyH.cons rfl (fun K hK => ?_) AllReadyH.nil)
            rw [if_pos (by kernel_rfl)]
            refine wp_append_own _ _ _ 22 rfl n0 63 i0 _ 13 120 Tryz.underlying22 hi0 hz0 hz1 hz2 rfl (by decide) (.slice A x.cs.length cap) x.cs.length _ rfl (HROW.out (.cells (crV c (.slice none 0 0)).toArray 63)) ⟨Y.heap.size, 0, none⟩ 1 1 (crV c (.slice none 0 0)) rfl rfl (World.news_of_block (cs := (crV c (.slice none 0 0)).toArray) (heap_alloc_new Y.drew _)) (by simp [crV, Value.oneCell']) (by unfold maxLen; omega) (by omega) (by simp; omega) ?_
            intro v' w2 hown' hgrow _
            obtain ⟨g', cap', rfl⟩ := ownsRow_succ hown'
            have KP : Kp (Y.drew.alloc (.cells (crV c (.slice none 0 0)).toArray 63)) w2 := Kp.grown (HROW.out _) (.inl rfl) hgrow
            have hA : (Y.drew.alloc (.cells (crV c (.slice none 0 0)).toArray 63)).heap[gn]? = some (.cells cur 3 (0, 0)) := (Below.heap_alloc Y.drew _ _ hgn).trans HCUR.out
            have hB : (Y.drew.alloc (.cells (crV c (.slice none 0 0)).toArray 63)).heap[w.heap.size]? = _ := (Below.heap_alloc Y.drew _ _ hXY).trans XY.out
            have sb := (KP _ _ _ _ hA (by decide) (by decide)).trans hA
            have sx := (KP _ _ _ _ hB (by decide) (by decide)).trans hB
            have y2 := HX2.out w2 sx
            have yf : ∀ i, w2.frozen? ⟨w.heap.size, i, none⟩ = false := fun i => by simp [World.frozen?, sx]
            have HLR := Lib.hid (addC_cr PY.out hn0 (by omega) HLG.out XY.out RY.out BN.out hown' hgrow)
            clear hown' hgrow KP hA hB
            refine hK.out _ _ sb (fun hS => ?_)
            clear hK K
            refine wpAnyH_ready (rs := [43]) (by kernel_rfl) (by simp) (AllReadyH.cons rfl (fun K hK => ?_) AllReadyH.nil)
            go_simp
            refine hK.out _ _ (hS) (fun hS => ?_)
            clear hK K
            refine wpAnyH_ready (rs := [44]) (by kernel_rfl) (by simp) (AllReadyH.cons rfl (fun K hK => ?_) AllReadyH.nil)
            go_simp
            refine hK.out _ _ ((set_far _ _ _ _ _ hgw).trans sb) (fun hS => ?_)
            clear hK K
            refine wpAnyH_done (by kernel_rfl) ?_ _
            go_wp2_with fail
            go_meet
            case rel => exact HLR.out
          case bA41 =>
            go_simp
            refine hK.out _ _ ((Below.heap_alloc Y.drew _ _ hgn).trans HCUR.out) (fun hS => ?_)
            clear hK K
            refine wpAnyH_ready (rs := [1]) (by kernel_rfl) (by simp) (AllReadyH.cons rfl (fun K hK => ?_) AllReadyH.nil)
            go_simp
            refine hK.out _ _ (hS) (fun hS => ?_)
            clear hK K
            refine wpAnyH_ready (rs := [42]) (by kernel_rfl) (by simp) (AllReadyH.cons rfl (fun K hK => ?_) AllReadyH.nil)
            rw [if_pos (by kernel_rfl)]
            refine wp_append_own _ _ _ 22 rfl n0 63 i0 _ 13 120 Tryz.underlying22 hi0 hz0 hz1 hz2 rfl (by decide) (.slice A x.cs.length cap) x.cs.length _ rfl (HROW.out (.cells (crV c (.slice none 0 0)).toArray 63)) ⟨Y.heap.size, 0, none⟩ 1 1 (crV c (.slice none 0 0)) rfl rfl (World.news_of_block (cs := (crV c (.slice none 0 0)).toArray) (heap_alloc_new Y.drew _)) (by simp [crV, Value.oneCell']) (by unfold maxLen; omega) (by omega) (by simp; omega) ?_
            intro v' w2 hown' hgrow _
            obtain ⟨g', cap', rfl⟩ := ownsRow_succ hown'
            have KP : Kp (Y.drew.alloc (.cells (crV c (.slice none 0 0)).toArray 63)) w2 := Kp.grown (HROW.out _) (.inl rfl) hgrow
            have hA : (Y.drew.alloc (.cells (crV c (.slice none 0 0)).toArray 63)).heap[gn]? = some (.cells cur 3 (0, 0)) := (Below.heap_alloc Y.drew _ _ hgn).trans HCUR.out
            have hB : (Y.drew.alloc (.cells (crV c (.slice none 0 0)).toArray 63)).heap[w.heap.size]? = _ := (Below.heap_alloc Y.drew _ _ hXY).trans XY.out
            have sb := (KP _ _ _ _ hA (by decide) (by decide)).trans hA
            have sx := (KP _ _ _ _ hB (by decide) (by decide)).trans hB
            have y2 := HX2.out w2 sx
            have yf : ∀ i, w2.frozen? ⟨w.heap.size, i, none⟩ = false := fun i => by simp [World.frozen?, sx]
            have HLR := Lib.hid (addC_cr PY.out hn0 (by omega) HLG.out XY.out RY.out BN.out hown' hgrow)
            clear hown' hgrow KP hA hB
            refine hK.out _ _ sb (fun hS => ?_)
            clear hK K
            refine wpAnyH_ready (rs := [43]) (by kernel_rfl) (by simp) (AllReadyH.cons rfl (fun K hK => ?_) AllReadyH.nil)
            go_simp
            refine hK.out _ _ (hS) (fun hS => ?_)
            clear hK K
            refine wpAnyH_ready (rs := [44]) (by kernel_rfl) (by simp) (AllReadyH.cons rfl (fun K hK => ?_) AllReadyH.nil)
            go_simp
            refine hK.out _ _ ((set_far _ _ _ _ _ hgw).trans sb) (fun hS => ?_)
            clear hK K
            refine wpAnyH_done (by kernel_rfl) ?_ _
            go_wp2_with fail
            go_meet
            case rel => exact HLR.out
        case rest =>
          obtain ⟨wi, hwi⟩ : ∃ wi, wi = wc := ⟨_, rfl⟩
          subst hwi
          obtain ⟨v, lv2, Bl2, hp2, hBl2, hX2, hR2, hB2⟩ := hcut
          obtain ⟨A9, cap9, rfl, -⟩ := ownsRow_form hp2.row
          have HP2 := Lib.hid hp2
          have HR2 := Lib.hid hR2
          have HBN := Lib.hid hB2
          have x0 : wi.cell? ⟨w.heap.size, 0, none⟩ = some (.int .i64 x.cy) := cur_at hX2 rfl
          have x1 : wi.cell? ⟨w.heap.size, 1, none⟩ = some (.int .i64 x.gr) := cur_at hX2 rfl
          have x2 : wi.cell? ⟨w.heap.size, 2, none⟩ = some (.slice A9 (x.cs ++ [c]).length cap9) := cur_at hX2 rfl
          have r0 : wi.cell? ⟨w.heap.size + 1, 0, none⟩ = some (.int .i64 0) := cur_at hR2 rfl
          have r1 : wi.cell? ⟨w.heap.size + 1, 1, none⟩ = some (.int .i64 0) := cur_at hR2 rfl
          have r2 : wi.cell? ⟨w.heap.size + 1, 2, none⟩ = some (.slice none 0 0) := cur_at hR2 rfl
          have fr : ∀ i, wi.frozen? ⟨w.heap.size + 1, i, none⟩ = false := fun i => by simp [World.frozen?, hR2]
          clear hX2 hR2 hp2 hB2
          go_wp2_with fail
          (try simp only [Exit.inBlock, Exit.then])
          have z0 := fun (X Y Z : Value) => set3_0' wi (w.heap.size + 1) X Y Z (by rw [r0]; rfl)
          have z1 := fun (X Y Z : Value) => set3_1' wi (w.heap.size + 1) X Y Z (by rw [r1]; rfl)
          have z2 := fun (X Y Z : Value) => set3_2' wi (w.heap.size + 1) X Y Z (by rw [r2]; rfl)
          refine bodyPost_ret (v := .tuple #[.agg #[.int .i64 x.cy, .int .i64 x.gr, .slice A9 (x.cs ++ [c]).length cap9], .bool true]) (by simp [results, Tryz.results67, go_sem, z0, z1, z2]) rfl ⟨.inl ⟨{ x with cs := (x.cs ++ [c]) }, _, lv2, Bl2, HST.out, rfl, ?_, by simpa [World.setCell] using hBl2⟩, ?_⟩
          · exact ((HP2.out.far HR2.out (by decide) (by decide)).far (setCell_heap _ _ _ _ _ _ _ HR2.out) (by decide) (by decide)).far (setCell_heap _ _ _ _ _ _ _ (setCell_heap _ _ _ _ _ _ _ HR2.out)) (by decide) (by decide)
          · exact ((HBN.out.setCell (p := ⟨w.heap.size + 1, 0, none⟩) (Nat.le_trans hn0 (Nat.le_succ _)) _).setCell (p := ⟨w.heap.size + 1, 1, none⟩) (Nat.le_trans hn0 (Nat.le_succ _)) _).setCell (p := ⟨w.heap.size + 1, 2, none⟩) (Nat.le_trans hn0 (Nat.le_succ _)) _
    · obtain rfl : m = 3 := by omega
      have hltI : ¬ ((3 : Nat) : Int) < 3 := by omega
      have HNO := Lib.hid (crO_no HM.out)
      clear HM
      go_wp2_with fail
      obtain ⟨Z, hZ⟩ : ∃ Z, Z = wr.alloc (.cells (wordsV (wordsOf legP)) 9) := ⟨_, rfl⟩
      have hZ1 : Z.heap[wr.heap.size]? = some (.cells (wordsV (wordsOf legP)) 9 (0, 0)) := by rw [hZ]; exact heap_alloc_new _ _
      have hZb : Below wr.heap.size wr Z := by rw [hZ]; exact (Below.refl _ _).alloc (Nat.le_refl _) _
      rw [show wr.alloc (.cells #[.string ⟨#[108, 101, 103]⟩, .string ⟨#[]⟩, .string ⟨#[]⟩] 9) = Z from hZ.symm]
      clear hZ
      refine (RD.out legP (some ⟨wr.heap.size, 0, none⟩) 3 Z (InT.of_block hZ1) (by decide) (fun p hp => (okw_leg p hp).1)).mono ?_
      rintro e Y ⟨⟨nv, rfl, hacc⟩, hbY⟩
      have BY := Lib.hid (BW.out.trans ((hZb.mono (by omega)).trans (hbY.mono (by have := hZb.size; omega))))
      have Bw := Lib.hid (hZb.trans (hbY.mono hZb.size))
      clear hZ1
      have XY := Lib.hid ((Bw.out.block _ (heap_lt Xr.out)).trans Xr.out)
      have RY := Lib.hid ((Bw.out.block _ (heap_lt Rr.out)).trans Rr.out)
      have PY := Lib.hid (HP.out.below BY.out)
      have sY := BY.out.size
      have hXY := heap_lt XY.out
      have BN : Hid (Below n0 w Y) := Lib.hid (BY.out.mono hn0)
      have x0 : Y.cell? ⟨w.heap.size, 0, none⟩ = some (.int .i64 x.cy) := cur_at XY.out rfl
      have x1 : Y.cell? ⟨w.heap.size, 1, none⟩ = some (.int .i64 x.gr) := cur_at XY.out rfl
      have x2 : Y.cell? ⟨w.heap.size, 2, none⟩ = some (.slice A x.cs.length cap) := cur_at XY.out rfl
      have r0 : Y.cell? ⟨w.heap.size + 1, 0, none⟩ = some (.int .i64 0) := cur_at RY.out rfl
      have r1 : Y.cell? ⟨w.heap.size + 1, 1, none⟩ = some (.int .i64 0) := cur_at RY.out rfl
      have r2 : Y.cell? ⟨w.heap.size + 1, 2, none⟩ = some (.slice none 0 0) := cur_at RY.out rfl
      have fr : ∀ i, Y.frozen? ⟨w.heap.size + 1, i, none⟩ = false := fun i => by simp [World.frozen?, RY.out]
      clear Xr Rr Pr HB Bw hbY hZb
      cases hr : readP legP ws with
      | none =>
        have HV : Hid (stepE x false ws = none) := Lib.hid (step_leg_no HNO.out (rd2_leg_no hr))
        go_wp2_with fail
        (try simp only [Exit.inBlock, Exit.then])
        have z0 := fun (X Z T : Value) => set3_0' Y (w.heap.size + 1) X Z T (by rw [r0]; rfl)
        have z1 := fun (X Z T : Value) => set3_1' Y (w.heap.size + 1) X Z T (by rw [r1]; rfl)
        have z2 := fun (X Z T : Value) => set3_2' Y (w.heap.size + 1) X Z T (by rw [r2]; rfl)
        refine bodyPost_ret (v := .tuple #[.agg #[.int .i64 x.cy, .int .i64 x.gr, .slice A x.cs.length cap], .bool false]) (by simp [results, Tryz.results67, go_sem, z0, z1, z2]) rfl ⟨.inr ⟨HV.out, _, _, _, _, _, rfl⟩, ?_⟩
        exact ((BN.out.setCell (p := ⟨w.heap.size + 1, 0, none⟩) (Nat.le_trans hn0 (Nat.le_succ _)) _).setCell (p := ⟨w.heap.size + 1, 1, none⟩) (Nat.le_trans hn0 (Nat.le_succ _)) _).setCell (p := ⟨w.heap.size + 1, 2, none⟩) (Nat.le_trans hn0 (Nat.le_succ _)) _
      | some ns =>
        by_cases hl0 : x.cs.length = 0
        · have l0 : ((x.cs.length : Int) == 0) = true := by simp [hl0]
          have HV : Hid (stepE x false ws = none) := Lib.hid (step_bare HNO.out (List.length_eq_zero_iff.1 hl0))
          clear hl0
          go_wp2_with fail
          (try simp only [Exit.inBlock, Exit.then])
          have z0 := fun (X Z T : Value) => set3_0' Y (w.heap.size + 1) X Z T (by rw [r0]; rfl)
          have z1 := fun (X Z T : Value) => set3_1' Y (w.heap.size + 1) X Z T (by rw [r1]; rfl)
          have z2 := fun (X Z T : Value) => set3_2' Y (w.heap.size + 1) X Z T (by rw [r2]; rfl)
          refine bodyPost_ret (v := .tuple #[.agg #[.int .i64 x.cy, .int .i64 x.gr, .slice A x.cs.length cap], .bool false]) (by simp [results, Tryz.results67, go_sem, z0, z1, z2]) rfl ⟨.inr ⟨HV.out, _, _, _, _, _, rfl⟩, ?_⟩
          exact ((BN.out.setCell (p := ⟨w.heap.size + 1, 0, none⟩) (Nat.le_trans hn0 (Nat.le_succ _)) _).setCell (p := ⟨w.heap.size + 1, 1, none⟩) (Nat.le_trans hn0 (Nat.le_succ _)) _).setCell (p := ⟨w.heap.size + 1, 2, none⟩) (Nat.le_trans hn0 (Nat.le_succ _)) _
        · have l0 : ((x.cs.length : Int) == 0) = false := by rw [beq_eq_false_iff_ne]; omega
          obtain ⟨ya, yb, hns⟩ := list2 (show ns.length = 2 by rw [readP_n hr]; rfl)
          have hacc := hacc ns hr
          subst hns
          have HST : Hid (stepE x false ws = some { x with cs := addL x.cs (ya, yb) }) := Lib.hid (step_leg HNO.out (fun e => hl0 (by rw [e]; rfl)) (rd2_leg hr))
          have hacc : Acc .i64 Y Z.heap.size 3 1 nv 2 [ya, yb] := hacc
          obtain ⟨NA, nc, rfl, hnc, hna⟩ := ownsRow_form hacc
          obtain ⟨gn, rfl, hgn0, hgn, ⟨cur, hcur⟩, hcn⟩ := hna (by omega)
          have k0 : cur[0]? = some (.int .i64 ya) := at_cur hcur (hcn 0 _ rfl)
          have k1 : cur[1]? = some (.int .i64 yb) := at_cur hcur (hcn 1 _ rfl)
          have HCUR := Lib.hid hcur
          clear hr hacc hna hcn hcur
          obtain ⟨gc, init, cl, linit, LA, lcap, rfl, hgc0, hcs, hlv, hc8, hfr, hrowL⟩ := PY.out.last (by omega)
          have hln : x.cs.length = init.length + 1 := by rw [hcs]; simp
          have hlnI : IntKind.i64.wrap ((x.cs.length : Int) - 1) = (init.length : Int) := by rw [hln]; rw [IntWalk.i64_in _ (by omega)]; omega
          have hlnI2 : (x.cs.length : Int) - 1 = (init.length : Int) := by omega
          have hltL : (init.length : Int) < (x.cs.length : Int) := by omega
          have hltN : init.length < x.cs.length := by omega
          have hlg1 : cl.lg.length ≤ 10000 := hlg cl (by rw [hcs]; simp)
          have HLG := Lib.hid hlg
          clear hlg
          have HCS := Lib.hid hcs
          have HLV := Lib.hid hlv
          have HLN := Lib.hid hln
          have hgc : gc < Y.heap.size := (PY.out.row.lt gc rfl).2
          have HRL : Hid (∀ ob, (Y.drew.alloc ob).ownsRow Bl 54 2 (.slice LA cl.lg.length lcap) cl.lg.length ((flat cl.lg).map (Value.int .i64))) := Lib.hid (fun ob => World.ownsRow.alloc (w := Y.drew) hrowL ob)
          have HFR := Lib.hid hfr
          have HC8 := Lib.hid hc8
          have BlY : Bl ≤ Y.heap.size := by omega
          clear hcs hlv hln hfr hrowL hc8 hgc0
          go_upto_region 12 with fail
          go_cut [] (fun wx => AddC n0 w.heap.size x (addL x.cs (ya, yb)) w wx)
          case first =>
            obtain ⟨i1, hi1, hj0, hj1, hj2⟩ := info_parts Leg_info
            have d8 : Y.drew.cell? ⟨gc, init.length * 13 + 8, none⟩ = some (.slice LA cl.lg.length lcap) := HC8.out
            have d8a : ∀ ob, (Y.drew.alloc ob).cell? ⟨gc, init.length * 13 + 8, none⟩ = some (.slice LA cl.lg.length lcap) := fun ob => (World.cell?_alloc_lt _ _ _ (show gc < Y.heap.size from hgc)).trans d8
            have d8b : ∀ ob, (Y.alloc ob).drew.cell? ⟨gc, init.length * 13 + 8, none⟩ = some (.slice LA cl.lg.length lcap) := fun ob => d8a ob
            refine wp_region_held_drew (S := fun w' => w'.heap[gn]? = some (.cells cur 3 (0, 0))) (by kernel_rfl) (show Y.drew.heap[gn]? = _ from HCUR.out) (fun hS => ?_)
            refine wpAnyH_take (i := 0) (v := ?vL1) rfl (by kernel_rfl) (by kernel_rfl) (by kernel_rfl) (fun _ _ _ h => h) (Or.inl ⟨by rfl, ?hL1⟩) hS ?rL1
            case hL1 =>
              intro w1 hSw
              clear hSw
              go_simp
              try with_reducible rfl
            (try simp only [Act.put])
            refine wpAnyH_take (i := 1) (v := ?vL2) rfl (by kernel_rfl) (by kernel_rfl) (by kernel_rfl) (fun _ _ _ h => h) (Or.inl ⟨by rfl, ?hL2⟩) hS ?rL2
            case hL2 =>
              intro w1 hSw
              clear hSw
              go_simp
              try with_reducible rfl
            (try simp only [Act.put])
            refine wpAnyH_take (i := 2) (v := ?vL3) rfl (by kernel_rfl) (by kernel_rfl) (by kernel_rfl) (fun _ _ _ h => h) (Or.inl ⟨by rfl, ?hL3⟩) hS ?rL3
            case hL3 =>
              intro w1 hSw
              clear hSw
              go_simp
              try with_reducible rfl
            (try simp only [Act.put])
            refine wpAnyH_take (i := 3) (v := ?vL4) rfl (by kernel_rfl) (by kernel_rfl) (by kernel_rfl) (fun _ _ _ h => h) (Or.inl ⟨by rfl, ?hL4⟩) hS ?rL4
            case hL4 =>
              intro w1 hSw
              clear hSw
              go_simp
              try with_reducible rfl
            (try simp only [Act.put])
            refine wpAnyH_take (i := 5) (v := ?vL5) rfl (by kernel_rfl) (by kernel_rfl) (by kernel_rfl) (fun _ _ _ h => h) (Or.inl ⟨by rfl, ?hL5⟩) hS ?rL5
            case hL5 =>
              intro w1 hSw
              clear hSw
              go_simp
              try with_reducible rfl
            (try simp only [Act.put])
            refine wpAnyH_take (i := 6) (v := ?vL6) rfl (by kernel_rfl) (by kernel_rfl) (by kernel_rfl) (fun _ _ _ h => h) (Or.inl ⟨by rfl, ?hL6⟩) hS ?rL6
            case hL6 =>
              intro w1 hSw
              clear hSw
              go_simp
              try with_reducible rfl
            (try simp only [Act.put])
            refine wpAnyH_take (i := 7) (v := ?vL7) rfl (by kernel_rfl) (by kernel_rfl) (by kernel_rfl) (fun _ _ _ h => h) (Or.inl ⟨by rfl, ?hL7⟩) hS ?rL7
            case hL7 =>
              intro w1 hSw
              have z : w1.cell? ⟨gn, 0, none⟩ = some (.int .i64 ya) := cur_at hSw k0
              clear hSw
              go_simp
              try with_reducible rfl
            (try simp only [Act.put])
            refine wpAnyH_take (i := 8) (v := ?vL8) rfl (by kernel_rfl) (by kernel_rfl) (by kernel_rfl) (fun _ _ _ h => h) (Or.inl ⟨by rfl, ?hL8⟩) hS ?rL8
            case hL8 =>
              intro w1 hSw
              clear hSw
              go_simp
              try with_reducible rfl
            (try simp only [Act.put])
            refine wpAnyH_take (i := 9) (v := ?vL9) rfl (by kernel_rfl) (by kernel_rfl) (by kernel_rfl) (fun _ _ _ h => h) (Or.inl ⟨by rfl, ?hL9⟩) hS ?rL9
            case hL9 =>
              intro w1 hSw
              clear hSw
              go_simp
              try with_reducible rfl
            (try simp only [Act.put])
            refine wpAnyH_take (i := 10) (v := ?vL10) rfl (by kernel_rfl) (by kernel_rfl) (by kernel_rfl) (fun _ _ _ h => h) (Or.inl ⟨by rfl, ?hL10⟩) hS ?rL10
            case hL10 =>
              intro w1 hSw
              have z : w1.cell? ⟨gn, 1, none⟩ = some (.int .i64 yb) := cur_at hSw k1
              clear hSw
              go_simp
              try with_reducible rfl
            (try simp only [Act.put])
            refine wpAnyH_take (i := 11) (v := ?vL11) rfl (by kernel_rfl) (by kernel_rfl) (by kernel_rfl) (fun _ _ _ h => h) (Or.inl ⟨by rfl, ?hL11⟩) hS ?rL11
            case hL11 =>
              intro w1 hSw
              clear hSw
              go_simp
              try with_reducible rfl
            (try simp only [Act.put])
            refine wpAnyH_ready (rs := [4, 12]) (by kernel_rfl) (by simp) (AllReadyH.cons rfl (fun K hK => ?aL12) (AllReadyH.cons rfl (fun K hK => ?bL12) AllReadyH.nil))
            case aL12 =>
              go_simp
              refine hK.out _ _ (hS) (fun hS => ?_)
              clear hK K
              refine wpAnyH_ready (rs := [12]) (by kernel_rfl) (by simp) (AllReadyH.cons rfl (fun K hK => ?_) AllReadyH.nil)
              go_simp
              refine hK.out _ _ ((Below.heap_alloc Y.drew _ _ hgn).trans HCUR.out) (fun hS => ?_)
              clear hK K
              refine wpAnyH_ready (rs := [13]) (by kernel_rfl) (by simp) (AllReadyH.cons rfl (fun K hK => ?_) AllReadyH.nil)
              rw [if_pos (by kernel_rfl)]
              refine wp_append_own _ _ _ 52 rfl Bl 54 i1 _ 2 16 Tryz.underlying52 hi1 hj0 hj1 hj2 rfl (by decide) (.slice LA cl.lg.length lcap) cl.lg.length _ rfl (HRL.out (.cells #[.int .i64 ya, .int .i64 yb] 54)) ⟨Y.heap.size, 0, none⟩ 1 1 [.int .i64 ya, .int .i64 yb] rfl rfl (World.news_of_block (cs := #[.int .i64 ya, .int .i64 yb]) (heap_alloc_new Y.drew _)) (by simp [Value.oneCell']) (by unfold maxLen; omega) (by omega) (by simp; omega) ?_
              intro v' w2 hown' hgrow _
              obtain ⟨g', cap', rfl⟩ := ownsRow_succ hown'
              have KP : Kp (Y.drew.alloc (.cells #[.int .i64 ya, .int .i64 yb] 54)) w2 := Kp.grown (HRL.out _) (.inr rfl) hgrow
              have hA : (Y.drew.alloc (.cells #[.int .i64 ya, .int .i64 yb] 54)).heap[gn]? = some (.cells cur 3 (0, 0)) := (Below.heap_alloc Y.drew _ _ hgn).trans HCUR.out
              have sb := (KP _ _ _ _ hA (by decide) (by decide)).trans hA
              have hrw := (PY.out.grown (w' := Y.drew.alloc (.cells #[.int .i64 ya, .int .i64 yb] 54)) (row := none) ⟨rfl, rfl, rfl, (World.grownBy_alloc Y.drew _ none).size, (World.grownBy_alloc Y.drew _ none).block⟩ (foreign_none _)).row
              have hgcne : some gc ≠ (Value.slice LA cl.lg.length lcap).ownBlock := own_ne hrw (HRL.out (.cells #[.int .i64 ya, .int .i64 yb] 54)) (by decide) rfl
              have e_gc : w2.heap[gc]? = Y.heap[gc]? := (hgrow.block _ (by simp; omega) hgcne).trans (Below.heap_alloc Y.drew _ _ (show gc < Y.heap.size from hgc))
              have y8 : w2.cell? ⟨gc, init.length * 13 + 8, none⟩ = some (.slice LA cl.lg.length lcap) := (World.cell?_of_block e_gc).trans HC8.out
              have yf : ∀ i, w2.frozen? ⟨gc, i, none⟩ = false := fun i => (World.frozen?_of_block e_gc).trans (HFR.out i)
              have hgg : gn ≠ gc := fun e => by
                obtain ⟨-, -, cu, hcu⟩ := ownsRow_own hrw (r := gc) rfl
                rw [← e, hA] at hcu
                injection hcu with e; injection e with _ e _; revert e; decide
              have HLR := Lib.hid (addC_leg HCS.out HLV.out PY.out BlY (by omega) XY.out RY.out BN.out hown' hgrow)
              clear hown' hgrow KP hA hrw hgcne e_gc
              refine hK.out _ _ sb (fun hS => ?_)
              clear hK K
              refine wpAnyH_ready (rs := [14]) (by kernel_rfl) (by simp) (AllReadyH.cons rfl (fun K hK => ?_) AllReadyH.nil)
              go_simp
              refine hK.out _ _ (hS) (fun hS => ?_)
              clear hK K
              refine wpAnyH_ready (rs := [15]) (by kernel_rfl) (by simp) (AllReadyH.cons rfl (fun K hK => ?_) AllReadyH.nil)
              go_simp
              refine hK.out _ _ (hS) (fun hS => ?_)
              clear hK K
              refine wpAnyH_ready (rs := [16]) (by kernel_rfl) (by simp) (AllReadyH.cons rfl (fun K hK => ?_) AllReadyH.nil)
              go_simp
              refine hK.out _ _ ((set_far _ _ _ _ _ hgg).trans sb) (fun hS => ?_)
              clear hK K
              refine wpAnyH_done (by kernel_rfl) ?_ _
              go_wp2_with fail
              go_meet
              case rel => exact HLR.out
            case bL12 =>
              go_simp
              refine hK.out _ _ ((Below.heap_alloc Y.drew _ _ hgn).trans HCUR.out) (fun hS => ?_)
              clear hK K
              refine wpAnyH_ready (rs := [4]) (by kernel_rfl) (by simp) (AllReadyH.cons rfl (fun K hK => ?_) AllReadyH.nil)
              go_simp
              refine hK.out _ _ (hS) (fun hS => ?_)
              clear hK K
              refine wpAnyH_ready (rs := [13]) (by kernel_rfl) (by simp) (AllReadyH.cons rfl (fun K hK => ?_) AllReadyH.nil)
              rw [if_pos (by kernel_rfl)]
              refine wp_append_own _ _ _ 52 rfl Bl 54 i1 _ 2 16 Tryz.underlying52 hi1 hj0 hj1 hj2 rfl (by decide) (.slice LA cl.lg.length lcap) cl.lg.length _ rfl (HRL.out (.cells #[.int .i64 ya, .int .i64 yb] 54)) ⟨Y.heap.size, 0, none⟩ 1 1 [.int .i64 ya, .int .i64 yb] rfl rfl (World.news_of_block (cs := #[.int .i64 ya, .int .i64 yb]) (heap_alloc_new Y.drew _)) (by simp [Value.oneCell']) (by unfold maxLen; omega) (by omega) (by simp; omega) ?_
              intro v' w2 hown' hgrow _
              obtain ⟨g', cap', rfl⟩ := ownsRow_succ hown'
              have KP : Kp (Y.drew.alloc (.cells #[.int .i64 ya, .int .i64 yb] 54)) w2 := Kp.grown (HRL.out _) (.inr rfl) hgrow
              have hA : (Y.drew.alloc (.cells #[.int .i64 ya, .int .i64 yb] 54)).heap[gn]? = some (.cells cur 3 (0, 0)) := (Below.heap_alloc Y.drew _ _ hgn).trans HCUR.out
              have sb := (KP _ _ _ _ hA (by decide) (by decide)).trans hA
              have hrw := (PY.out.grown (w' := Y.drew.alloc (.cells #[.int .i64 ya, .int .i64 yb] 54)) (row := none) ⟨rfl, rfl, rfl, (World.grownBy_alloc Y.drew _ none).size, (World.grownBy_alloc Y.drew _ none).block⟩ (foreign_none _)).row
              have hgcne : some gc ≠ (Value.slice LA cl.lg.length lcap).ownBlock := own_ne hrw (HRL.out (.cells #[.int .i64 ya, .int .i64 yb] 54)) (by decide) rfl
              have e_gc : w2.heap[gc]? = Y.heap[gc]? := (hgrow.block _ (by simp; omega) hgcne).trans (Below.heap_alloc Y.drew _ _ (show gc < Y.heap.size from hgc))
              have y8 : w2.cell? ⟨gc, init.length * 13 + 8, none⟩ = some (.slice LA cl.lg.length lcap) := (World.cell?_of_block e_gc).trans HC8.out
              have yf : ∀ i, w2.frozen? ⟨gc, i, none⟩ = false := fun i => (World.frozen?_of_block e_gc).trans (HFR.out i)
              have hgg : gn ≠ gc := fun e => by
                obtain ⟨-, -, cu, hcu⟩ := ownsRow_own hrw (r := gc) rfl
                rw [← e, hA] at hcu
                injection hcu with e; injection e with _ e _; revert e; decide
              have HLR := Lib.hid (addC_leg HCS.out HLV.out PY.out BlY (by omega) XY.out RY.out BN.out hown' hgrow)
              clear hown' hgrow KP hA hrw hgcne e_gc
              refine hK.out _ _ sb (fun hS => ?_)
              clear hK K
              refine wpAnyH_ready (rs := [14]) (by kernel_rfl) (by simp) (AllReadyH.cons rfl (fun K hK => ?_) AllReadyH.nil)
              go_simp
              refine hK.out _ _ (hS) (fun hS => ?_)
              clear hK K
              refine wpAnyH_ready (rs := [15]) (by kernel_rfl) (by simp) (AllReadyH.cons rfl (fun K hK => ?_) AllReadyH.nil)
              go_simp
              refine hK.out _ _ (hS) (fun hS => ?_)
              clear hK K
              refine wpAnyH_ready (rs := [16]) (by kernel_rfl) (by simp) (AllReadyH.cons rfl (fun K hK => ?_) AllReadyH.nil)
              go_simp
              refine hK.out _ _ ((set_far _ _ _ _ _ hgg).trans sb) (fun hS => ?_)
              clear hK K
              refine wpAnyH_done (by kernel_rfl) ?_ _
              go_wp2_with fail
              go_meet
              case rel => exact HLR.out
          case rest =>
            obtain ⟨wi, hwi⟩ : ∃ wi, wi = wc := ⟨_, rfl⟩
            subst hwi
            obtain ⟨v, lv2, Bl2, hp2, hBl2, hX2, hR2, hB2⟩ := hcut
            obtain ⟨A9, cap9, rfl, -⟩ := ownsRow_form hp2.row
            have HP2 := Lib.hid hp2
            have HR2 := Lib.hid hR2
            have HBN := Lib.hid hB2
            have x0 : wi.cell? ⟨w.heap.size, 0, none⟩ = some (.int .i64 x.cy) := cur_at hX2 rfl
            have x1 : wi.cell? ⟨w.heap.size, 1, none⟩ = some (.int .i64 x.gr) := cur_at hX2 rfl
            have x2 : wi.cell? ⟨w.heap.size, 2, none⟩ = some (.slice A9 (addL x.cs (ya, yb)).length cap9) := cur_at hX2 rfl
            have r0 : wi.cell? ⟨w.heap.size + 1, 0, none⟩ = some (.int .i64 0) := cur_at hR2 rfl
            have r1 : wi.cell? ⟨w.heap.size + 1, 1, none⟩ = some (.int .i64 0) := cur_at hR2 rfl
            have r2 : wi.cell? ⟨w.heap.size + 1, 2, none⟩ = some (.slice none 0 0) := cur_at hR2 rfl
            have fr : ∀ i, wi.frozen? ⟨w.heap.size + 1, i, none⟩ = false := fun i => by simp [World.frozen?, hR2]
            clear hX2 hR2 hp2 hB2
            go_wp2_with fail
            (try simp only [Exit.inBlock, Exit.then])
            have z0 := fun (X Y Z : Value) => set3_0' wi (w.heap.size + 1) X Y Z (by rw [r0]; rfl)
            have z1 := fun (X Y Z : Value) => set3_1' wi (w.heap.size + 1) X Y Z (by rw [r1]; rfl)
            have z2 := fun (X Y Z : Value) => set3_2' wi (w.heap.size + 1) X Y Z (by rw [r2]; rfl)
            refine bodyPost_ret (v := .tuple #[.agg #[.int .i64 x.cy, .int .i64 x.gr, .slice A9 (addL x.cs (ya, yb)).length cap9], .bool true]) (by simp [results, Tryz.results67, go_sem, z0, z1, z2]) rfl ⟨.inl ⟨{ x with cs := (addL x.cs (ya, yb)) }, _, lv2, Bl2, HST.out, rfl, ?_, by simpa [World.setCell] using hBl2⟩, ?_⟩
            · exact ((HP2.out.far HR2.out (by decide) (by decide)).far (setCell_heap _ _ _ _ _ _ _ HR2.out) (by decide) (by decide)).far (setCell_heap _ _ _ _ _ _ _ (setCell_heap _ _ _ _ _ _ _ HR2.out)) (by decide) (by decide)
            · exact ((HBN.out.setCell (p := ⟨w.heap.size + 1, 0, none⟩) (Nat.le_trans hn0 (Nat.le_succ _)) _).setCell (p := ⟨w.heap.size + 1, 1, none⟩) (Nat.le_trans hn0 (Nat.le_succ _)) _).setCell (p := ⟨w.heap.size + 1, 2, none⟩) (Nat.le_trans hn0 (Nat.le_succ _)) _
end Go.Proofs.YtnnnpliigdfipaaGreatDoor
