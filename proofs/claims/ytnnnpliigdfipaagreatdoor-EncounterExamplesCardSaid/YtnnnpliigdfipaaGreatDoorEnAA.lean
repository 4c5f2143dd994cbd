/- encounter: readCraft. -/
import Derived.Test.YtnnnpliigdfipaaGreatDoorRows
import Derived.WalkKit
import Derived.WalkLawsBesides
import Derived.WalkSpells
import Derived.ProofKit
import Derived.Below
import Derived.Outline
import Derived.Lib.Hide
import Derived.Deep.RegionWith
import Derived.Deep.RegionHeld3
import Derived.Deep.DrawnRows
import Derived.StillTailTactics
import Derived.BigQuiet
import Derived.Deep.QuietTactic
import Derived.Deep.LoopGhost
import Derived.IntWalk
import Derived.Lib.MinMax
import Derived.LoopN
import Derived.Test.YtnnnpliigdfipaaGreatDoorEnZ
import Derived.Test.YtnnnpliigdfipaaGreatDoorRC
import Derived.Test.YtnnnpliigdfipaaGreatDoorEnBA
namespace Go.Proofs.YtnnnpliigdfipaaGreatDoor
open Go.RowKit
attribute [local go_sem ↓] Go.wp_at_zero Go.wp_at_succ
attribute [local go_sem] wrap_lit
theorem fieldsV : ∃ V : Value, (∀ w, Calls Tryz.prog 92 #[] w fun e w' => e = .returned V ∧ Below w.heap.size w w') ∧ (∀ W : World, (Instr.index 122 V (.int .i64 0)).run Tryz.prog W = .ok (.agg #[.string ⟨#[99, 114, 97, 102, 116]⟩, .func (.func 125) #[] #[]]) W) ∧ (∀ W : World, (Instr.index 122 V (.int .i64 1)).run Tryz.prog W = .ok (.agg #[.string ⟨#[97, 116]⟩, .func (.func 126) #[] #[]]) W) ∧ (∀ W : World, (Instr.index 122 V (.int .i64 2)).run Tryz.prog W = .ok (.agg #[.string ⟨#[]⟩, .func (.func 127) #[] #[]]) W) ∧ (∀ W : World, (Instr.index 122 V (.int .i64 3)).run Tryz.prog W = .ok (.agg #[.string ⟨#[]⟩, .func (.func 128) #[] #[]]) W) ∧ (∀ W : World, (Instr.index 122 V (.int .i64 4)).run Tryz.prog W = .ok (.agg #[.string ⟨#[109, 111, 118, 105, 110, 103]⟩, .func (.func 129) #[] #[]]) W) ∧ (∀ W : World, (Instr.index 122 V (.int .i64 5)).run Tryz.prog W = .ok (.agg #[.string ⟨#[]⟩, .func (.func 130) #[] #[]]) W) ∧ (∀ W : World, (Instr.index 122 V (.int .i64 6)).run Tryz.prog W = .ok (.agg #[.string ⟨#[]⟩, .func (.func 131) #[] #[]]) W) ∧ (∀ W : World, (Instr.index 122 V (.int .i64 7)).run Tryz.prog W = .ok (.agg #[.string ⟨#[112, 117, 108, 108]⟩, .func (.func 132) #[] #[]]) W) ∧ (∀ W : World, (Instr.index 122 V (.int .i64 8)).run Tryz.prog W = .ok (.agg #[.string ⟨#[109, 111, 100, 101, 32, 112, 105, 108, 111, 116]⟩, .func (.func 133) #[] #[]]) W) ∧ (∀ W : World, (Instr.index 122 V (.int .i64 9)).run Tryz.prog W = .ok (.agg #[.string ⟨#[]⟩, .func (.func 134) #[] #[]]) W) ∧ (∀ W : World, (Instr.index 122 V (.int .i64 10)).run Tryz.prog W = .ok (.agg #[.string ⟨#[]⟩, .func (.func 135) #[] #[]]) W) :=
  ⟨_, fields92, (fun W => by kernel_rfl), (fun W => by kernel_rfl), (fun W => by kernel_rfl), (fun W => by kernel_rfl), (fun W => by kernel_rfl), (fun W => by kernel_rfl), (fun W => by kernel_rfl), (fun W => by kernel_rfl), (fun W => by kernel_rfl), (fun W => by kernel_rfl), (fun W => by kernel_rfl)⟩
theorem list18 {ws : List Tx} (h : ws.length = 18) : ∃ a0 a1 a2 a3 a4 a5 a6 a7 a8 a9 a10 a11 a12 a13 a14 a15 a16 a17, ws = [a0, a1, a2, a3, a4, a5, a6, a7, a8, a9, a10, a11, a12, a13, a14, a15, a16, a17] := by
  rcases ws with _ | ⟨a0, _ | ⟨a1, _ | ⟨a2, _ | ⟨a3, _ | ⟨a4, _ | ⟨a5, _ | ⟨a6, _ | ⟨a7, _ | ⟨a8, _ | ⟨a9, _ | ⟨a10, _ | ⟨a11, _ | ⟨a12, _ | ⟨a13, _ | ⟨a14, _ | ⟨a15, _ | ⟨a16, _ | ⟨a17, _ | ⟨z, l⟩⟩⟩⟩⟩⟩⟩⟩⟩⟩⟩⟩⟩⟩⟩⟩⟩⟩⟩ <;> simp at h
  exact ⟨_, _, _, _, _, _, _, _, _, _, _, _, _, _, _, _, _, _, rfl⟩
theorem numO_nil : numO [] = none := by decide
theorem num_get {x : Tx} {n : Int} (h : (numO x).isSome = true) (e : n = (numO x).getD 0) : Lib.itoa n = x ∧ small n := by
  obtain ⟨k, hk⟩ := Option.isSome_iff_exists.1 h
  rw [hk] at e
  simp only [Option.getD_some] at e
  subst e
  exact (numO_iff _ _).1 hk
set_option maxHeartbeats 2000000 in
theorem craft_fin {ws : List Tx} {m n0 n1 n2 n3 n4 n5 n6 n7 n8 n9 n10 : Int} {b : Bool} (m0 : 0 ≤ m) (m2 : m ≤ 2) (hm : ws.getD 13 [] = moW m) (hb : b = false ↔ 0 < ws.length ∧ ws.getD 0 [] = w_craft ∧ (numO (ws.getD 1 [])).isSome = true ∧ 2 < ws.length ∧ ws.getD 2 [] = w_at ∧ (numO (ws.getD 3 [])).isSome = true ∧ (numO (ws.getD 4 [])).isSome = true ∧ (numO (ws.getD 5 [])).isSome = true ∧ 6 < ws.length ∧ ws.getD 6 [] = w_moving ∧ (numO (ws.getD 7 [])).isSome = true ∧ (numO (ws.getD 8 [])).isSome = true ∧ (numO (ws.getD 9 [])).isSome = true ∧ 10 < ws.length ∧ ws.getD 10 [] = w_pull ∧ (numO (ws.getD 11 [])).isSome = true ∧ 12 < ws.length ∧ ws.getD 12 [] = w_mode ∧ 13 < ws.length ∧ 14 < ws.length ∧ ws.getD 14 [] = w_pilot ∧ (numO (ws.getD 15 [])).isSome = true ∧ (numO (ws.getD 16 [])).isSome = true ∧ (numO (ws.getD 17 [])).isSome = true) (e0 : n0 = (numO (ws.getD 1 [])).getD 0) (e1 : n1 = (numO (ws.getD 3 [])).getD 0) (e2 : n2 = (numO (ws.getD 4 [])).getD 0) (e3 : n3 = (numO (ws.getD 5 [])).getD 0) (e4 : n4 = (numO (ws.getD 7 [])).getD 0) (e5 : n5 = (numO (ws.getD 8 [])).getD 0) (e6 : n6 = (numO (ws.getD 9 [])).getD 0) (e7 : n7 = (numO (ws.getD 11 [])).getD 0) (e8 : n8 = (numO (ws.getD 15 [])).getD 0) (e9 : n9 = (numO (ws.getD 16 [])).getD 0) (e10 : n10 = (numO (ws.getD 17 [])).getD 0) : (!b && decide (ws.length ≤ 18)) = (crO ws).isSome ∧ ∀ c, crO ws = some c → (⟨n0, ⟨n1, n2, n3⟩, ⟨n4, n5, n6⟩, n7, [], m, n8, n9, n10⟩ : Cr) = c := by
  have fwd : b = false → ws.length ≤ 18 → crO ws = some (⟨n0, ⟨n1, n2, n3⟩, ⟨n4, n5, n6⟩, n7, [], m, n8, n9, n10⟩ : Cr) := by
    intro h hl
    obtain ⟨-, h0, h1, -, h2, h3, h4, h5, -, h6, h7, h8, h9, -, h10, h11, -, h12, -, -, h14, h15, h16, h17⟩ := hb.1 h
    have hl2 : ws.length = 18 := by
      rcases Nat.lt_or_ge 17 ws.length with g | g
      · omega
      · rw [List.getD_eq_getElem?_getD, List.getElem?_eq_none g] at h17
        simp only [Option.getD_none, numO_nil] at h17
        cases h17
    have g0 := num_get h1 e0
    have g1 := num_get h3 e1
    have g2 := num_get h4 e2
    have g3 := num_get h5 e3
    have g4 := num_get h7 e4
    have g5 := num_get h8 e5
    have g6 := num_get h9 e6
    have g7 := num_get h11 e7
    have g8 := num_get h15 e8
    have g9 := num_get h16 e9
    have g10 := num_get h17 e10
    clear e0 e1 e2 e3 e4 e5 e6 e7 e8 e9 e10 h1 h3 h4 h5 h7 h8 h9 h11 h15 h16 h17 hb
    obtain ⟨a0, a1, a2, a3, a4, a5, a6, a7, a8, a9, a10, a11, a12, a13, a14, a15, a16, a17, rfl⟩ := list18 hl2
    simp only [List.getD_cons_zero, List.getD_cons_succ] at hm h0 h2 h6 h10 h12 h14 g0 g1 g2 g3 g4 g5 g6 g7 g8 g9 g10
    refine (crO_iff _ _).2 ⟨?_, rfl, ⟨m0, m2⟩, ?_⟩
    · simp only [crL, Cr.nums, crP, writeP, List.headD_cons, List.tail_cons, g0.1, g1.1, g2.1, g3.1, g4.1, g5.1, g6.1, g7.1, g8.1, g9.1, g10.1, hm, h0, h2, h6, h10, h12, h14]
    · simp [Cr.nums, g0.2, g1.2, g2.2, g3.2, g4.2, g5.2, g6.2, g7.2, g8.2, g9.2, g10.2]
  have bwd : ∀ c, crO ws = some c → b = false ∧ ws.length ≤ 18 ∧ (⟨n0, ⟨n1, n2, n3⟩, ⟨n4, n5, n6⟩, n7, [], m, n8, n9, n10⟩ : Cr) = c := by
    intro c h
    obtain ⟨h1, h2, h3, h4⟩ := (crO_iff _ _).1 h
    obtain ⟨ad, ⟨x, y, z⟩, ⟨vx, vy, vz⟩, pu, lg, mo, de, pp, mi⟩ := c
    simp only at h2 h3
    subst h2
    simp only [crL, Cr.nums, crP, writeP, List.headD_cons, List.tail_cons] at h1
    simp only [Cr.nums, List.mem_cons, List.not_mem_nil, or_false, forall_eq_or_imp, forall_eq] at h4
    obtain ⟨s0, s1, s2, s3, s4, s5, s6, s7, s8, s9, s10⟩ := h4
    have emo : mo = m := by
      rw [h1] at hm
      simp only [List.getD_cons_zero, List.getD_cons_succ] at hm
      rcases (by omega : mo = 0 ∨ mo = 1 ∨ mo = 2) with g | g | g <;> rcases (by omega : m = 0 ∨ m = 1 ∨ m = 2) with g' | g' | g' <;> subst g <;> subst g' <;> first | rfl | exact absurd hm (by decide)
    rw [h1] at hb e0 e1 e2 e3 e4 e5 e6 e7 e8 e9 e10
    simp only [List.getD_cons_zero, List.getD_cons_succ, numO_itoa s0, numO_itoa s1, numO_itoa s2, numO_itoa s3, numO_itoa s4, numO_itoa s5, numO_itoa s6, numO_itoa s7, numO_itoa s8, numO_itoa s9, numO_itoa s10, Option.getD_some] at e0 e1 e2 e3 e4 e5 e6 e7 e8 e9 e10
    simp only [List.getD_cons_zero, List.getD_cons_succ, numO_itoa s0, numO_itoa s1, numO_itoa s2, numO_itoa s3, numO_itoa s4, numO_itoa s5, numO_itoa s6, numO_itoa s7, numO_itoa s8, numO_itoa s9, numO_itoa s10, List.length_cons, List.length_nil, Option.isSome_some] at hb
    refine ⟨hb.2 (by simp), by rw [h1]; simp, ?_⟩
    subst emo e0 e1 e2 e3 e4 e5 e6 e7 e8 e9 e10
    rfl
  constructor
  · cases e : crO ws with
    | some c =>
      obtain ⟨h1, h2, -⟩ := bwd c e
      simp [h1, h2]
    | none =>
      cases hbb : b with
      | true => simp
      | false =>
        rcases Nat.lt_or_ge 18 ws.length with g | g
        · simp; omega
        · rw [fwd hbb g] at e; cases e
  · exact fun c h => (bwd c h).2.2
theorem setCell_same (w : World) (b i : Nat) (cs : Array Value) (t : TypeId) (f : Nat × Nat) (v : Value) (h : w.heap[b]? = some (.cells cs t f)) (hv : cs[i]? = some v) : w.setCell ⟨b, i, none⟩ v = w := by
  have hc : cs.setIfInBounds i v = cs := by
    apply Array.ext_getElem?
    intro j
    rw [Array.getElem?_setIfInBounds]
    by_cases e : i = j
    · subst e
      have : i < cs.size := by
        rcases Nat.lt_or_ge i cs.size with g | g
        · exact g
        · rw [Array.getElem?_eq_none g] at hv; cases hv
      rw [if_pos rfl, if_pos this, hv]
    · rw [if_neg e]
  have e1 : (w.setCell ⟨b, i, none⟩ v).heap = w.heap := by
    apply Array.ext_getElem?
    intro j
    by_cases e : b = j
    · subst e
      rw [setCell_heap w b i cs t f v h, hc, h]
    · simp [World.setCell, Array.getElem?_modify, e]
  have e2 : w.setCell ⟨b, i, none⟩ v = { w with heap := (w.setCell ⟨b, i, none⟩ v).heap } := rfl
  rw [e2, e1]
theorem idx_val (x : Tx) : Lib.idxOfS ([w_none, w_tables, w_rules].map S) (S x) = if x = w_none then 0 else if x = w_tables then 1 else if x = w_rules then 2 else -1 := by
  have e : ∀ y : Tx, (S y = S x) ↔ x = y := fun y => ⟨fun h => (S_inj h).symm, fun h => by rw [h]⟩
  simp only [Lib.idxOfS, List.map_cons, List.map_nil, Lib.idxFromS]
  by_cases h0 : x = w_none
  · subst h0; rfl
  · by_cases h1 : x = w_tables
    · subst h1; rfl
    · by_cases h2 : x = w_rules
      · subst h2; rfl
      · have n0 : ¬ S w_none = S x := fun h => h0 ((e _).1 h)
        have n1 : ¬ S w_tables = S x := fun h => h1 ((e _).1 h)
        have n2 : ¬ S w_rules = S x := fun h => h2 ((e _).1 h)
        rw [if_neg n0, if_neg n1, if_neg n2, if_neg h0, if_neg h1, if_neg h2]
theorem idx_mode {x : Tx} {m : Int} (h : m = Lib.idxOfS ([w_none, w_tables, w_rules].map S) (S x)) (hn : ¬ m < 0) : 0 ≤ m ∧ m ≤ 2 ∧ x = moW m := by
  rw [idx_val] at h
  split at h
  · subst h; rename_i e; exact ⟨by omega, by omega, e⟩
  · split at h
    · subst h; rename_i e; exact ⟨by omega, by omega, e⟩
    · split at h
      · subst h; rename_i e; exact ⟨by omega, by omega, e⟩
      · omega
theorem crO_noMode {ws : List Tx} (h : Lib.idxOfS ([w_none, w_tables, w_rules].map S) (S (ws.getD 13 [])) < 0) : crO ws = none := by
  cases e : crO ws with
  | none => rfl
  | some c =>
    obtain ⟨e1, -, ⟨m0, m2⟩, -⟩ := (crO_iff ws c).1 e
    have e2 : ws.getD 13 [] = moW c.mo := by rw [e1]; rfl
    rw [idx_val, e2] at h
    rcases (by omega : c.mo = 0 ∨ c.mo = 1 ∨ c.mo = 2) with g | g | g <;> rw [g] at h <;> exact absurd h (by decide)
theorem wrap_u8 {m : Int} (h0 : 0 ≤ m) (h1 : m ≤ 2) : IntKind.u8.wrap m = m := by
  rcases (by omega : m = 0 ∨ m = 1 ∨ m = 2) with g | g | g <;> subst g <;> rfl
set_option maxRecDepth 100000 in
set_option maxHeartbeats 8000000 in
theorem craft70 (K : Nat) (A : Option Addr) (c : Nat) (ws : List Tx) (w : World) (E : Env K w) (hK : K ≤ w.heap.size) (h : InT w w.heap.size A ws) (hc : ws.length ≤ c) (hl : ws.length ≤ 100000) (hw : ∀ x ∈ ws, x.length ≤ 100000) : Calls Tryz.prog 70 #[.slice A ws.length c] w fun e w' => (∃ d : Cr, e = .returned (.tuple #[.agg #[.int .i64 d.ad, .int .i64 d.p.x, .int .i64 d.p.y, .int .i64 d.p.z, .int .i64 d.v.x, .int .i64 d.v.y, .int .i64 d.v.z, .int .i64 d.pu, .slice none 0 0, .int .u8 d.mo, .int .i64 d.de, .int .i64 d.pp, .int .i64 d.mi], .bool (crO ws).isSome]) ∧ ∀ c, crO ws = some c → d = c) ∧ Below w.heap.size w w' := by
  obtain ⟨V, hV, ix0, ix1, ix2, ix3, ix4, ix5, ix6, ix7, ix8, ix9, ix10⟩ := fieldsV
  have HV := Lib.hid hV
  clear hV
  have hsf : ∀ (w : World) (a : Addr) (k : Nat), _ := fun w a k => run_store Tryz.prog w a (.func (.func k) #[] #[]) .plain rfl
  go_enter Tryz.func70, Tryz.ntmps70
  go_wp2_with fail
  obtain ⟨W0, hW0⟩ : ∃ W0, W0 = (w.alloc (.cells #[.int .i64 0, .int .i64 0, .int .i64 0, .int .i64 0, .int .i64 0, .int .i64 0, .int .i64 0, .int .i64 0, .slice none 0 0, .int .u8 0, .int .i64 0, .int .i64 0, .int .i64 0] 63)).alloc (.cells #[.slice A ws.length c, .bool false] 134) := ⟨_, rfl⟩
  have BW0 : Hid (Below w.heap.size w W0) := Lib.hid (by rw [hW0]; exact ((Below.refl _ _).alloc (Nat.le_refl _) _).alloc (by simp) _)
  have mW0 : w.heap.size ≤ W0.heap.size := by rw [hW0]; simp; omega
  have zW0 : (w.heap.size + 1) < W0.heap.size := by rw [hW0]; simp
  have CW0 : Hid (W0.heap[w.heap.size]? = some (.cells #[.int .i64 0, .int .i64 0, .int .i64 0, .int .i64 0, .int .i64 0, .int .i64 0, .int .i64 0, .int .i64 0, .slice none 0 0, .int .u8 0, .int .i64 0, .int .i64 0, .int .i64 0] 63 (0, 0))) := Lib.hid (by rw [hW0]; exact (Below.heap_alloc _ _ _ (by simp)).trans (heap_alloc_new _ _))
  have SW0 : Hid (Sc w.heap.size W0 (w.heap.size + 1) (ws.drop 0) false) := Lib.hid ⟨A, c, by rw [hW0]; exact heap_alloc_at _ _ _ (by simp), h.below BW0.out, hc, by omega⟩
  have EW0 := Lib.hid (E.below (BW0.out.mono hK))
  rw [← hW0]
  clear hW0 h E
  refine (HV.out W0).mono ?_
  rintro e W1 ⟨rfl, hb⟩
  have BW1 := Lib.hid (BW0.out.trans ((hb).mono mW0))
  have mW1 := Nat.le_trans mW0 (hb).size
  have zW1 := Nat.lt_of_lt_of_le zW0 (hb).size
  have CW1 := Lib.hid (((hb).block _ (by omega)).trans CW0.out)
  have SW1 := Lib.hid (SW0.out.below (hb))
  have EW1 := Lib.hid (EW0.out.below ((hb).mono (by omega)))
  clear BW0 mW0 zW0 CW0 SW0 EW0
  clear hb
  go_wp2_with fail
  refine wp_loop_rounds 12 ?_
  rw [rounds_succ]
  go_wp2_with fail
  obtain ⟨X2, hX⟩ : ∃ X2, X2 = W1.alloc (.cells #[.string ⟨#[99, 114, 97, 102, 116]⟩, .func (.func 125) #[] #[]] 121) := ⟨_, rfl⟩
  have bX : Below W1.heap.size W1 X2 := by rw [hX]; exact (Below.refl _ _).alloc (Nat.le_refl _) _
  have FX2 : Hid (X2.heap[W1.heap.size]? = some (.cells #[.string ⟨#[99, 114, 97, 102, 116]⟩, .func (.func 125) #[] #[]] 121 (0, 0))) := Lib.hid (by rw [hX]; exact heap_alloc_new _ _)
  have zF : (w.heap.size + 1) < W1.heap.size := zW1
  rw [← hX]
  clear hX
  have BX2 := Lib.hid (BW1.out.trans ((bX).mono mW1))
  have mX2 := Nat.le_trans mW1 (bX).size
  have zX2 := Nat.lt_of_lt_of_le zW1 (bX).size
  have CX2 := Lib.hid (((bX).block _ (by omega)).trans CW1.out)
  have SX2 := Lib.hid (SW1.out.below (bX))
  have EX2 := Lib.hid (EW1.out.below ((bX).mono (by omega)))
  clear BW1 mW1 zW1 CW1 SW1 EW1
  clear bX
  refine (wordD w.heap.size (w.heap.size + 1) ws 0 false w_craft _ SX2.out hl).mono ?_
  rintro e Y3 ⟨rfl, ⟨bd1, sc, J1⟩, hg⟩
  clear SX2
  have SY3 := Lib.hid sc
  clear sc
  have BY3 := Lib.hid (BX2.out.grown hg mX2 (fun k hk => by injection hk with hk; omega))
  have mY3 := Nat.le_trans mX2 (hg).size
  have zY3 := Nat.lt_of_lt_of_le zX2 (hg).size
  have CY3 := Lib.hid (((hg).block _ (by omega) (by simp)).trans CX2.out)
  have EY3 := Lib.hid (EX2.out.grown hg (by omega) (by omega))
  have FY3 := Lib.hid (((hg).block _ (heap_lt FX2.out) (by simp; omega)).trans FX2.out)
  clear FX2
  clear hg BX2 mX2 zX2 CX2 EX2
  have fc : Y3.cell? ⟨W1.heap.size, 1, none⟩ = some (.func (.func 125) #[] #[]) := by simp [World.cell?, FY3.out]
  go_wp2_with fail
  refine (field0 w.heap.size _).mono ?_
  rintro e wS ⟨rfl, rfl⟩
  go_wp2_with fail
  clear FY3 fc
  refine (numD K w.heap.size (w.heap.size + 1) ws 1 bd1 _ EY3.out SY3.out (by omega) hl hw).mono ?_
  rintro e Y4 ⟨rfl, ⟨bd2, sc, J2⟩, hg⟩
  clear SY3
  have SY4 := Lib.hid sc
  clear sc
  have BY4 := Lib.hid (BY3.out.grown hg mY3 (fun k hk => by injection hk with hk; omega))
  have mY4 := Nat.le_trans mY3 (hg).size
  have zY4 := Nat.lt_of_lt_of_le zY3 (hg).size
  have CY4 := Lib.hid (((hg).block _ (by omega) (by simp)).trans CY3.out)
  have EY4 := Lib.hid (EY3.out.grown hg (by omega) (by omega))
  clear hg BY3 mY3 zY3 CY3 EY3
  obtain ⟨n0, hn⟩ : ∃ n, n = (numO (ws.getD 1 [])).getD 0 := ⟨_, rfl⟩
  rw [← hn]
  have N0 := Lib.hid hn
  clear hn zF
  have co : Y4.cell? ⟨w.heap.size, 0, none⟩ = some (.int .i64 0) := by simp [World.cell?, CY4.out]
  have cf : Y4.frozen? ⟨w.heap.size, 0, none⟩ = false := by simp [World.frozen?, CY4.out]
  go_wp2_with fail
  obtain ⟨V5, hX⟩ : ∃ V5, V5 = Y4.setCell ⟨w.heap.size, 0, none⟩ (.int .i64 n0) := ⟨_, rfl⟩
  have bX : Below w.heap.size Y4 V5 := by rw [hX]; exact (Below.refl _ _).setCell (p := ⟨w.heap.size, 0, none⟩) (Nat.le_refl _) _
  have BV5 := Lib.hid (BY4.out.trans bX)
  have mV5 := Nat.le_trans mY4 bX.size
  have zV5 := Nat.lt_of_lt_of_le zY4 bX.size
  have CV5 : Hid (V5.heap[w.heap.size]? = some (.cells #[.int .i64 n0, .int .i64 0, .int .i64 0, .int .i64 0, .int .i64 0, .int .i64 0, .int .i64 0, .int .i64 0, .slice none 0 0, .int .u8 0, .int .i64 0, .int .i64 0, .int .i64 0] 63 (0, 0))) := Lib.hid (by rw [hX]; exact (setCell_heap _ _ _ _ _ _ _ CY4.out).trans (by simp))
  have SV5 := Lib.hid (SY4.out.keep bX (by rw [hX]; exact Below.heap_setCell _ _ _ _ (by simp)))
  have EV5 := Lib.hid (EY4.out.below (bX.mono hK))
  rw [← hX]
  clear hX bX BY4 mY4 zY4 CY4 SY4 EY4 co cf
  rw [rounds_succ]
  go_wp2_with fail
  obtain ⟨X6, hX⟩ : ∃ X6, X6 = V5.alloc (.cells #[.string ⟨#[97, 116]⟩, .func (.func 126) #[] #[]] 121) := ⟨_, rfl⟩
  have bX : Below V5.heap.size V5 X6 := by rw [hX]; exact (Below.refl _ _).alloc (Nat.le_refl _) _
  have FX6 : Hid (X6.heap[V5.heap.size]? = some (.cells #[.string ⟨#[97, 116]⟩, .func (.func 126) #[] #[]] 121 (0, 0))) := Lib.hid (by rw [hX]; exact heap_alloc_new _ _)
  have zF : (w.heap.size + 1) < V5.heap.size := zV5
  rw [← hX]
  clear hX
  have BX6 := Lib.hid (BV5.out.trans ((bX).mono mV5))
  have mX6 := Nat.le_trans mV5 (bX).size
  have zX6 := Nat.lt_of_lt_of_le zV5 (bX).size
  have CX6 := Lib.hid (((bX).block _ (by omega)).trans CV5.out)
  have SX6 := Lib.hid (SV5.out.below (bX))
  have EX6 := Lib.hid (EV5.out.below ((bX).mono (by omega)))
  clear BV5 mV5 zV5 CV5 SV5 EV5
  clear bX
  refine (wordD w.heap.size (w.heap.size + 1) ws 2 bd2 w_at _ SX6.out hl).mono ?_
  rintro e Y7 ⟨rfl, ⟨bd3, sc, J3⟩, hg⟩
  clear SX6
  have SY7 := Lib.hid sc
  clear sc
  have BY7 := Lib.hid (BX6.out.grown hg mX6 (fun k hk => by injection hk with hk; omega))
  have mY7 := Nat.le_trans mX6 (hg).size
  have zY7 := Nat.lt_of_lt_of_le zX6 (hg).size
  have CY7 := Lib.hid (((hg).block _ (by omega) (by simp)).trans CX6.out)
  have EY7 := Lib.hid (EX6.out.grown hg (by omega) (by omega))
  have FY7 := Lib.hid (((hg).block _ (heap_lt FX6.out) (by simp; omega)).trans FX6.out)
  clear FX6
  clear hg BX6 mX6 zX6 CX6 EX6
  have fc : Y7.cell? ⟨V5.heap.size, 1, none⟩ = some (.func (.func 126) #[] #[]) := by simp [World.cell?, FY7.out]
  go_wp2_with fail
  refine (field1 w.heap.size _).mono ?_
  rintro e wS ⟨rfl, rfl⟩
  go_wp2_with fail
  clear FY7 fc
  refine (numD K w.heap.size (w.heap.size + 1) ws 3 bd3 _ EY7.out SY7.out (by omega) hl hw).mono ?_
  rintro e Y8 ⟨rfl, ⟨bd4, sc, J4⟩, hg⟩
  clear SY7
  have SY8 := Lib.hid sc
  clear sc
  have BY8 := Lib.hid (BY7.out.grown hg mY7 (fun k hk => by injection hk with hk; omega))
  have mY8 := Nat.le_trans mY7 (hg).size
  have zY8 := Nat.lt_of_lt_of_le zY7 (hg).size
  have CY8 := Lib.hid (((hg).block _ (by omega) (by simp)).trans CY7.out)
  have EY8 := Lib.hid (EY7.out.grown hg (by omega) (by omega))
  clear hg BY7 mY7 zY7 CY7 EY7
  obtain ⟨n1, hn⟩ : ∃ n, n = (numO (ws.getD 3 [])).getD 0 := ⟨_, rfl⟩
  rw [← hn]
  have N1 := Lib.hid hn
  clear hn zF
  have co : Y8.cell? ⟨w.heap.size, 1, none⟩ = some (.int .i64 0) := by simp [World.cell?, CY8.out]
  have cf : Y8.frozen? ⟨w.heap.size, 1, none⟩ = false := by simp [World.frozen?, CY8.out]
  go_wp2_with fail
  obtain ⟨V9, hX⟩ : ∃ V9, V9 = Y8.setCell ⟨w.heap.size, 1, none⟩ (.int .i64 n1) := ⟨_, rfl⟩
  have bX : Below w.heap.size Y8 V9 := by rw [hX]; exact (Below.refl _ _).setCell (p := ⟨w.heap.size, 1, none⟩) (Nat.le_refl _) _
  have BV9 := Lib.hid (BY8.out.trans bX)
  have mV9 := Nat.le_trans mY8 bX.size
  have zV9 := Nat.lt_of_lt_of_le zY8 bX.size
  have CV9 : Hid (V9.heap[w.heap.size]? = some (.cells #[.int .i64 n0, .int .i64 n1, .int .i64 0, .int .i64 0, .int .i64 0, .int .i64 0, .int .i64 0, .int .i64 0, .slice none 0 0, .int .u8 0, .int .i64 0, .int .i64 0, .int .i64 0] 63 (0, 0))) := Lib.hid (by rw [hX]; exact (setCell_heap _ _ _ _ _ _ _ CY8.out).trans (by simp))
  have SV9 := Lib.hid (SY8.out.keep bX (by rw [hX]; exact Below.heap_setCell _ _ _ _ (by simp)))
  have EV9 := Lib.hid (EY8.out.below (bX.mono hK))
  rw [← hX]
  clear hX bX BY8 mY8 zY8 CY8 SY8 EY8 co cf
  rw [rounds_succ]
  go_wp2_with fail
  obtain ⟨X10, hX⟩ : ∃ X10, X10 = V9.alloc (.cells #[.string ⟨#[]⟩, .func (.func 127) #[] #[]] 121) := ⟨_, rfl⟩
  have bX : Below V9.heap.size V9 X10 := by rw [hX]; exact (Below.refl _ _).alloc (Nat.le_refl _) _
  have FX10 : Hid (X10.heap[V9.heap.size]? = some (.cells #[.string ⟨#[]⟩, .func (.func 127) #[] #[]] 121 (0, 0))) := Lib.hid (by rw [hX]; exact heap_alloc_new _ _)
  have zF : (w.heap.size + 1) < V9.heap.size := zV9
  rw [← hX]
  clear hX
  have BX10 := Lib.hid (BV9.out.trans ((bX).mono mV9))
  have mX10 := Nat.le_trans mV9 (bX).size
  have zX10 := Nat.lt_of_lt_of_le zV9 (bX).size
  have CX10 := Lib.hid (((bX).block _ (by omega)).trans CV9.out)
  have SX10 := Lib.hid (SV9.out.below (bX))
  have EX10 := Lib.hid (EV9.out.below ((bX).mono (by omega)))
  clear BV9 mV9 zV9 CV9 SV9 EV9
  clear bX
  have fc : X10.cell? ⟨V9.heap.size, 1, none⟩ = some (.func (.func 127) #[] #[]) := by simp [World.cell?, FX10.out]
  go_wp2_with fail
  refine (field2 w.heap.size _).mono ?_
  rintro e wS ⟨rfl, rfl⟩
  go_wp2_with fail
  clear FX10 fc
  refine (numD K w.heap.size (w.heap.size + 1) ws 4 bd4 _ EX10.out SX10.out (by omega) hl hw).mono ?_
  rintro e Y11 ⟨rfl, ⟨bd5, sc, J5⟩, hg⟩
  clear SX10
  have SY11 := Lib.hid sc
  clear sc
  have BY11 := Lib.hid (BX10.out.grown hg mX10 (fun k hk => by injection hk with hk; omega))
  have mY11 := Nat.le_trans mX10 (hg).size
  have zY11 := Nat.lt_of_lt_of_le zX10 (hg).size
  have CY11 := Lib.hid (((hg).block _ (by omega) (by simp)).trans CX10.out)
  have EY11 := Lib.hid (EX10.out.grown hg (by omega) (by omega))
  clear hg BX10 mX10 zX10 CX10 EX10
  obtain ⟨n2, hn⟩ : ∃ n, n = (numO (ws.getD 4 [])).getD 0 := ⟨_, rfl⟩
  rw [← hn]
  have N2 := Lib.hid hn
  clear hn zF
  have co : Y11.cell? ⟨w.heap.size, 2, none⟩ = some (.int .i64 0) := by simp [World.cell?, CY11.out]
  have cf : Y11.frozen? ⟨w.heap.size, 2, none⟩ = false := by simp [World.frozen?, CY11.out]
  go_wp2_with fail
  obtain ⟨V12, hX⟩ : ∃ V12, V12 = Y11.setCell ⟨w.heap.size, 2, none⟩ (.int .i64 n2) := ⟨_, rfl⟩
  have bX : Below w.heap.size Y11 V12 := by rw [hX]; exact (Below.refl _ _).setCell (p := ⟨w.heap.size, 2, none⟩) (Nat.le_refl _) _
  have BV12 := Lib.hid (BY11.out.trans bX)
  have mV12 := Nat.le_trans mY11 bX.size
  have zV12 := Nat.lt_of_lt_of_le zY11 bX.size
  have CV12 : Hid (V12.heap[w.heap.size]? = some (.cells #[.int .i64 n0, .int .i64 n1, .int .i64 n2, .int .i64 0, .int .i64 0, .int .i64 0, .int .i64 0, .int .i64 0, .slice none 0 0, .int .u8 0, .int .i64 0, .int .i64 0, .int .i64 0] 63 (0, 0))) := Lib.hid (by rw [hX]; exact (setCell_heap _ _ _ _ _ _ _ CY11.out).trans (by simp))
  have SV12 := Lib.hid (SY11.out.keep bX (by rw [hX]; exact Below.heap_setCell _ _ _ _ (by simp)))
  have EV12 := Lib.hid (EY11.out.below (bX.mono hK))
  rw [← hX]
  clear hX bX BY11 mY11 zY11 CY11 SY11 EY11 co cf
  rw [rounds_succ]
  go_wp2_with fail
  obtain ⟨X13, hX⟩ : ∃ X13, X13 = V12.alloc (.cells #[.string ⟨#[]⟩, .func (.func 128) #[] #[]] 121) := ⟨_, rfl⟩
  have bX : Below V12.heap.size V12 X13 := by rw [hX]; exact (Below.refl _ _).alloc (Nat.le_refl _) _
  have FX13 : Hid (X13.heap[V12.heap.size]? = some (.cells #[.string ⟨#[]⟩, .func (.func 128) #[] #[]] 121 (0, 0))) := Lib.hid (by rw [hX]; exact heap_alloc_new _ _)
  have zF : (w.heap.size + 1) < V12.heap.size := zV12
  rw [← hX]
  clear hX
  have BX13 := Lib.hid (BV12.out.trans ((bX).mono mV12))
  have mX13 := Nat.le_trans mV12 (bX).size
  have zX13 := Nat.lt_of_lt_of_le zV12 (bX).size
  have CX13 := Lib.hid (((bX).block _ (by omega)).trans CV12.out)
  have SX13 := Lib.hid (SV12.out.below (bX))
  have EX13 := Lib.hid (EV12.out.below ((bX).mono (by omega)))
  clear BV12 mV12 zV12 CV12 SV12 EV12
  clear bX
  have fc : X13.cell? ⟨V12.heap.size, 1, none⟩ = some (.func (.func 128) #[] #[]) := by simp [World.cell?, FX13.out]
  go_wp2_with fail
  refine (field3 w.heap.size _).mono ?_
  rintro e wS ⟨rfl, rfl⟩
  go_wp2_with fail
  clear FX13 fc
  refine (numD K w.heap.size (w.heap.size + 1) ws 5 bd5 _ EX13.out SX13.out (by omega) hl hw).mono ?_
  rintro e Y14 ⟨rfl, ⟨bd6, sc, J6⟩, hg⟩
  clear SX13
  have SY14 := Lib.hid sc
  clear sc
  have BY14 := Lib.hid (BX13.out.grown hg mX13 (fun k hk => by injection hk with hk; omega))
  have mY14 := Nat.le_trans mX13 (hg).size
  have zY14 := Nat.lt_of_lt_of_le zX13 (hg).size
  have CY14 := Lib.hid (((hg).block _ (by omega) (by simp)).trans CX13.out)
  have EY14 := Lib.hid (EX13.out.grown hg (by omega) (by omega))
  clear hg BX13 mX13 zX13 CX13 EX13
  obtain ⟨n3, hn⟩ : ∃ n, n = (numO (ws.getD 5 [])).getD 0 := ⟨_, rfl⟩
  rw [← hn]
  have N3 := Lib.hid hn
  clear hn zF
  have co : Y14.cell? ⟨w.heap.size, 3, none⟩ = some (.int .i64 0) := by simp [World.cell?, CY14.out]
  have cf : Y14.frozen? ⟨w.heap.size, 3, none⟩ = false := by simp [World.frozen?, CY14.out]
  go_wp2_with fail
  obtain ⟨V15, hX⟩ : ∃ V15, V15 = Y14.setCell ⟨w.heap.size, 3, none⟩ (.int .i64 n3) := ⟨_, rfl⟩
  have bX : Below w.heap.size Y14 V15 := by rw [hX]; exact (Below.refl _ _).setCell (p := ⟨w.heap.size, 3, none⟩) (Nat.le_refl _) _
  have BV15 := Lib.hid (BY14.out.trans bX)
  have mV15 := Nat.le_trans mY14 bX.size
  have zV15 := Nat.lt_of_lt_of_le zY14 bX.size
  have CV15 : Hid (V15.heap[w.heap.size]? = some (.cells #[.int .i64 n0, .int .i64 n1, .int .i64 n2, .int .i64 n3, .int .i64 0, .int .i64 0, .int .i64 0, .int .i64 0, .slice none 0 0, .int .u8 0, .int .i64 0, .int .i64 0, .int .i64 0] 63 (0, 0))) := Lib.hid (by rw [hX]; exact (setCell_heap _ _ _ _ _ _ _ CY14.out).trans (by simp))
  have SV15 := Lib.hid (SY14.out.keep bX (by rw [hX]; exact Below.heap_setCell _ _ _ _ (by simp)))
  have EV15 := Lib.hid (EY14.out.below (bX.mono hK))
  rw [← hX]
  clear hX bX BY14 mY14 zY14 CY14 SY14 EY14 co cf
  rw [rounds_succ]
  go_wp2_with fail
  obtain ⟨X16, hX⟩ : ∃ X16, X16 = V15.alloc (.cells #[.string ⟨#[109, 111, 118, 105, 110, 103]⟩, .func (.func 129) #[] #[]] 121) := ⟨_, rfl⟩
  have bX : Below V15.heap.size V15 X16 := by rw [hX]; exact (Below.refl _ _).alloc (Nat.le_refl _) _
  have FX16 : Hid (X16.heap[V15.heap.size]? = some (.cells #[.string ⟨#[109, 111, 118, 105, 110, 103]⟩, .func (.func 129) #[] #[]] 121 (0, 0))) := Lib.hid (by rw [hX]; exact heap_alloc_new _ _)
  have zF : (w.heap.size + 1) < V15.heap.size := zV15
  rw [← hX]
  clear hX
  have BX16 := Lib.hid (BV15.out.trans ((bX).mono mV15))
  have mX16 := Nat.le_trans mV15 (bX).size
  have zX16 := Nat.lt_of_lt_of_le zV15 (bX).size
  have CX16 := Lib.hid (((bX).block _ (by omega)).trans CV15.out)
  have SX16 := Lib.hid (SV15.out.below (bX))
  have EX16 := Lib.hid (EV15.out.below ((bX).mono (by omega)))
  clear BV15 mV15 zV15 CV15 SV15 EV15
  clear bX
  refine (wordD w.heap.size (w.heap.size + 1) ws 6 bd6 w_moving _ SX16.out hl).mono ?_
  rintro e Y17 ⟨rfl, ⟨bd7, sc, J7⟩, hg⟩
  clear SX16
  have SY17 := Lib.hid sc
  clear sc
  have BY17 := Lib.hid (BX16.out.grown hg mX16 (fun k hk => by injection hk with hk; omega))
  have mY17 := Nat.le_trans mX16 (hg).size
  have zY17 := Nat.lt_of_lt_of_le zX16 (hg).size
  have CY17 := Lib.hid (((hg).block _ (by omega) (by simp)).trans CX16.out)
  have EY17 := Lib.hid (EX16.out.grown hg (by omega) (by omega))
  have FY17 := Lib.hid (((hg).block _ (heap_lt FX16.out) (by simp; omega)).trans FX16.out)
  clear FX16
  clear hg BX16 mX16 zX16 CX16 EX16
  have fc : Y17.cell? ⟨V15.heap.size, 1, none⟩ = some (.func (.func 129) #[] #[]) := by simp [World.cell?, FY17.out]
  go_wp2_with fail
  refine (field4 w.heap.size _).mono ?_
  rintro e wS ⟨rfl, rfl⟩
  go_wp2_with fail
  clear FY17 fc
  refine (numD K w.heap.size (w.heap.size + 1) ws 7 bd7 _ EY17.out SY17.out (by omega) hl hw).mono ?_
  rintro e Y18 ⟨rfl, ⟨bd8, sc, J8⟩, hg⟩
  clear SY17
  have SY18 := Lib.hid sc
  clear sc
  have BY18 := Lib.hid (BY17.out.grown hg mY17 (fun k hk => by injection hk with hk; omega))
  have mY18 := Nat.le_trans mY17 (hg).size
  have zY18 := Nat.lt_of_lt_of_le zY17 (hg).size
  have CY18 := Lib.hid (((hg).block _ (by omega) (by simp)).trans CY17.out)
  have EY18 := Lib.hid (EY17.out.grown hg (by omega) (by omega))
  clear hg BY17 mY17 zY17 CY17 EY17
  obtain ⟨n4, hn⟩ : ∃ n, n = (numO (ws.getD 7 [])).getD 0 := ⟨_, rfl⟩
  rw [← hn]
  have N4 := Lib.hid hn
  clear hn zF
  have co : Y18.cell? ⟨w.heap.size, 4, none⟩ = some (.int .i64 0) := by simp [World.cell?, CY18.out]
  have cf : Y18.frozen? ⟨w.heap.size, 4, none⟩ = false := by simp [World.frozen?, CY18.out]
  go_wp2_with fail
  obtain ⟨V19, hX⟩ : ∃ V19, V19 = Y18.setCell ⟨w.heap.size, 4, none⟩ (.int .i64 n4) := ⟨_, rfl⟩
  have bX : Below w.heap.size Y18 V19 := by rw [hX]; exact (Below.refl _ _).setCell (p := ⟨w.heap.size, 4, none⟩) (Nat.le_refl _) _
  have BV19 := Lib.hid (BY18.out.trans bX)
  have mV19 := Nat.le_trans mY18 bX.size
  have zV19 := Nat.lt_of_lt_of_le zY18 bX.size
  have CV19 : Hid (V19.heap[w.heap.size]? = some (.cells #[.int .i64 n0, .int .i64 n1, .int .i64 n2, .int .i64 n3, .int .i64 n4, .int .i64 0, .int .i64 0, .int .i64 0, .slice none 0 0, .int .u8 0, .int .i64 0, .int .i64 0, .int .i64 0] 63 (0, 0))) := Lib.hid (by rw [hX]; exact (setCell_heap _ _ _ _ _ _ _ CY18.out).trans (by simp))
  have SV19 := Lib.hid (SY18.out.keep bX (by rw [hX]; exact Below.heap_setCell _ _ _ _ (by simp)))
  have EV19 := Lib.hid (EY18.out.below (bX.mono hK))
  rw [← hX]
  clear hX bX BY18 mY18 zY18 CY18 SY18 EY18 co cf
  rw [rounds_succ]
  go_wp2_with fail
  obtain ⟨X20, hX⟩ : ∃ X20, X20 = V19.alloc (.cells #[.string ⟨#[]⟩, .func (.func 130) #[] #[]] 121) := ⟨_, rfl⟩
  have bX : Below V19.heap.size V19 X20 := by rw [hX]; exact (Below.refl _ _).alloc (Nat.le_refl _) _
  have FX20 : Hid (X20.heap[V19.heap.size]? = some (.cells #[.string ⟨#[]⟩, .func (.func 130) #[] #[]] 121 (0, 0))) := Lib.hid (by rw [hX]; exact heap_alloc_new _ _)
  have zF : (w.heap.size + 1) < V19.heap.size := zV19
  rw [← hX]
  clear hX
  have BX20 := Lib.hid (BV19.out.trans ((bX).mono mV19))
  have mX20 := Nat.le_trans mV19 (bX).size
  have zX20 := Nat.lt_of_lt_of_le zV19 (bX).size
  have CX20 := Lib.hid (((bX).block _ (by omega)).trans CV19.out)
  have SX20 := Lib.hid (SV19.out.below (bX))
  have EX20 := Lib.hid (EV19.out.below ((bX).mono (by omega)))
  clear BV19 mV19 zV19 CV19 SV19 EV19
  clear bX
  have fc : X20.cell? ⟨V19.heap.size, 1, none⟩ = some (.func (.func 130) #[] #[]) := by simp [World.cell?, FX20.out]
  go_wp2_with fail
  refine (field5 w.heap.size _).mono ?_
  rintro e wS ⟨rfl, rfl⟩
  go_wp2_with fail
  clear FX20 fc
  refine (numD K w.heap.size (w.heap.size + 1) ws 8 bd8 _ EX20.out SX20.out (by omega) hl hw).mono ?_
  rintro e Y21 ⟨rfl, ⟨bd9, sc, J9⟩, hg⟩
  clear SX20
  have SY21 := Lib.hid sc
  clear sc
  have BY21 := Lib.hid (BX20.out.grown hg mX20 (fun k hk => by injection hk with hk; omega))
  have mY21 := Nat.le_trans mX20 (hg).size
  have zY21 := Nat.lt_of_lt_of_le zX20 (hg).size
  have CY21 := Lib.hid (((hg).block _ (by omega) (by simp)).trans CX20.out)
  have EY21 := Lib.hid (EX20.out.grown hg (by omega) (by omega))
  clear hg BX20 mX20 zX20 CX20 EX20
  obtain ⟨n5, hn⟩ : ∃ n, n = (numO (ws.getD 8 [])).getD 0 := ⟨_, rfl⟩
  rw [← hn]
  have N5 := Lib.hid hn
  clear hn zF
  have co : Y21.cell? ⟨w.heap.size, 5, none⟩ = some (.int .i64 0) := by simp [World.cell?, CY21.out]
  have cf : Y21.frozen? ⟨w.heap.size, 5, none⟩ = false := by simp [World.frozen?, CY21.out]
  go_wp2_with fail
  obtain ⟨V22, hX⟩ : ∃ V22, V22 = Y21.setCell ⟨w.heap.size, 5, none⟩ (.int .i64 n5) := ⟨_, rfl⟩
  have bX : Below w.heap.size Y21 V22 := by rw [hX]; exact (Below.refl _ _).setCell (p := ⟨w.heap.size, 5, none⟩) (Nat.le_refl _) _
  have BV22 := Lib.hid (BY21.out.trans bX)
  have mV22 := Nat.le_trans mY21 bX.size
  have zV22 := Nat.lt_of_lt_of_le zY21 bX.size
  have CV22 : Hid (V22.heap[w.heap.size]? = some (.cells #[.int .i64 n0, .int .i64 n1, .int .i64 n2, .int .i64 n3, .int .i64 n4, .int .i64 n5, .int .i64 0, .int .i64 0, .slice none 0 0, .int .u8 0, .int .i64 0, .int .i64 0, .int .i64 0] 63 (0, 0))) := Lib.hid (by rw [hX]; exact (setCell_heap _ _ _ _ _ _ _ CY21.out).trans (by simp))
  have SV22 := Lib.hid (SY21.out.keep bX (by rw [hX]; exact Below.heap_setCell _ _ _ _ (by simp)))
  have EV22 := Lib.hid (EY21.out.below (bX.mono hK))
  rw [← hX]
  clear hX bX BY21 mY21 zY21 CY21 SY21 EY21 co cf
  rw [rounds_succ]
  go_wp2_with fail
  obtain ⟨X23, hX⟩ : ∃ X23, X23 = V22.alloc (.cells #[.string ⟨#[]⟩, .func (.func 131) #[] #[]] 121) := ⟨_, rfl⟩
  have bX : Below V22.heap.size V22 X23 := by rw [hX]; exact (Below.refl _ _).alloc (Nat.le_refl _) _
  have FX23 : Hid (X23.heap[V22.heap.size]? = some (.cells #[.string ⟨#[]⟩, .func (.func 131) #[] #[]] 121 (0, 0))) := Lib.hid (by rw [hX]; exact heap_alloc_new _ _)
  have zF : (w.heap.size + 1) < V22.heap.size := zV22
  rw [← hX]
  clear hX
  have BX23 := Lib.hid (BV22.out.trans ((bX).mono mV22))
  have mX23 := Nat.le_trans mV22 (bX).size
  have zX23 := Nat.lt_of_lt_of_le zV22 (bX).size
  have CX23 := Lib.hid (((bX).block _ (by omega)).trans CV22.out)
  have SX23 := Lib.hid (SV22.out.below (bX))
  have EX23 := Lib.hid (EV22.out.below ((bX).mono (by omega)))
  clear BV22 mV22 zV22 CV22 SV22 EV22
  clear bX
  have fc : X23.cell? ⟨V22.heap.size, 1, none⟩ = some (.func (.func 131) #[] #[]) := by simp [World.cell?, FX23.out]
  go_wp2_with fail
  refine (field6 w.heap.size _).mono ?_
  rintro e wS ⟨rfl, rfl⟩
  go_wp2_with fail
  clear FX23 fc
  refine (numD K w.heap.size (w.heap.size + 1) ws 9 bd9 _ EX23.out SX23.out (by omega) hl hw).mono ?_
  rintro e Y24 ⟨rfl, ⟨bd10, sc, J10⟩, hg⟩
  clear SX23
  have SY24 := Lib.hid sc
  clear sc
  have BY24 := Lib.hid (BX23.out.grown hg mX23 (fun k hk => by injection hk with hk; omega))
  have mY24 := Nat.le_trans mX23 (hg).size
  have zY24 := Nat.lt_of_lt_of_le zX23 (hg).size
  have CY24 := Lib.hid (((hg).block _ (by omega) (by simp)).trans CX23.out)
  have EY24 := Lib.hid (EX23.out.grown hg (by omega) (by omega))
  clear hg BX23 mX23 zX23 CX23 EX23
  obtain ⟨n6, hn⟩ : ∃ n, n = (numO (ws.getD 9 [])).getD 0 := ⟨_, rfl⟩
  rw [← hn]
  have N6 := Lib.hid hn
  clear hn zF
  have co : Y24.cell? ⟨w.heap.size, 6, none⟩ = some (.int .i64 0) := by simp [World.cell?, CY24.out]
  have cf : Y24.frozen? ⟨w.heap.size, 6, none⟩ = false := by simp [World.frozen?, CY24.out]
  go_wp2_with fail
  obtain ⟨V25, hX⟩ : ∃ V25, V25 = Y24.setCell ⟨w.heap.size, 6, none⟩ (.int .i64 n6) := ⟨_, rfl⟩
  have bX : Below w.heap.size Y24 V25 := by rw [hX]; exact (Below.refl _ _).setCell (p := ⟨w.heap.size, 6, none⟩) (Nat.le_refl _) _
  have BV25 := Lib.hid (BY24.out.trans bX)
  have mV25 := Nat.le_trans mY24 bX.size
  have zV25 := Nat.lt_of_lt_of_le zY24 bX.size
  have CV25 : Hid (V25.heap[w.heap.size]? = some (.cells #[.int .i64 n0, .int .i64 n1, .int .i64 n2, .int .i64 n3, .int .i64 n4, .int .i64 n5, .int .i64 n6, .int .i64 0, .slice none 0 0, .int .u8 0, .int .i64 0, .int .i64 0, .int .i64 0] 63 (0, 0))) := Lib.hid (by rw [hX]; exact (setCell_heap _ _ _ _ _ _ _ CY24.out).trans (by simp))
  have SV25 := Lib.hid (SY24.out.keep bX (by rw [hX]; exact Below.heap_setCell _ _ _ _ (by simp)))
  have EV25 := Lib.hid (EY24.out.below (bX.mono hK))
  rw [← hX]
  clear hX bX BY24 mY24 zY24 CY24 SY24 EY24 co cf
  rw [rounds_succ]
  go_wp2_with fail
  obtain ⟨X26, hX⟩ : ∃ X26, X26 = V25.alloc (.cells #[.string ⟨#[112, 117, 108, 108]⟩, .func (.func 132) #[] #[]] 121) := ⟨_, rfl⟩
  have bX : Below V25.heap.size V25 X26 := by rw [hX]; exact (Below.refl _ _).alloc (Nat.le_refl _) _
  have FX26 : Hid (X26.heap[V25.heap.size]? = some (.cells #[.string ⟨#[112, 117, 108, 108]⟩, .func (.func 132) #[] #[]] 121 (0, 0))) := Lib.hid (by rw [hX]; exact heap_alloc_new _ _)
  have zF : (w.heap.size + 1) < V25.heap.size := zV25
  rw [← hX]
  clear hX
  have BX26 := Lib.hid (BV25.out.trans ((bX).mono mV25))
  have mX26 := Nat.le_trans mV25 (bX).size
  have zX26 := Nat.lt_of_lt_of_le zV25 (bX).size
  have CX26 := Lib.hid (((bX).block _ (by omega)).trans CV25.out)
  have SX26 := Lib.hid (SV25.out.below (bX))
  have EX26 := Lib.hid (EV25.out.below ((bX).mono (by omega)))
  clear BV25 mV25 zV25 CV25 SV25 EV25
  clear bX
  refine (wordD w.heap.size (w.heap.size + 1) ws 10 bd10 w_pull _ SX26.out hl).mono ?_
  rintro e Y27 ⟨rfl, ⟨bd11, sc, J11⟩, hg⟩
  clear SX26
  have SY27 := Lib.hid sc
  clear sc
  have BY27 := Lib.hid (BX26.out.grown hg mX26 (fun k hk => by injection hk with hk; omega))
  have mY27 := Nat.le_trans mX26 (hg).size
  have zY27 := Nat.lt_of_lt_of_le zX26 (hg).size
  have CY27 := Lib.hid (((hg).block _ (by omega) (by simp)).trans CX26.out)
  have EY27 := Lib.hid (EX26.out.grown hg (by omega) (by omega))
  have FY27 := Lib.hid (((hg).block _ (heap_lt FX26.out) (by simp; omega)).trans FX26.out)
  clear FX26
  clear hg BX26 mX26 zX26 CX26 EX26
  have fc : Y27.cell? ⟨V25.heap.size, 1, none⟩ = some (.func (.func 132) #[] #[]) := by simp [World.cell?, FY27.out]
  go_wp2_with fail
  refine (field7 w.heap.size _).mono ?_
  rintro e wS ⟨rfl, rfl⟩
  go_wp2_with fail
  clear FY27 fc
  refine (numD K w.heap.size (w.heap.size + 1) ws 11 bd11 _ EY27.out SY27.out (by omega) hl hw).mono ?_
  rintro e Y28 ⟨rfl, ⟨bd12, sc, J12⟩, hg⟩
  clear SY27
  have SY28 := Lib.hid sc
  clear sc
  have BY28 := Lib.hid (BY27.out.grown hg mY27 (fun k hk => by injection hk with hk; omega))
  have mY28 := Nat.le_trans mY27 (hg).size
  have zY28 := Nat.lt_of_lt_of_le zY27 (hg).size
  have CY28 := Lib.hid (((hg).block _ (by omega) (by simp)).trans CY27.out)
  have EY28 := Lib.hid (EY27.out.grown hg (by omega) (by omega))
  clear hg BY27 mY27 zY27 CY27 EY27
  obtain ⟨n7, hn⟩ : ∃ n, n = (numO (ws.getD 11 [])).getD 0 := ⟨_, rfl⟩
  rw [← hn]
  have N7 := Lib.hid hn
  clear hn zF
  have co : Y28.cell? ⟨w.heap.size, 7, none⟩ = some (.int .i64 0) := by simp [World.cell?, CY28.out]
  have cf : Y28.frozen? ⟨w.heap.size, 7, none⟩ = false := by simp [World.frozen?, CY28.out]
  go_wp2_with fail
  obtain ⟨V29, hX⟩ : ∃ V29, V29 = Y28.setCell ⟨w.heap.size, 7, none⟩ (.int .i64 n7) := ⟨_, rfl⟩
  have bX : Below w.heap.size Y28 V29 := by rw [hX]; exact (Below.refl _ _).setCell (p := ⟨w.heap.size, 7, none⟩) (Nat.le_refl _) _
  have BV29 := Lib.hid (BY28.out.trans bX)
  have mV29 := Nat.le_trans mY28 bX.size
  have zV29 := Nat.lt_of_lt_of_le zY28 bX.size
  have CV29 : Hid (V29.heap[w.heap.size]? = some (.cells #[.int .i64 n0, .int .i64 n1, .int .i64 n2, .int .i64 n3, .int .i64 n4, .int .i64 n5, .int .i64 n6, .int .i64 n7, .slice none 0 0, .int .u8 0, .int .i64 0, .int .i64 0, .int .i64 0] 63 (0, 0))) := Lib.hid (by rw [hX]; exact (setCell_heap _ _ _ _ _ _ _ CY28.out).trans (by simp))
  have SV29 := Lib.hid (SY28.out.keep bX (by rw [hX]; exact Below.heap_setCell _ _ _ _ (by simp)))
  have EV29 := Lib.hid (EY28.out.below (bX.mono hK))
  rw [← hX]
  clear hX bX BY28 mY28 zY28 CY28 SY28 EY28 co cf
  rw [rounds_succ]
  go_wp2_with fail
  obtain ⟨X30, hX⟩ : ∃ X30, X30 = V29.alloc (.cells #[.string ⟨#[109, 111, 100, 101, 32, 112, 105, 108, 111, 116]⟩, .func (.func 133) #[] #[]] 121) := ⟨_, rfl⟩
  have bX : Below V29.heap.size V29 X30 := by rw [hX]; exact (Below.refl _ _).alloc (Nat.le_refl _) _
  have FX30 : Hid (X30.heap[V29.heap.size]? = some (.cells #[.string ⟨#[109, 111, 100, 101, 32, 112, 105, 108, 111, 116]⟩, .func (.func 133) #[] #[]] 121 (0, 0))) := Lib.hid (by rw [hX]; exact heap_alloc_new _ _)
  have zF : (w.heap.size + 1) < V29.heap.size := zV29
  rw [← hX]
  clear hX
  have BX30 := Lib.hid (BV29.out.trans ((bX).mono mV29))
  have mX30 := Nat.le_trans mV29 (bX).size
  have zX30 := Nat.lt_of_lt_of_le zV29 (bX).size
  have CX30 := Lib.hid (((bX).block _ (by omega)).trans CV29.out)
  have SX30 := Lib.hid (SV29.out.below (bX))
  have EX30 := Lib.hid (EV29.out.below ((bX).mono (by omega)))
  clear BV29 mV29 zV29 CV29 SV29 EV29
  clear bX
  refine (wordD w.heap.size (w.heap.size + 1) ws 12 bd12 w_mode _ SX30.out hl).mono ?_
  rintro e Y31 ⟨rfl, ⟨bd13, sc, J13⟩, hg⟩
  clear SX30
  have SY31 := Lib.hid sc
  clear sc
  have BY31 := Lib.hid (BX30.out.grown hg mX30 (fun k hk => by injection hk with hk; omega))
  have mY31 := Nat.le_trans mX30 (hg).size
  have zY31 := Nat.lt_of_lt_of_le zX30 (hg).size
  have CY31 := Lib.hid (((hg).block _ (by omega) (by simp)).trans CX30.out)
  have EY31 := Lib.hid (EX30.out.grown hg (by omega) (by omega))
  have FY31 := Lib.hid (((hg).block _ (heap_lt FX30.out) (by simp; omega)).trans FX30.out)
  clear FX30
  clear hg BX30 mX30 zX30 CX30 EX30
  go_wp2_with fail
  refine (modes93 Y31).mono ?_
  rintro e Z32 ⟨rfl, hZ⟩
  have bZ : Below Y31.heap.size Y31 Z32 := by rw [← hZ]; exact (Below.refl _ _).alloc (Nat.le_refl _) _
  have MM : Z32.heap[Y31.heap.size]? = some (.cells (wordsV [w_none, w_tables, w_rules]) 9 (0, 0)) := by rw [← hZ]; exact heap_alloc_new _ _
  have zM : (w.heap.size + 1) < Y31.heap.size := zY31
  clear hZ
  have BZ32 := Lib.hid (BY31.out.trans ((bZ).mono mY31))
  have mZ32 := Nat.le_trans mY31 (bZ).size
  have zZ32 := Nat.lt_of_lt_of_le zY31 (bZ).size
  have CZ32 := Lib.hid (((bZ).block _ (by omega)).trans CY31.out)
  have SZ32 := Lib.hid (SY31.out.below (bZ))
  have EZ32 := Lib.hid (EY31.out.below ((bZ).mono (by omega)))
  have FZ32 := Lib.hid (((bZ).block _ (heap_lt FY31.out)).trans FY31.out)
  clear FY31
  clear BY31 mY31 zY31 CY31 SY31 EY31
  clear bZ
  go_wp2_with fail
  have MMh := Lib.hid MM
  clear MM
  refine (nextD w.heap.size (w.heap.size + 1) ws 13 bd13 _ SZ32.out hl).mono ?_
  rintro e Y33 ⟨rfl, ⟨bd14, sc, J14⟩, hg⟩
  clear SZ32
  have SY33 := Lib.hid sc
  clear sc
  have MN := Lib.hid ((hg.block _ (heap_lt MMh.out) (by simp; omega)).trans MMh.out)
  clear MMh
  have BY33 := Lib.hid (BZ32.out.grown hg mZ32 (fun k hk => by injection hk with hk; omega))
  have mY33 := Nat.le_trans mZ32 (hg).size
  have zY33 := Nat.lt_of_lt_of_le zZ32 (hg).size
  have CY33 := Lib.hid (((hg).block _ (by omega) (by simp)).trans CZ32.out)
  have EY33 := Lib.hid (EZ32.out.grown hg (by omega) (by omega))
  have FY33 := Lib.hid (((hg).block _ (heap_lt FZ32.out) (by simp; omega)).trans FZ32.out)
  clear FZ32
  clear hg BZ32 mZ32 zZ32 CZ32 EZ32
  go_wp2_with fail
  refine (index102 Y31.heap.size 3 [w_none, w_tables, w_rules] (ws.getD 13 []) _ (fun j y hj => words_at MN.out hj) (by simp)).mono ?_
  rintro e wS ⟨rfl, rfl⟩
  clear MN zM
  obtain ⟨m, hm⟩ : ∃ m, m = Lib.idxOfS ([w_none, w_tables, w_rules].map S) (S (ws.getD 13 [])) := ⟨_, rfl⟩
  rw [← hm]
  by_cases hneg : m < 0
  · have NO : Hid (crO ws = none) := Lib.hid (crO_noMode (by rw [hm] at hneg; exact hneg))
    have k0 : Y33.cell? ⟨w.heap.size, 0, none⟩ = some (.int .i64 n0) := by simp [World.cell?, CY33.out]
    have k1 : Y33.cell? ⟨w.heap.size, 1, none⟩ = some (.int .i64 n1) := by simp [World.cell?, CY33.out]
    have k2 : Y33.cell? ⟨w.heap.size, 2, none⟩ = some (.int .i64 n2) := by simp [World.cell?, CY33.out]
    have k3 : Y33.cell? ⟨w.heap.size, 3, none⟩ = some (.int .i64 n3) := by simp [World.cell?, CY33.out]
    have k4 : Y33.cell? ⟨w.heap.size, 4, none⟩ = some (.int .i64 n4) := by simp [World.cell?, CY33.out]
    have k5 : Y33.cell? ⟨w.heap.size, 5, none⟩ = some (.int .i64 n5) := by simp [World.cell?, CY33.out]
    have k6 : Y33.cell? ⟨w.heap.size, 6, none⟩ = some (.int .i64 n6) := by simp [World.cell?, CY33.out]
    have k7 : Y33.cell? ⟨w.heap.size, 7, none⟩ = some (.int .i64 n7) := by simp [World.cell?, CY33.out]
    have k8 : Y33.cell? ⟨w.heap.size, 8, none⟩ = some (.slice none 0 0) := by simp [World.cell?, CY33.out]
    have k9 : Y33.cell? ⟨w.heap.size, 9, none⟩ = some (.int .u8 0) := by simp [World.cell?, CY33.out]
    have k10 : Y33.cell? ⟨w.heap.size, 10, none⟩ = some (.int .i64 0) := by simp [World.cell?, CY33.out]
    have k11 : Y33.cell? ⟨w.heap.size, 11, none⟩ = some (.int .i64 0) := by simp [World.cell?, CY33.out]
    have k12 : Y33.cell? ⟨w.heap.size, 12, none⟩ = some (.int .i64 0) := by simp [World.cell?, CY33.out]
    have kf : ∀ i, Y33.frozen? ⟨w.heap.size, i, none⟩ = false := fun i => by simp [World.frozen?, CY33.out]
    clear hm
    go_wp2_with fail
    (try simp only [Exit.inBlock, Exit.then])
    exact bodyPost_ret (v := .tuple #[.agg #[.int .i64 0, .int .i64 0, .int .i64 0, .int .i64 0, .int .i64 0, .int .i64 0, .int .i64 0, .int .i64 0, .slice none 0 0, .int .u8 0, .int .i64 0, .int .i64 0, .int .i64 0], .bool false]) (by simp [results, Tryz.results70, go_sem, k0, k1, k2, k3, k4, k5, k6, k7, k8, k9, k10, k11, k12]) rfl ⟨⟨⟨0, ⟨0, 0, 0⟩, ⟨0, 0, 0⟩, 0, [], 0, 0, 0, 0⟩, by rw [NO.out]; rfl, fun c h => by rw [NO.out] at h; cases h⟩, (((((((((((((BY33.out).setCell (p := ⟨w.heap.size, 0, none⟩) (Nat.le_refl _) _).setCell (p := ⟨w.heap.size, 1, none⟩) (Nat.le_refl _) _).setCell (p := ⟨w.heap.size, 2, none⟩) (Nat.le_refl _) _).setCell (p := ⟨w.heap.size, 3, none⟩) (Nat.le_refl _) _).setCell (p := ⟨w.heap.size, 4, none⟩) (Nat.le_refl _) _).setCell (p := ⟨w.heap.size, 5, none⟩) (Nat.le_refl _) _).setCell (p := ⟨w.heap.size, 6, none⟩) (Nat.le_refl _) _).setCell (p := ⟨w.heap.size, 7, none⟩) (Nat.le_refl _) _).setCell (p := ⟨w.heap.size, 8, none⟩) (Nat.le_refl _) _).setCell (p := ⟨w.heap.size, 9, none⟩) (Nat.le_refl _) _).setCell (p := ⟨w.heap.size, 10, none⟩) (Nat.le_refl _) _).setCell (p := ⟨w.heap.size, 11, none⟩) (Nat.le_refl _) _).setCell (p := ⟨w.heap.size, 12, none⟩) (Nat.le_refl _) _⟩
  obtain ⟨m0, m1, hmo⟩ := idx_mode hm hneg
  have MO := Lib.hid hmo
  clear hm hmo
  have qm : IntKind.u8.wrap m = m := wrap_u8 m0 m1
  have hnegD : decide (m < 0) = false := by simp; omega
  have co : Y33.cell? ⟨w.heap.size, 9, none⟩ = some (.int .u8 0) := by simp [World.cell?, CY33.out]
  have cf : Y33.frozen? ⟨w.heap.size, 9, none⟩ = false := by simp [World.frozen?, CY33.out]
  go_wp2_with fail
  obtain ⟨V34, hX⟩ : ∃ V34, V34 = Y33.setCell ⟨w.heap.size, 9, none⟩ (.int .u8 m) := ⟨_, rfl⟩
  have bX : Below w.heap.size Y33 V34 := by rw [hX]; exact (Below.refl _ _).setCell (p := ⟨w.heap.size, 9, none⟩) (Nat.le_refl _) _
  have BV34 := Lib.hid (BY33.out.trans bX)
  have mV34 := Nat.le_trans mY33 bX.size
  have zV34 := Nat.lt_of_lt_of_le zY33 bX.size
  have CV34 : Hid (V34.heap[w.heap.size]? = some (.cells #[.int .i64 n0, .int .i64 n1, .int .i64 n2, .int .i64 n3, .int .i64 n4, .int .i64 n5, .int .i64 n6, .int .i64 n7, .slice none 0 0, .int .u8 m, .int .i64 0, .int .i64 0, .int .i64 0] 63 (0, 0))) := Lib.hid (by rw [hX]; exact (setCell_heap _ _ _ _ _ _ _ CY33.out).trans (by simp))
  have SV34 := Lib.hid (SY33.out.keep bX (by rw [hX]; exact Below.heap_setCell _ _ _ _ (by simp)))
  have EV34 := Lib.hid (EY33.out.below (bX.mono hK))
  have FV34 := Lib.hid ((show V34.heap[V29.heap.size]? = Y33.heap[V29.heap.size]? by rw [hX]; exact Below.heap_setCell _ _ _ _ (by simp; omega)).trans FY33.out)
  clear FY33
  rw [← hX]
  clear hX bX BY33 mY33 zY33 CY33 SY33 EY33 co cf
  refine (wordD w.heap.size (w.heap.size + 1) ws 14 bd14 w_pilot _ SV34.out hl).mono ?_
  rintro e Y35 ⟨rfl, ⟨bd15, sc, J15⟩, hg⟩
  clear SV34
  have SY35 := Lib.hid sc
  clear sc
  have BY35 := Lib.hid (BV34.out.grown hg mV34 (fun k hk => by injection hk with hk; omega))
  have mY35 := Nat.le_trans mV34 (hg).size
  have zY35 := Nat.lt_of_lt_of_le zV34 (hg).size
  have CY35 := Lib.hid (((hg).block _ (by omega) (by simp)).trans CV34.out)
  have EY35 := Lib.hid (EV34.out.grown hg (by omega) (by omega))
  have FY35 := Lib.hid (((hg).block _ (heap_lt FV34.out) (by simp; omega)).trans FV34.out)
  clear FV34
  clear hg BV34 mV34 zV34 CV34 EV34
  have fc : Y35.cell? ⟨V29.heap.size, 1, none⟩ = some (.func (.func 133) #[] #[]) := by simp [World.cell?, FY35.out]
  go_wp2_with fail
  refine (field8 w.heap.size _).mono ?_
  rintro e wS ⟨rfl, rfl⟩
  go_wp2_with fail
  clear FY35 fc
  refine (numD K w.heap.size (w.heap.size + 1) ws 15 bd15 _ EY35.out SY35.out (by omega) hl hw).mono ?_
  rintro e Y36 ⟨rfl, ⟨bd16, sc, J16⟩, hg⟩
  clear SY35
  have SY36 := Lib.hid sc
  clear sc
  have BY36 := Lib.hid (BY35.out.grown hg mY35 (fun k hk => by injection hk with hk; omega))
  have mY36 := Nat.le_trans mY35 (hg).size
  have zY36 := Nat.lt_of_lt_of_le zY35 (hg).size
  have CY36 := Lib.hid (((hg).block _ (by omega) (by simp)).trans CY35.out)
  have EY36 := Lib.hid (EY35.out.grown hg (by omega) (by omega))
  clear hg BY35 mY35 zY35 CY35 EY35
  obtain ⟨n8, hn⟩ : ∃ n, n = (numO (ws.getD 15 [])).getD 0 := ⟨_, rfl⟩
  rw [← hn]
  have N8 := Lib.hid hn
  clear hn zF
  have co : Y36.cell? ⟨w.heap.size, 10, none⟩ = some (.int .i64 0) := by simp [World.cell?, CY36.out]
  have cf : Y36.frozen? ⟨w.heap.size, 10, none⟩ = false := by simp [World.frozen?, CY36.out]
  go_wp2_with fail
  obtain ⟨V37, hX⟩ : ∃ V37, V37 = Y36.setCell ⟨w.heap.size, 10, none⟩ (.int .i64 n8) := ⟨_, rfl⟩
  have bX : Below w.heap.size Y36 V37 := by rw [hX]; exact (Below.refl _ _).setCell (p := ⟨w.heap.size, 10, none⟩) (Nat.le_refl _) _
  have BV37 := Lib.hid (BY36.out.trans bX)
  have mV37 := Nat.le_trans mY36 bX.size
  have zV37 := Nat.lt_of_lt_of_le zY36 bX.size
  have CV37 : Hid (V37.heap[w.heap.size]? = some (.cells #[.int .i64 n0, .int .i64 n1, .int .i64 n2, .int .i64 n3, .int .i64 n4, .int .i64 n5, .int .i64 n6, .int .i64 n7, .slice none 0 0, .int .u8 m, .int .i64 n8, .int .i64 0, .int .i64 0] 63 (0, 0))) := Lib.hid (by rw [hX]; exact (setCell_heap _ _ _ _ _ _ _ CY36.out).trans (by simp))
  have SV37 := Lib.hid (SY36.out.keep bX (by rw [hX]; exact Below.heap_setCell _ _ _ _ (by simp)))
  have EV37 := Lib.hid (EY36.out.below (bX.mono hK))
  rw [← hX]
  clear hX bX BY36 mY36 zY36 CY36 SY36 EY36 co cf
  rw [rounds_succ]
  go_wp2_with fail
  obtain ⟨X38, hX⟩ : ∃ X38, X38 = V37.alloc (.cells #[.string ⟨#[]⟩, .func (.func 134) #[] #[]] 121) := ⟨_, rfl⟩
  have bX : Below V37.heap.size V37 X38 := by rw [hX]; exact (Below.refl _ _).alloc (Nat.le_refl _) _
  have FX38 : Hid (X38.heap[V37.heap.size]? = some (.cells #[.string ⟨#[]⟩, .func (.func 134) #[] #[]] 121 (0, 0))) := Lib.hid (by rw [hX]; exact heap_alloc_new _ _)
  have zF : (w.heap.size + 1) < V37.heap.size := zV37
  rw [← hX]
  clear hX
  have BX38 := Lib.hid (BV37.out.trans ((bX).mono mV37))
  have mX38 := Nat.le_trans mV37 (bX).size
  have zX38 := Nat.lt_of_lt_of_le zV37 (bX).size
  have CX38 := Lib.hid (((bX).block _ (by omega)).trans CV37.out)
  have SX38 := Lib.hid (SV37.out.below (bX))
  have EX38 := Lib.hid (EV37.out.below ((bX).mono (by omega)))
  clear BV37 mV37 zV37 CV37 SV37 EV37
  clear bX
  have fc : X38.cell? ⟨V37.heap.size, 1, none⟩ = some (.func (.func 134) #[] #[]) := by simp [World.cell?, FX38.out]
  go_wp2_with fail
  refine (field9 w.heap.size _).mono ?_
  rintro e wS ⟨rfl, rfl⟩
  go_wp2_with fail
  clear FX38 fc
  refine (numD K w.heap.size (w.heap.size + 1) ws 16 bd16 _ EX38.out SX38.out (by omega) hl hw).mono ?_
  rintro e Y39 ⟨rfl, ⟨bd17, sc, J17⟩, hg⟩
  clear SX38
  have SY39 := Lib.hid sc
  clear sc
  have BY39 := Lib.hid (BX38.out.grown hg mX38 (fun k hk => by injection hk with hk; omega))
  have mY39 := Nat.le_trans mX38 (hg).size
  have zY39 := Nat.lt_of_lt_of_le zX38 (hg).size
  have CY39 := Lib.hid (((hg).block _ (by omega) (by simp)).trans CX38.out)
  have EY39 := Lib.hid (EX38.out.grown hg (by omega) (by omega))
  clear hg BX38 mX38 zX38 CX38 EX38
  obtain ⟨n9, hn⟩ : ∃ n, n = (numO (ws.getD 16 [])).getD 0 := ⟨_, rfl⟩
  rw [← hn]
  have N9 := Lib.hid hn
  clear hn zF
  have co : Y39.cell? ⟨w.heap.size, 11, none⟩ = some (.int .i64 0) := by simp [World.cell?, CY39.out]
  have cf : Y39.frozen? ⟨w.heap.size, 11, none⟩ = false := by simp [World.frozen?, CY39.out]
  go_wp2_with fail
  obtain ⟨V40, hX⟩ : ∃ V40, V40 = Y39.setCell ⟨w.heap.size, 11, none⟩ (.int .i64 n9) := ⟨_, rfl⟩
  have bX : Below w.heap.size Y39 V40 := by rw [hX]; exact (Below.refl _ _).setCell (p := ⟨w.heap.size, 11, none⟩) (Nat.le_refl _) _
  have BV40 := Lib.hid (BY39.out.trans bX)
  have mV40 := Nat.le_trans mY39 bX.size
  have zV40 := Nat.lt_of_lt_of_le zY39 bX.size
  have CV40 : Hid (V40.heap[w.heap.size]? = some (.cells #[.int .i64 n0, .int .i64 n1, .int .i64 n2, .int .i64 n3, .int .i64 n4, .int .i64 n5, .int .i64 n6, .int .i64 n7, .slice none 0 0, .int .u8 m, .int .i64 n8, .int .i64 n9, .int .i64 0] 63 (0, 0))) := Lib.hid (by rw [hX]; exact (setCell_heap _ _ _ _ _ _ _ CY39.out).trans (by simp))
  have SV40 := Lib.hid (SY39.out.keep bX (by rw [hX]; exact Below.heap_setCell _ _ _ _ (by simp)))
  have EV40 := Lib.hid (EY39.out.below (bX.mono hK))
  rw [← hX]
  clear hX bX BY39 mY39 zY39 CY39 SY39 EY39 co cf
  rw [rounds_succ]
  go_wp2_with fail
  obtain ⟨X41, hX⟩ : ∃ X41, X41 = V40.alloc (.cells #[.string ⟨#[]⟩, .func (.func 135) #[] #[]] 121) := ⟨_, rfl⟩
  have bX : Below V40.heap.size V40 X41 := by rw [hX]; exact (Below.refl _ _).alloc (Nat.le_refl _) _
  have FX41 : Hid (X41.heap[V40.heap.size]? = some (.cells #[.string ⟨#[]⟩, .func (.func 135) #[] #[]] 121 (0, 0))) := Lib.hid (by rw [hX]; exact heap_alloc_new _ _)
  have zF : (w.heap.size + 1) < V40.heap.size := zV40
  rw [← hX]
  clear hX
  have BX41 := Lib.hid (BV40.out.trans ((bX).mono mV40))
  have mX41 := Nat.le_trans mV40 (bX).size
  have zX41 := Nat.lt_of_lt_of_le zV40 (bX).size
  have CX41 := Lib.hid (((bX).block _ (by omega)).trans CV40.out)
  have SX41 := Lib.hid (SV40.out.below (bX))
  have EX41 := Lib.hid (EV40.out.below ((bX).mono (by omega)))
  clear BV40 mV40 zV40 CV40 SV40 EV40
  clear bX
  have fc : X41.cell? ⟨V40.heap.size, 1, none⟩ = some (.func (.func 135) #[] #[]) := by simp [World.cell?, FX41.out]
  go_wp2_with fail
  refine (field10 w.heap.size _).mono ?_
  rintro e wS ⟨rfl, rfl⟩
  go_wp2_with fail
  clear FX41 fc
  refine (numD K w.heap.size (w.heap.size + 1) ws 17 bd17 _ EX41.out SX41.out (by omega) hl hw).mono ?_
  rintro e Y42 ⟨rfl, ⟨bd18, sc, J18⟩, hg⟩
  clear SX41
  have SY42 := Lib.hid sc
  clear sc
  have BY42 := Lib.hid (BX41.out.grown hg mX41 (fun k hk => by injection hk with hk; omega))
  have mY42 := Nat.le_trans mX41 (hg).size
  have zY42 := Nat.lt_of_lt_of_le zX41 (hg).size
  have CY42 := Lib.hid (((hg).block _ (by omega) (by simp)).trans CX41.out)
  have EY42 := Lib.hid (EX41.out.grown hg (by omega) (by omega))
  clear hg BX41 mX41 zX41 CX41 EX41
  obtain ⟨n10, hn⟩ : ∃ n, n = (numO (ws.getD 17 [])).getD 0 := ⟨_, rfl⟩
  rw [← hn]
  have N10 := Lib.hid hn
  clear hn zF
  have co : Y42.cell? ⟨w.heap.size, 12, none⟩ = some (.int .i64 0) := by simp [World.cell?, CY42.out]
  have cf : Y42.frozen? ⟨w.heap.size, 12, none⟩ = false := by simp [World.frozen?, CY42.out]
  go_wp2_with fail
  obtain ⟨V43, hX⟩ : ∃ V43, V43 = Y42.setCell ⟨w.heap.size, 12, none⟩ (.int .i64 n10) := ⟨_, rfl⟩
  have bX : Below w.heap.size Y42 V43 := by rw [hX]; exact (Below.refl _ _).setCell (p := ⟨w.heap.size, 12, none⟩) (Nat.le_refl _) _
  have BV43 := Lib.hid (BY42.out.trans bX)
  have mV43 := Nat.le_trans mY42 bX.size
  have zV43 := Nat.lt_of_lt_of_le zY42 bX.size
  have CV43 : Hid (V43.heap[w.heap.size]? = some (.cells #[.int .i64 n0, .int .i64 n1, .int .i64 n2, .int .i64 n3, .int .i64 n4, .int .i64 n5, .int .i64 n6, .int .i64 n7, .slice none 0 0, .int .u8 m, .int .i64 n8, .int .i64 n9, .int .i64 n10] 63 (0, 0))) := Lib.hid (by rw [hX]; exact (setCell_heap _ _ _ _ _ _ _ CY42.out).trans (by simp))
  have SV43 := Lib.hid (SY42.out.keep bX (by rw [hX]; exact Below.heap_setCell _ _ _ _ (by simp)))
  have EV43 := Lib.hid (EY42.out.below (bX.mono hK))
  rw [← hX]
  clear hX bX BY42 mY42 zY42 CY42 SY42 EY42 co cf
  rw [rounds_succ]
  go_wp2_with fail
  have SD : Sc w.heap.size V43.drew (w.heap.size + 1) (ws.drop 18) bd18 := SV43.out.keep ((Below.refl _ _).drew) rfl
  have CD : V43.drew.heap[w.heap.size]? = some (.cells #[.int .i64 n0, .int .i64 n1, .int .i64 n2, .int .i64 n3, .int .i64 n4, .int .i64 n5, .int .i64 n6, .int .i64 n7, .slice none 0 0, .int .u8 m, .int .i64 n8, .int .i64 n9, .int .i64 n10] 63 (0, 0)) := CV43.out
  have q0 : V43.drew.setCell ⟨w.heap.size, 0, none⟩ (.int .i64 n0) = V43.drew := setCell_same _ _ _ _ _ _ _ CD rfl
  have q1 : V43.drew.setCell ⟨w.heap.size, 1, none⟩ (.int .i64 n1) = V43.drew := setCell_same _ _ _ _ _ _ _ CD rfl
  have q2 : V43.drew.setCell ⟨w.heap.size, 2, none⟩ (.int .i64 n2) = V43.drew := setCell_same _ _ _ _ _ _ _ CD rfl
  have q3 : V43.drew.setCell ⟨w.heap.size, 3, none⟩ (.int .i64 n3) = V43.drew := setCell_same _ _ _ _ _ _ _ CD rfl
  have q4 : V43.drew.setCell ⟨w.heap.size, 4, none⟩ (.int .i64 n4) = V43.drew := setCell_same _ _ _ _ _ _ _ CD rfl
  have q5 : V43.drew.setCell ⟨w.heap.size, 5, none⟩ (.int .i64 n5) = V43.drew := setCell_same _ _ _ _ _ _ _ CD rfl
  have q6 : V43.drew.setCell ⟨w.heap.size, 6, none⟩ (.int .i64 n6) = V43.drew := setCell_same _ _ _ _ _ _ _ CD rfl
  have q7 : V43.drew.setCell ⟨w.heap.size, 7, none⟩ (.int .i64 n7) = V43.drew := setCell_same _ _ _ _ _ _ _ CD rfl
  have q8 : V43.drew.setCell ⟨w.heap.size, 8, none⟩ (.slice none 0 0) = V43.drew := setCell_same _ _ _ _ _ _ _ CD rfl
  have q9 : V43.drew.setCell ⟨w.heap.size, 9, none⟩ (.int .u8 m) = V43.drew := setCell_same _ _ _ _ _ _ _ CD rfl
  have q10 : V43.drew.setCell ⟨w.heap.size, 10, none⟩ (.int .i64 n8) = V43.drew := setCell_same _ _ _ _ _ _ _ CD rfl
  have q11 : V43.drew.setCell ⟨w.heap.size, 11, none⟩ (.int .i64 n9) = V43.drew := setCell_same _ _ _ _ _ _ _ CD rfl
  have q12 : V43.drew.setCell ⟨w.heap.size, 12, none⟩ (.int .i64 n10) = V43.drew := setCell_same _ _ _ _ _ _ _ CD rfl
  have k0 : V43.drew.cell? ⟨w.heap.size, 0, none⟩ = some (.int .i64 n0) := by simp [World.cell?, CD]
  have k1 : V43.drew.cell? ⟨w.heap.size, 1, none⟩ = some (.int .i64 n1) := by simp [World.cell?, CD]
  have k2 : V43.drew.cell? ⟨w.heap.size, 2, none⟩ = some (.int .i64 n2) := by simp [World.cell?, CD]
  have k3 : V43.drew.cell? ⟨w.heap.size, 3, none⟩ = some (.int .i64 n3) := by simp [World.cell?, CD]
  have k4 : V43.drew.cell? ⟨w.heap.size, 4, none⟩ = some (.int .i64 n4) := by simp [World.cell?, CD]
  have k5 : V43.drew.cell? ⟨w.heap.size, 5, none⟩ = some (.int .i64 n5) := by simp [World.cell?, CD]
  have k6 : V43.drew.cell? ⟨w.heap.size, 6, none⟩ = some (.int .i64 n6) := by simp [World.cell?, CD]
  have k7 : V43.drew.cell? ⟨w.heap.size, 7, none⟩ = some (.int .i64 n7) := by simp [World.cell?, CD]
  have k8 : V43.drew.cell? ⟨w.heap.size, 8, none⟩ = some (.slice none 0 0) := by simp [World.cell?, CD]
  have k9 : V43.drew.cell? ⟨w.heap.size, 9, none⟩ = some (.int .u8 m) := by simp [World.cell?, CD]
  have k10 : V43.drew.cell? ⟨w.heap.size, 10, none⟩ = some (.int .i64 n8) := by simp [World.cell?, CD]
  have k11 : V43.drew.cell? ⟨w.heap.size, 11, none⟩ = some (.int .i64 n9) := by simp [World.cell?, CD]
  have k12 : V43.drew.cell? ⟨w.heap.size, 12, none⟩ = some (.int .i64 n10) := by simp [World.cell?, CD]
  have kf : ∀ i, V43.drew.frozen? ⟨w.heap.size, i, none⟩ = false := fun i => by simp [World.frozen?, CD]
  refine wp_region_held_drew (S := fun w' => Sc w.heap.size w' (w.heap.size + 1) (ws.drop 18) bd18 ∧ w'.heap[w.heap.size]? = some (.cells #[.int .i64 n0, .int .i64 n1, .int .i64 n2, .int .i64 n3, .int .i64 n4, .int .i64 n5, .int .i64 n6, .int .i64 n7, .slice none 0 0, .int .u8 m, .int .i64 n8, .int .i64 n9, .int .i64 n10] 63 (0, 0))) (by kernel_rfl) ⟨SD, CD⟩ (fun hS => ?_)
  refine wpAnyH_take (i := 0) (v := ?v0) rfl (by kernel_rfl) (by kernel_rfl) (by kernel_rfl) (fun _ _ _ h => h) (Or.inl ⟨by rfl, ?h0⟩) hS ?r0
  case h0 =>
    intro w1 hSw
    obtain ⟨-, hSw⟩ := hSw
    have k0 : w1.cell? ⟨w.heap.size, 0, none⟩ = some (.int .i64 n0) := by simp [World.cell?, hSw]
    have k1 : w1.cell? ⟨w.heap.size, 1, none⟩ = some (.int .i64 n1) := by simp [World.cell?, hSw]
    have k2 : w1.cell? ⟨w.heap.size, 2, none⟩ = some (.int .i64 n2) := by simp [World.cell?, hSw]
    have k3 : w1.cell? ⟨w.heap.size, 3, none⟩ = some (.int .i64 n3) := by simp [World.cell?, hSw]
    have k4 : w1.cell? ⟨w.heap.size, 4, none⟩ = some (.int .i64 n4) := by simp [World.cell?, hSw]
    have k5 : w1.cell? ⟨w.heap.size, 5, none⟩ = some (.int .i64 n5) := by simp [World.cell?, hSw]
    have k6 : w1.cell? ⟨w.heap.size, 6, none⟩ = some (.int .i64 n6) := by simp [World.cell?, hSw]
    have k7 : w1.cell? ⟨w.heap.size, 7, none⟩ = some (.int .i64 n7) := by simp [World.cell?, hSw]
    have k8 : w1.cell? ⟨w.heap.size, 8, none⟩ = some (.slice none 0 0) := by simp [World.cell?, hSw]
    have k9 : w1.cell? ⟨w.heap.size, 9, none⟩ = some (.int .u8 m) := by simp [World.cell?, hSw]
    have k10 : w1.cell? ⟨w.heap.size, 10, none⟩ = some (.int .i64 n8) := by simp [World.cell?, hSw]
    have k11 : w1.cell? ⟨w.heap.size, 11, none⟩ = some (.int .i64 n9) := by simp [World.cell?, hSw]
    have k12 : w1.cell? ⟨w.heap.size, 12, none⟩ = some (.int .i64 n10) := by simp [World.cell?, hSw]
    clear hSw
    go_simp
    try with_reducible rfl
  (try simp only [Act.put, List.setIfInBounds_toArray])
  refine wpAnyH_take (i := 1) (v := ?v1) rfl (by kernel_rfl) (by kernel_rfl) (by kernel_rfl) (fun _ _ _ h => h) (Or.inl ⟨by rfl, ?h1⟩) hS ?r1
  case h1 => (intro w1 hSw; go_simp; try with_reducible rfl)
  (try simp only [Act.put])
  refine wpAnyH_takeC (i := 2) rfl (by kernel_rfl) (by kernel_rfl) (by kernel_rfl) (fun _ _ _ h => h) ⟨by rfl, _, _, fun w1 hSw => ⟨by (go_simp; try with_reducible rfl), ((doneD w.heap.size (w.heap.size + 1) ws 18 bd18 w1 hSw.1 hl).mono fun e w2 h => ⟨h.1, h.2.symm⟩)⟩⟩ hS ?r2
  (try simp only [Act.put])
  refine wpAnyH_ready (rs := [3]) (by kernel_rfl) (by simp) (AllReadyH.cons rfl (fun K hK => ?_) AllReadyH.nil)
  go_simp
  (try simp only [q0, q1, q2, q3, q4, q5, q6, q7, q8, q9, q10, q11, q12])
  refine hK.out _ _ hS (fun _ => ?_)
  clear hK K
  (try simp only [Act.put, List.setIfInBounds_toArray, List.set_cons_zero, List.set_cons_succ])
  refine wpAnyH_ready (rs := [4]) (by kernel_rfl) (by simp) (AllReadyH.cons rfl (fun K hK => ?_) AllReadyH.nil)
  go_simp
  refine hK.out _ _ hS (fun _ => ?_)
  clear hK K
  refine wpAnyH_done (by kernel_rfl) ?_ _
  go_wp2_with fail
  (try simp only [Exit.inBlock, Exit.then])
  clear q0 q1 q2 q3 q4 q5 q6 q7 q8 q9 q10 q11 q12
  refine bodyPost_ret (v := .tuple #[.agg #[.int .i64 n0, .int .i64 n1, .int .i64 n2, .int .i64 n3, .int .i64 n4, .int .i64 n5, .int .i64 n6, .int .i64 n7, .slice none 0 0, .int .u8 m, .int .i64 n8, .int .i64 n9, .int .i64 n10], .bool (!bd18 && decide (ws.length ≤ 18))]) ?res rfl ?post
  case res => simp [results, Tryz.results70, go_sem, k0, k1, k2, k3, k4, k5, k6, k7, k8, k9, k10, k11, k12]
  case post =>
    refine ⟨?fin, (BV43.out).drew⟩
    have hb : bd18 = false ↔ 0 < ws.length ∧ ws.getD 0 [] = w_craft ∧ (numO (ws.getD 1 [])).isSome = true ∧ 2 < ws.length ∧ ws.getD 2 [] = w_at ∧ (numO (ws.getD 3 [])).isSome = true ∧ (numO (ws.getD 4 [])).isSome = true ∧ (numO (ws.getD 5 [])).isSome = true ∧ 6 < ws.length ∧ ws.getD 6 [] = w_moving ∧ (numO (ws.getD 7 [])).isSome = true ∧ (numO (ws.getD 8 [])).isSome = true ∧ (numO (ws.getD 9 [])).isSome = true ∧ 10 < ws.length ∧ ws.getD 10 [] = w_pull ∧ (numO (ws.getD 11 [])).isSome = true ∧ 12 < ws.length ∧ ws.getD 12 [] = w_mode ∧ 13 < ws.length ∧ 14 < ws.length ∧ ws.getD 14 [] = w_pilot ∧ (numO (ws.getD 15 [])).isSome = true ∧ (numO (ws.getD 16 [])).isSome = true ∧ (numO (ws.getD 17 [])).isSome = true := by simp only [J18.out, J17.out, J16.out, J15.out, J14.out, J13.out, J12.out, J11.out, J10.out, J9.out, J8.out, J7.out, J6.out, J5.out, J4.out, J3.out, J2.out, J1.out, and_assoc, true_and]
    obtain ⟨g1, g2⟩ := craft_fin m0 m1 MO.out hb N0.out N1.out N2.out N3.out N4.out N5.out N6.out N7.out N8.out N9.out N10.out
    exact ⟨_, by rw [g1], g2⟩
end Go.Proofs.YtnnnpliigdfipaaGreatDoor
