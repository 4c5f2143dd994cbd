/- The library in our words; the scanner's number, readPair. -/
import Derived.Test.YtnnnpliigdfipaaGreatDoorRows
import Derived.WalkKit
import Derived.WalkLawsBesides
import Derived.WalkSpells
import Derived.ProofKit
import Derived.Below
import Derived.Outline
import Derived.Lib.Hide
import Derived.Deep.RegionWith
import Derived.Deep.RegionHeld3
import Derived.Deep.DrawnRows
import Derived.StillTailTactics
import Derived.BigQuiet
import Derived.Deep.QuietTactic
import Derived.Deep.LoopGhost
import Derived.IntWalk
import Derived.Lib.MinMax
import Derived.Lib.LaidTab
import Derived.Lib.AppendIntMem
import Derived.Lib.AtoiErrMem
import Derived.Test.YtnnnpliigdfipaaGreatDoorEnW
import Derived.Test.YtnnnpliigdfipaaGreatDoorSh
namespace Go.Proofs.YtnnnpliigdfipaaGreatDoor
open Go.RowKit
attribute [local go_sem ↓] Go.wp_at_zero Go.wp_at_succ
attribute [local go_sem] wrap_lit
theorem lay166 : Go.Proofs.Lays.n166 Tryz.prog Tryz.lays156_ren := { mixed := Tryz.lays156.mixed, f166 := Tryz.lays156.f166, f240 := Tryz.lays156.f240, f276 := Tryz.lays156.f276, t0 := Tryz.lays156.t0, a0 := Tryz.lays156.a0, z0 := Tryz.lays156.z0, v0 := Tryz.lays156.v0, t3 := Tryz.lays156.t3, a3 := Tryz.lays156.a3, z3 := Tryz.lays156.z3, v3 := Tryz.lays156.v3, t4 := Tryz.lays156.t4, a4 := Tryz.lays156.a4, z4 := Tryz.lays156.z4, v4 := Tryz.lays156.v4, t9 := Tryz.lays156.t9, a9 := Tryz.lays156.a9, z9 := Tryz.lays156.z9, v9 := Tryz.lays156.v9, t20 := Tryz.lays156.t20, a20 := Tryz.lays156.a20, z20 := Tryz.lays156.z20, v20 := Tryz.lays156.v20, t37 := Tryz.lays156.t37, a37 := Tryz.lays156.a37, z37 := Tryz.lays156.z37, v37 := Tryz.lays156.v37, t70 := Tryz.lays156.t70, a70 := Tryz.lays156.a70, z70 := Tryz.lays156.z70, v70 := Tryz.lays156.v70, t72 := Tryz.lays156.t72, a72 := Tryz.lays156.a72, z72 := Tryz.lays156.z72, v72 := Tryz.lays156.v72, t75 := Tryz.lays156.t75, a75 := Tryz.lays156.a75, z75 := Tryz.lays156.z75, v75 := Tryz.lays156.v75, t164 := Tryz.lays156.t164, a164 := Tryz.lays156.a164, z164 := Tryz.lays156.z164, v164 := Tryz.lays156.v164 }
open Go.RowKit in
theorem write58 (B b : Nat) (bs : List Value) (s : ByteArray) (w : World) (h : Lib.IsBuilder 73 5 B b bs w) (hlen : bs.length + s.size ≤ 140737488355328) (hBw : B ≤ w.heap.size) : Calls Tryz.prog 58 #[.pointer (some ⟨b, 0, none⟩), .string s] w fun e w' => e = .returned (.tuple #[.int .i64 s.size, .nilIface]) ∧ (Lib.BuilderAt 73 5 B b (.pointer (some ⟨b, 0, none⟩)) (bs ++ Lib.strCells s) w' ∧ Below B w w') := Go.Proofs.Any.Builder_WriteString lay166 Tryz.Builder_Extra_156 B b bs s w h hlen hBw
def Tab (w : World) : Prop := Lib.TabIs Tryz.prog w "internal/strconv.uint64pow10" .u64 Lib.pow10Tab
theorem pow_num : Tryz.prog.globalNamed "internal/strconv.uint64pow10" = some 1 := by kernel_rfl
/-- what the library's functions want of the world: its variables, below block K -/
structure Env (K : Nat) (w : World) : Prop where
  le : 8 ≤ K
  tab : Tab w
  syn : ∃ t p, w.cell? ⟨2, 0, none⟩ = some (.iface t p)
  rng : ∃ t p, w.cell? ⟨3, 0, none⟩ = some (.iface t p)
  mx : ∃ m, w.cell? ⟨0, 0, none⟩ = some (.int .i64 m)
theorem Env.below {K : Nat} {w w' : World} (h : Env K w) (hb : Below K w w') : Env K w' where
  le := h.le
  tab := by
    have ht := h.tab
    have hl := h.le
    unfold Tab Lib.TabIs World.var? at ht ⊢
    rw [pow_num] at ht ⊢
    simp only [Option.bind_some] at ht ⊢
    rw [hb.block _ (by omega)]
    exact ht
  syn := by obtain ⟨t, p, e⟩ := h.syn; have hl := h.le; exact ⟨t, p, (hb.cell (p := ⟨2, 0, none⟩) (by show 2 < K; omega)).trans e⟩
  rng := by obtain ⟨t, p, e⟩ := h.rng; have hl := h.le; exact ⟨t, p, (hb.cell (p := ⟨3, 0, none⟩) (by show 3 < K; omega)).trans e⟩
  mx := by obtain ⟨m, e⟩ := h.mx; have hl := h.le; exact ⟨m, (hb.cell (p := ⟨0, 0, none⟩) (by show 0 < K; omega)).trans e⟩
theorem Env.grown {K b : Nat} {w w' : World} (h : Env K w) (hg : w.grownBy w' (some b)) (hb : K ≤ b) (hK : K ≤ w.heap.size) : Env K w' := h.below ((Below.refl K w).grown hg hK (fun k hk => by injection hk with hk; omega))
theorem itoa60 (n : Int) (hn : small n) (K : Nat) (w : World) (E : Env K w) : Calls Tryz.prog 60 #[.int .i64 n] w fun e w' => e = .returned (.string (S (Lib.itoa n))) ∧ Below w.heap.size w w' := by
  unfold small at hn
  refine (Tryz.strconv_Itoa n (by omega) (by omega) w E.tab).mono ?_
  rintro e w' ⟨rfl, k, os, rfl⟩
  exact ⟨rfl, Lib.below_grow _ _ (Nat.le_refl _) _ _⟩
theorem itoa60' (n : Int) (h0 : -9223372036854775808 ≤ n) (h1 : n ≤ 9223372036854775807) (K : Nat) (w : World) (E : Env K w) : Calls Tryz.prog 60 #[.int .i64 n] w fun e w' => e = .returned (.string (S (Lib.itoa n))) ∧ Below w.heap.size w w' := by
  refine (Tryz.strconv_Itoa n h0 h1 w E.tab).mono ?_
  rintro e w' ⟨rfl, k, os, rfl⟩
  exact ⟨rfl, Lib.below_grow _ _ (Nat.le_refl _) _ _⟩
theorem S_data (s : ByteArray) : S s.data.toList = s := by apply ByteArray.ext; simp
theorem atoi_bd {l : Tx} {v : Int} (h : Lib.atoiAll l = .ok v) : -9223372036854775808 ≤ v ∧ v ≤ 9223372036854775807 := by
  unfold Lib.atoiAll at h
  split at h
  · cases h
  · simp only at h
    split at h
    · cases h
    · cases h
    · split at h
      · cases h
      · rename_i g1
        split at h
        · cases h
        · rename_i g2
          injection h with h
          split at h
          · rename_i g3
            simp only [not_and, Nat.not_lt] at g2
            have := g2 g3
            omega
          · rename_i g3
            simp only [not_and, Nat.not_le] at g1
            have := g1 g3
            omega
theorem atoi138_ok (l : Tx) (hl : l.length ≤ 100000) (v : Int) (h : Lib.atoiAll l = .ok v) (w : World) : Calls Tryz.prog 138 #[.string (S l)] w fun e w' => e = .returned (.tuple #[.int .i64 v, .nilIface]) ∧ Below w.heap.size w w' := by
  refine (Tryz.strconv_Atoi_ok (S l) (by rw [S_size]; omega) v (by rw [S_list]; exact h) w).mono ?_
  rintro e w' ⟨rfl, rfl | ⟨t, rfl⟩⟩
  · exact ⟨rfl, Below.refl _ _⟩
  · exact ⟨rfl, Lib.bytesWorld_below _ _ _⟩
theorem atoi138_no (l : Tx) (hl : l.length ≤ 100000) (h : ∀ v, Lib.atoiAll l ≠ .ok v) (K : Nat) (w : World) (E : Env K w) : Calls Tryz.prog 138 #[.string (S l)] w fun e w' => (∃ (v : Int) (t : TypeId) (p : Value), e = .returned (.tuple #[.int .i64 v, .iface t p])) ∧ Below w.heap.size w w' := by
  rcases e : Lib.atoiAll l with v | _ | _
  · exact absurd e (h v)
  · obtain ⟨t, p, hv⟩ := E.syn
    refine (Tryz.strconv_Atoi_syntax (S l) (by rw [S_size]; omega) (by rw [S_list]; exact e) _ w hv (.inr ⟨t, p, rfl⟩)).mono ?_
    rintro e w' ⟨N, rfl, -, -, hb⟩
    exact ⟨⟨_, _, _, rfl⟩, hb⟩
  · obtain ⟨t, p, hv⟩ := E.rng
    refine (Tryz.strconv_Atoi_range (S l) (by rw [S_size]; omega) (by rw [S_list]; exact e) _ w hv (.inr ⟨t, p, rfl⟩)).mono ?_
    rintro e w' ⟨N, rfl, -, -, hb⟩
    exact ⟨⟨_, _, _, rfl⟩, hb⟩
theorem trim139 (l : Tx) (w : World) : Calls Tryz.prog 139 #[.string (S l), .string ⟨#[45]⟩] w fun e w' => e = .returned (.string (S (Lib.trimPrefix l [45]))) ∧ w = w' := by
  refine (Tryz.strings_TrimPrefix (S l) ⟨#[45]⟩ w).mono ?_
  rintro e w' ⟨rfl, h⟩
  exact ⟨by rw [S_list], h.symm⟩
theorem cut97 (l : Tx) (hl : l.length ≤ 100000) (K : Nat) (w : World) (E : Env K w) : Calls Tryz.prog 97 #[.string (S l), .string ⟨#[10]⟩] w fun e w' => e = .returned (.tuple #[.string (S (Lib.cut l [10]).1), .string (S (Lib.cut l [10]).2.1), .bool (Lib.cut l [10]).2.2]) ∧ Below w.heap.size w w' := by
  obtain ⟨m, hm⟩ := E.mx
  refine (Tryz.strings_Cut (S l) ⟨#[10]⟩ m w (by rw [S_size]; omega) hm).mono ?_
  rintro e w' ⟨rfl, n, rfl⟩
  exact ⟨by rw [S_list], below_drewN (Below.refl _ _) n⟩
/-- the words of a line in memory -/
def wordsV (ws : List Tx) : Array Value := (ws.map fun x => Value.string (S x)).toArray
theorem split_list (l : Tx) (c : UInt8) : (Lib.splitB ⟨#[c]⟩ 0 (Lib.countB (S l) ⟨#[c]⟩) (S l)) = (splitC c l).map S := by
  have h := Lib.splitB_data ⟨#[c]⟩ 0 (Lib.countB (S l) ⟨#[c]⟩) (S l)
  have e : Lib.splitK (⟨#[c]⟩ : ByteArray).data.toList 0 (Lib.countB (S l) ⟨#[c]⟩) (S l).data.toList = splitC c l := by
    rw [S_list]
    exact splitK_eq c _ l (by show l.count c ≤ Lib.count (S l).data.toList [c]; rw [S_list, Lib.count_one]; exact Nat.le_refl _)
  rw [e] at h
  rw [← h, List.map_map]
  conv => lhs; rw [← List.map_id (Lib.splitB _ _ _ _)]
  apply List.map_congr_left
  intro s _
  exact (S_data s).symm
theorem split98 (l : Tx) (hl : l.length ≤ 100000) (K : Nat) (w : World) (E : Env K w) : Calls Tryz.prog 98 #[.string (S l), .string ⟨#[32]⟩] w fun e w' => e = .returned (.slice (some ⟨w.heap.size, 0, none⟩) (splitC 32 l).length (splitC 32 l).length) ∧ w.alloc (.cells (wordsV (splitC 32 l)) 9) = w' := by
  obtain ⟨m, hm⟩ := E.mx
  refine (Tryz.strings_Split (S l) ⟨#[32]⟩ m w (by rw [S_size]; omega) hm (by decide)).mono ?_
  rintro e w' ⟨rfl, rfl⟩
  have h := split_list l 32
  have hn : Lib.countB (S l) ⟨#[32]⟩ + 1 = (splitC 32 l).length := by
    have := Lib.splitB_all ⟨#[32]⟩ (by decide) 0 (Lib.countB (S l) ⟨#[32]⟩) (S l) rfl
    rw [h, List.length_map] at this
    exact this.symm
  rw [hn, h, List.map_map]
  exact ⟨rfl, rfl⟩
theorem join59 (g c : Nat) (ws : List Tx) (w : World) (hc : ∀ j x, ws[j]? = some x → w.cell? ⟨g, j, none⟩ = some (.string (S x))) (hg : g < w.heap.size) (hcap : ws.length ≤ c) (hl : (Lib.join ws [32]).length ≤ 100000) (hN : ws.length ≤ 100000) : Calls Tryz.prog 59 #[.slice (some ⟨g, 0, none⟩) ws.length c, .string ⟨#[32]⟩] w fun e w' => e = .returned (.string (S (Lib.join ws [32]))) ∧ Below w.heap.size w w' := by
  have e : (ws.map S).map (·.data.toList) = ws := by
    rw [List.map_map]
    conv => rhs; rw [← List.map_id ws]
    exact List.map_congr_left (fun x _ => S_list x)
  have T := Tryz.strings_Join g 0 c (ws.map S) ⟨#[32]⟩ w (fun j x hj => by
    rw [List.getElem?_map] at hj
    obtain ⟨y, hy, rfl⟩ := Option.map_eq_some_iff.1 hj
    rw [Nat.zero_add]; exact hc j y hy) hg (by simp; omega) (by simpa using hcap) (by rw [e]; show (Lib.join ws [32]).length ≤ _; omega)
  rw [e, List.length_map] at T
  exact T
theorem index102 (g c : Nat) (ws : List Tx) (x : Tx) (w : World) (hc : ∀ j y, ws[j]? = some y → w.cell? ⟨g, j, none⟩ = some (.string (S y))) (hN : ws.length ≤ 100000) : Calls Tryz.prog 102 #[.slice (some ⟨g, 0, none⟩) ws.length c, .string (S x)] w fun e w' => e = .returned (.int .i64 (Lib.idxOfS (ws.map S) (S x))) ∧ w = w' := by
  refine (Tryz.slices_Index_string g 0 ws.length c (ws.map S) (S x) w (by simp) (by omega) (fun j hj => ?_)).mono ?_
  · have hj' : j < ws.length := by simpa using hj
    rw [Nat.zero_add, hc j ws[j] (List.getElem?_eq_getElem hj')]
    simp [List.getD_eq_getElem?_getD, hj']
  · rintro e w' ⟨rfl, h⟩
    rw [List.take_of_length_le (by simp)]
    exact ⟨rfl, h.symm⟩
theorem numO_none {l : Tx} (h : ∀ v, Lib.atoiAll l ≠ .ok v) : numO l = none := by
  unfold numO
  split
  · rename_i n e; exact absurd e (h n)
  · rfl
theorem numO_some {l : Tx} {v : Int} (h : Lib.atoiAll l = .ok v) : numO l = if Lib.itoa v = l ∧ (Lib.trimPrefix l [45]).length ≤ 9 then some v else none := by unfold numO; rw [h]
set_option maxHeartbeats 2000000 in
theorem number100 (K B b : Nat) (ws : List Tx) (bad : Bool) (w : World) (E : Env K w) (h : Sc B w b ws bad) (hK : K ≤ b) (hl : ws.length ≤ 100000) (hw : ∀ x ∈ ws, x.length ≤ 100000) : Calls Tryz.prog 100 #[.pointer (some ⟨b, 0, none⟩)] w fun e w' => e = .returned (.int .i64 ((numO (ws.headD [])).getD 0)) ∧ Sc B w' b ws.tail (bad || (numO (ws.headD [])).isNone) ∧ w.grownBy w' (some b) := by
  have hbl : b < w.heap.size := by obtain ⟨A, c, h1, -⟩ := h; exact heap_lt h1
  have hu1 : (ws.headD []).length ≤ 100000 := by
    cases ws with
    | nil => simp
    | cons x r => exact hw x (by simp)
  have hem : ws.isEmpty = true → numO (ws.headD []) = none := by
    intro h
    rw [List.isEmpty_iff.1 h]
    exact numO_none (fun v => by simp [Lib.atoiAll])
  obtain ⟨u, hu⟩ : ∃ u, u = ws.headD [] := ⟨_, rfl⟩
  have N := next103 B b ws bad w h hl
  rw [← hu] at N hu1 hem ⊢
  clear hu h hw
  obtain ⟨em, hem2⟩ : ∃ em, em = ws.isEmpty := ⟨_, rfl⟩
  rw [← hem2] at N hem
  clear hem2
  obtain ⟨r, hr⟩ : ∃ r, r = ws.tail := ⟨_, rfl⟩
  rw [← hr] at N ⊢
  clear hr
  by_cases ho : ∃ v, Lib.atoiAll u = .ok v
  · obtain ⟨v, hv⟩ := ho
    obtain ⟨v0, v1⟩ := atoi_bd hv
    by_cases hi : Lib.itoa v = u
    · by_cases ht : (Lib.trimPrefix u [45]).length ≤ 9
      · have HN : Hid (numO u = some v) := Lib.hid (by rw [numO_some hv, if_pos ⟨hi, ht⟩])
        have hE : em = false := by cases em; rfl; exact absurd (hem rfl) (by rw [HN.out]; simp)
        have htI : ¬ 9 < ((Lib.trimPrefix u [45]).length : Int) := by omega
        subst hE
        go_enter Tryz.func100, Tryz.ntmps100
        go_wp2_with fail
        refine N.mono ?_
        rintro e w1 ⟨rfl, h1, g1⟩
        have E1 := E.grown g1 hK (by omega)
        have z1 := g1.size
        have H1 := Lib.hid h1
        clear h1
        go_wp2_with fail
        refine (atoi138_ok u hu1 v hv w1).mono ?_
        rintro e w2 ⟨rfl, hb2⟩
        have E2 := E1.below (hb2.mono (by omega))
        have H2 := Lib.hid (H1.out.below hb2)
        have z2 := hb2.size
        have G2 := Lib.hid (grown_trans g1 (grown_below (b := b) hb2))
        clear hb2
        go_wp2_with fail
        refine (itoa60' v v0 v1 K w2 E2).mono ?_
        rintro e w3 ⟨rfl, hb3⟩
        have H3 := Lib.hid (H2.out.below hb3)
        have G3 := Lib.hid (grown_trans G2.out (grown_below (b := b) hb3))
        obtain ⟨c1, f1⟩ := H3.out.c1
        clear hb3
        rw [hi]
        go_wp2_with fail
        refine (trim139 u w3).mono ?_
        rintro e wS ⟨rfl, rfl⟩
        go_wp2_with fail
        go_ret
        exact ⟨by rw [HN.out]; rfl, by rw [HN.out]; simpa using H3.out, G3.out⟩
      · have HN : Hid (numO u = none) := Lib.hid (by rw [numO_some hv, if_neg (fun h => ht h.2)])
        have htI : 9 < ((Lib.trimPrefix u [45]).length : Int) := by omega
        go_enter Tryz.func100, Tryz.ntmps100
        go_wp2_with fail
        refine N.mono ?_
        rintro e w1 ⟨rfl, h1, g1⟩
        have E1 := E.grown g1 hK (by omega)
        have z1 := g1.size
        have H1 := Lib.hid h1
        clear h1
        go_wp2_with fail
        refine (atoi138_ok u hu1 v hv w1).mono ?_
        rintro e w2 ⟨rfl, hb2⟩
        have E2 := E1.below (hb2.mono (by omega))
        have H2 := Lib.hid (H1.out.below hb2)
        have z2 := hb2.size
        have G2 := Lib.hid (grown_trans g1 (grown_below (b := b) hb2))
        clear hb2
        go_wp2_with fail
        refine (itoa60' v v0 v1 K w2 E2).mono ?_
        rintro e w3 ⟨rfl, hb3⟩
        have H3 := Lib.hid (H2.out.below hb3)
        have G3 := Lib.hid (grown_trans G2.out (grown_below (b := b) hb3))
        obtain ⟨c1, f1⟩ := H3.out.c1
        clear hb3
        rw [hi]
        go_wp2_with fail
        refine (trim139 u w3).mono ?_
        rintro e wS ⟨rfl, rfl⟩
        go_wp2_with fail
        go_ret
        exact ⟨by rw [HN.out]; rfl, by rw [HN.out]; simpa using H3.out.set, grown_trans G3.out (grownBy_set _ _ _ _)⟩
    · have HN : Hid (numO u = none) := Lib.hid (by rw [numO_some hv, if_neg (fun h => hi h.1)])
      have hne : (Lib.itoa v == u) = false := by simp [hi]
      go_enter Tryz.func100, Tryz.ntmps100
      go_wp2_with fail
      refine N.mono ?_
      rintro e w1 ⟨rfl, h1, g1⟩
      have E1 := E.grown g1 hK (by omega)
      have z1 := g1.size
      have H1 := Lib.hid h1
      clear h1
      go_wp2_with fail
      refine (atoi138_ok u hu1 v hv w1).mono ?_
      rintro e w2 ⟨rfl, hb2⟩
      have E2 := E1.below (hb2.mono (by omega))
      have H2 := Lib.hid (H1.out.below hb2)
      have z2 := hb2.size
      have G2 := Lib.hid (grown_trans g1 (grown_below (b := b) hb2))
      clear hb2
      go_wp2_with fail
      refine (itoa60' v v0 v1 K w2 E2).mono ?_
      rintro e w3 ⟨rfl, hb3⟩
      have H3 := Lib.hid (H2.out.below hb3)
      have G3 := Lib.hid (grown_trans G2.out (grown_below (b := b) hb3))
      obtain ⟨c1, f1⟩ := H3.out.c1
      clear hb3
      go_wp2_with fail
      go_ret
      exact ⟨by rw [HN.out]; rfl, by rw [HN.out]; simpa using H3.out.set, grown_trans G3.out (grownBy_set _ _ _ _)⟩
  · have HN : Hid (numO u = none) := Lib.hid (numO_none (fun v hv => ho ⟨v, hv⟩))
    go_enter Tryz.func100, Tryz.ntmps100
    go_wp2_with fail
    refine N.mono ?_
    rintro e w1 ⟨rfl, h1, g1⟩
    have E1 := E.grown g1 hK (by omega)
    have z1 := g1.size
    have H1 := Lib.hid h1
    clear h1
    go_wp2_with fail
    refine (atoi138_no u hu1 (fun v hv => ho ⟨v, hv⟩) K w1 E1).mono ?_
    rintro e w2 ⟨⟨v, t, p, rfl⟩, hb2⟩
    have H2 := Lib.hid (H1.out.below hb2)
    have G2 := Lib.hid (grown_trans g1 (grown_below (b := b) hb2))
    obtain ⟨c1, f1⟩ := H2.out.c1
    clear hb2
    go_wp2_with fail
    go_ret
    exact ⟨by rw [HN.out]; rfl, by rw [HN.out]; simpa using H2.out.set, grown_trans G2.out (grownBy_set _ _ _ _)⟩
end Go.Proofs.YtnnnpliigdfipaaGreatDoor
