/- FruitExamples returns true. -/
import Derived.Test.YtmkpblfacnnnoaaRows
import Derived.WalkKit
import Derived.WalkLawsBesides
import Derived.WalkSpells
import Derived.ProofKit
import Derived.Below
import Derived.Outline
import Derived.Lib.Hide
import Derived.Deep.RegionWith
import Derived.Deep.RegionHeld3
import Derived.Deep.DrawnRows
import Derived.StillTailTactics
import Derived.BigQuiet
import Derived.Deep.QuietTactic
import Derived.Deep.LoopGhost
import Derived.IntWalk
import Derived.Test.YtmkpblfacnnnoaaFrX3
import Derived.Test.YtmkpblfacnnnoaaKO
import Derived.Deep.DeepCutAuto
import Derived.WalkKit
import Derived.ProofKit
import Derived.OpenShut
import Derived.ShutString
import Derived.ChangeOld
import Derived.Below
import Derived.Lib.SmallJoins
namespace Go.Proofs.Ytmkpblfacnnnoaa
open Go.RowKit
attribute [local go_sem ↓] Go.wp_at_zero Go.wp_at_succ
attribute [local go_sem] wrap_lit

def full : List Int := List.replicate 64 0
def over : List Int := -1 :: List.replicate 64 0
theorem gr_diag (n : Nat) : ∀ m i, n - i ≤ m → gr 0 (List.replicate n 0) (List.replicate n 0) i i = (List.range' i (n - i)).map (fun k => (k, k))
  | 0, i, h => by rw [gr_end (by simp; omega), show n - i = 0 by omega]; rfl
  | m + 1, i, h => by
    by_cases hi : i < n
    · have e : nth (List.replicate n (0 : Int)) i = 0 := by simp [nth, List.getD_eq_getElem?_getD, hi]
      rw [gr_pair (by simpa using hi) (by simpa using hi) (by rw [e]; decide) (by rw [e]; decide), gr_diag n m (i + 1) (by omega)]
      obtain ⟨q, hq⟩ : ∃ q, n - i = q + 1 := ⟨n - i - 1, by omega⟩
      rw [hq, show n - (i + 1) = q by omega]; rfl
    · rw [gr_end (by simp; omega), show n - i = 0 by omega]; rfl
def fullL : List (Nat × Nat) := (List.range' 0 64).map fun k => (k, k)
theorem fE0 : mtE full full 0 = 0 := by decide
theorem fL0 : mtL full full 0 = fullL := by rw [mtL_ok fE0]; exact gr_diag 64 64 0 (Nat.le_refl _)
theorem stL_bad {a : List (List Int)} {u n : Int} (h : ¬ stE a u n = 0) : stL a u n = [] := by unfold stL; rw [if_neg h]
theorem fE9 : mtE [0] [1023] 1024 = 0 := by decide
theorem fL9 : mtL [0] [1023] 1024 = [(0, 0)] := by rw [mtL_ok fE9]; simp [gr, nth]
def MtP (w : World) (E : Int) (l : List (Nat × Nat)) (e : Ending) (w' : World) : Prop := ∃ A cap, e = .returned (.tuple #[.slice A l.length cap, .int .i64 E]) ∧ Is .i64 w' w'.heap.size A (flat l) ∧ Below w.heap.size w w'
theorem exM (A A' : Option Addr) (cap cap' nx ny : Nat) (xs ys : List Int) (u E : Int) (l : List (Nat × Nat)) (hx : xs.length = nx) (hy : ys.length = ny) (hE : mtE xs ys u = E) (hL : mtL xs ys u = l) (W : World) (h1 : Is .i64 W W.heap.size A xs) (h2 : Is .i64 W W.heap.size A' ys) (hb : xs.length ≤ 1000000) (hb' : ys.length ≤ 1000000) :
    Calls Try.prog 13 #[.slice A nx cap, .slice A' ny cap', .int .i64 u] W (MtP W E l) := by
  subst hx; subst hy; subst hE; subst hL
  refine (match13 A A' cap cap' xs ys u W.heap.size W (Nat.le_refl _) h1 h2 hb hb').mono ?_
  rintro e w' ⟨v, rfl, hv, hB⟩
  obtain ⟨A3, cap3, rfl, hown⟩ := hv.own
  exact ⟨A3, cap3, rfl, hown.is, hB⟩
def LiP (w : World) (E : Int) (l : List Int) (e : Ending) (w' : World) : Prop := ∃ A cap, e = .returned (.tuple #[.slice A l.length cap, .int .i64 E]) ∧ Is .i64 w' w'.heap.size A l ∧ Below w.heap.size w w'
theorem exF (A : Option Addr) (cap n : Nat) (xss : List (List Int)) (u E : Int) (l : List Int) (hn : xss.length = n) (hE : lfE xss u = E) (hL : lfL xss u = l) (W : World) (hR : RIs .i64 W W.heap.size A xss) (hb : xss.length ≤ 1000000) (hrow : ∀ r, r < xss.length → (row xss r).length ≤ 1000000) :
    Calls Try.prog 21 #[.slice A n cap, .int .i64 u] W (LiP W E l) := by
  subst hn; subst hE; subst hL
  refine (life21 A cap xss u W.heap.size W (Nat.le_refl _) hR hb hrow).mono ?_
  rintro e w' ⟨A3, cap3, rfl, hown, hB⟩
  exact ⟨A3, cap3, rfl, hown.is, hB⟩
theorem exS (A : Option Addr) (cap n : Nat) (xss : List (List Int)) (u need E : Int) (l : List Int) (hn : xss.length = n) (hE : stE xss u need = E) (hL : stL xss u need = l) (W : World) (hR : RIs .i64 W W.heap.size A xss) (hb : xss.length ≤ 1000000) (hrow : ∀ r, r < xss.length → (row xss r).length ≤ 1000000) :
    Calls Try.prog 23 #[.slice A n cap, .int .i64 u, .int .i64 need] W (LiP W E l) := by
  subst hn; subst hE; subst hL
  refine (steady23 A cap xss u need W.heap.size W (Nat.le_refl _) hR hb hrow).mono ?_
  rintro e w' ⟨v, rfl, hv, hB⟩
  obtain ⟨A3, cap3, rfl, hown⟩ := hv.own
  exact ⟨A3, cap3, rfl, hown.is, hB⟩
theorem row_rep (n r : Nat) : row (List.replicate n ([] : List Int)) r = [] := by
  unfold row; rw [List.getD_eq_getElem?_getD]
  by_cases h : r < n <;> simp [h]
theorem made_rows (n j : Nat) (h : j < n) : (madeCells #[Value.slice none 0 0] n)[j]? = some (.slice none 0 0) := by
  simp [madeCells, h, Nat.mod_one]
theorem RIs.made (W : World) (n : Nat) : RIs .i64 (W.alloc (.cells (madeCells #[.slice none 0 0] n) 22)) (W.heap.size + 1) (some ⟨W.heap.size, 0, none⟩) (List.replicate n []) := fun _ => by
  refine ⟨W.heap.size, 0, rfl, by omega, fun r hr => ⟨none, 0, ?_, ?_⟩⟩
  · rw [row_rep]
    rw [World.cell?_alloc_at _ _ _ _ rfl]
    simpa using made_rows n r (by simpa using hr)
  · rw [row_rep]; exact Is.none_
theorem RIs.one {W : World} {g0 g : Nat} {xs : List Int} {c n : Nat} {T : TypeId} (hn : xs.length = n) (h0 : Is .i64 W W.heap.size (some ⟨g0, 0, none⟩) xs) (h1 : W.heap[g]? = some (.cells #[.slice (some ⟨g0, 0, none⟩) n c] T (0, 0))) : RIs .i64 W W.heap.size (some ⟨g, 0, none⟩) [xs] := fun _ => by
  subst hn
  refine ⟨g, 0, rfl, heap_lt h1, fun r hr => ?_⟩
  have hr' : r < 1 := hr
  obtain rfl : r = 0 := by omega
  exact ⟨_, c, by simp [World.cell?, h1]; rfl, h0⟩
theorem RIs.three {W : World} {g0 g1 g2 g : Nat} {xs ys zs : List Int} {c d f n m q : Nat} {T : TypeId} (hn : xs.length = n) (hm : ys.length = m) (hq : zs.length = q) (h0 : Is .i64 W W.heap.size (some ⟨g0, 0, none⟩) xs) (h1 : Is .i64 W W.heap.size (some ⟨g1, 0, none⟩) ys) (h2 : Is .i64 W W.heap.size (some ⟨g2, 0, none⟩) zs) (h3 : W.heap[g]? = some (.cells #[.slice (some ⟨g0, 0, none⟩) n c, .slice (some ⟨g1, 0, none⟩) m d, .slice (some ⟨g2, 0, none⟩) q f] T (0, 0))) : RIs .i64 W W.heap.size (some ⟨g, 0, none⟩) [xs, ys, zs] := fun _ => by
  subst hn; subst hm; subst hq
  refine ⟨g, 0, rfl, heap_lt h3, fun r hr => ?_⟩
  have hr' : r < 3 := hr
  rcases (by omega : r = 0 ∨ r = 1 ∨ r = 2) with rfl | rfl | rfl
  · exact ⟨_, c, by simp [World.cell?, h3]; rfl, h0⟩
  · exact ⟨_, d, by simp [World.cell?, h3]; rfl, h1⟩
  · exact ⟨_, f, by simp [World.cell?, h3]; rfl, h2⟩
theorem two_made (w : World) (m n : Nat) : OutB ((w.alloc (.cells (madeCells #[.int .i64 0] m) 3)).alloc (.cells (madeCells #[.int .i64 0] n) 3)).drew w.heap.size 3 (List.replicate m 0) ∧ OutB ((w.alloc (.cells (madeCells #[.int .i64 0] m) 3)).alloc (.cells (madeCells #[.int .i64 0] n) 3)).drew (w.heap.size + 1) 3 (List.replicate n 0) ∧ Below w.heap.size w ((w.alloc (.cells (madeCells #[.int .i64 0] m) 3)).alloc (.cells (madeCells #[.int .i64 0] n) 3)).drew := by
  have hs : (w.alloc (.cells (madeCells #[.int .i64 0] m) 3)).heap.size = w.heap.size + 1 := by simp
  refine ⟨((OutB.made w m).below ((Below.refl _ _).alloc (Nat.le_refl _) _)).drew, ?_, (((Below.refl _ _).alloc (Nat.le_refl _) _).alloc (by omega) _).drew⟩
  rw [← hs]; exact (OutB.made _ n).drew
/-- What the walk carries along. -/
structure ExC (w : World) (g1 g2 : Nat) (W : World) : Prop where
  f : Is .i64 W W.heap.size (some ⟨g1, 0, none⟩) full
  o : Is .i64 W W.heap.size (some ⟨g2, 0, none⟩) over
  b : Below w.heap.size w W
theorem Is.nxt {W W1 : World} {A : Option Addr} {xs : List Int} (h : Is .i64 W W.heap.size A xs) (hb : Below W.heap.size W W1) : Is .i64 W1 W1.heap.size A xs := (h.below hb).mono hb.size
theorem ExC.on {w : World} {g1 g2 : Nat} {W W1 : World} (h : ExC w g1 g2 W) (hb : Below W.heap.size W W1) : ExC w g1 g2 W1 := ⟨h.f.nxt hb, h.o.nxt hb, h.b.trans (hb.mono h.b.size)⟩
theorem RIs.nil {W : World} {B : Nat} {A : Option Addr} : RIs .i64 W B A [] := fun h => by simp at h
theorem xE_b : mtE over [-1] (-1) = 4 := by decide
theorem xE_c : mtE full [-1] (-1) = 1 := by decide
theorem xE_d : mtE full [2, 1] 0 = 1 := by decide
theorem xE_e : mtE full [1024] 0 = 1 := by decide
theorem xE_f : mtE full full (-1) = 1 := by decide
theorem xE_g : mtE full full 1025 = 1 := by decide
theorem xE_i : lfE [] (-1) = 3 := by decide
theorem xL_i : lfL [] (-1) = [] := lfL_bad (by rw [xE_i]; decide)
theorem xE_j : lfE (List.replicate 17 []) (-1) = 4 := by decide
theorem xL_j : lfL (List.replicate 17 []) (-1) = [] := lfL_bad (by rw [xE_j]; decide)
theorem xE_k : lfE (List.replicate 16 []) 0 = 0 := by decide
theorem xE_l : lfE [[1], over, [-1]] (-1) = 4 := by decide
theorem xL_l : lfL [[1], over, [-1]] (-1) = [] := lfL_bad (by rw [xE_l]; decide)
theorem xE_m : lfE [[1]] (-1) = 1 := by decide
theorem xL_m : lfL [[1]] (-1) = [] := lfL_bad (by rw [xE_m]; decide)
theorem xL_k : lfL (List.replicate 16 []) 0 = [] := by
  rw [lfL_ok xE_k]; apply List.eq_nil_of_length_eq_zero; rw [lfA_len]; rfl
theorem xE_n : stE [[1]] 0 0 = 1 := by decide
theorem xL_n : stL [[1]] 0 0 = [] := stL_bad (by rw [xE_n]; decide)
theorem xE_o : stE [[1]] 0 2 = 1 := by decide
theorem xL_o : stL [[1]] 0 2 = [] := stL_bad (by rw [xE_o]; decide)
theorem xE_p : stE [[1]] 0 1 = 0 := by decide
theorem xF_p : lfE [[1]] 0 = 0 := by decide
theorem xL_p : stL [[1]] 0 1 = [0] := by
  unfold stL
  rw [if_pos xE_p, lfL_ok xF_p]
  simp [lfA, lfS, prv, row, lfP, gr, nth, stI]

set_option maxRecDepth 100000 in
set_option maxHeartbeats 8000000 in
theorem frExamples (w : World) : Calls Try.prog 9 #[] w fun e w' => e = .returned (.bool true) ∧ Below w.heap.size w w' := by
  obtain ⟨i0, hi0, hz0, hz1, hz2⟩ := info_parts int_info
  have hmk : ∀ (n : Nat), n ≤ 1000 → ∀ W : World, (Instr.makeSlice 22 (.int .i64 (n : Int)) (.int .i64 (n : Int))).run Try.prog W = .ok (.slice (some ⟨W.heap.size, 0, none⟩) n n) (W.alloc (.cells (madeCells #[.int .i64 0] n) 3)) := fun n hn W => by
    have h := run_makeN (P := Try.prog) 22 3 i0 _ Try.underlying22 hi0 hz0 n (by omega) (by omega) W
    rw [hz1, Nat.mul_one] at h
    simpa [Value.cells] using h
  obtain ⟨i1, hj0, hy0, hy1, hy2⟩ := info_parts R_info
  have hmr : ∀ (n : Nat), n ≤ 1000 → ∀ W : World, (Instr.makeSlice 35 (.int .i64 (n : Int)) (.int .i64 (n : Int))).run Try.prog W = .ok (.slice (some ⟨W.heap.size, 0, none⟩) n n) (W.alloc (.cells (madeCells #[.slice none 0 0] n) 22)) := fun n hn W => by
    have h := run_makeN (P := Try.prog) 35 22 i1 _ Try.underlying35 hj0 hy0 n (by omega) (by omega) W
    rw [hy1, Nat.mul_one] at h
    simpa [Value.cells] using h
  have k64 : ∀ W : World, (Instr.makeSlice 22 (.int .i64 64) (.int .i64 64)).run Try.prog W = .ok (.slice (some ⟨W.heap.size, 0, none⟩) 64 64) (W.alloc (.cells (madeCells #[.int .i64 0] 64) 3)) := hmk 64 (by decide)
  have k65 : ∀ W : World, (Instr.makeSlice 22 (.int .i64 65) (.int .i64 65)).run Try.prog W = .ok (.slice (some ⟨W.heap.size, 0, none⟩) 65 65) (W.alloc (.cells (madeCells #[.int .i64 0] 65) 3)) := hmk 65 (by decide)
  have k17 : ∀ W : World, (Instr.makeSlice 35 (.int .i64 17) (.int .i64 17)).run Try.prog W = .ok (.slice (some ⟨W.heap.size, 0, none⟩) 17 17) (W.alloc (.cells (madeCells #[.slice none 0 0] 17) 22)) := hmr 17 (by decide)
  have k16 : ∀ W : World, (Instr.makeSlice 35 (.int .i64 16) (.int .i64 16)).run Try.prog W = .ok (.slice (some ⟨W.heap.size, 0, none⟩) 16 16) (W.alloc (.cells (madeCells #[.slice none 0 0] 16) 22)) := hmr 16 (by decide)
  have Hmk := Lib.hid (And.intro k64 k65)
  have Hmr := Lib.hid (And.intro k17 k16)
  clear hmk hmr k64 k65 k17 k16 hi0 hz0 hz1 hz2 hj0 hy0 hy1 hy2
  go_enter Try.func9, Try.ntmps9
  go_wp2_with fail
  refine (awake11 _).mono ?_
  rintro e w0 ⟨rfl, hb0⟩
  have HB0 := Lib.hid hb0
  clear hb0
  go_wp2_with fail
  go_cut [1, 2] (fun s1 s2 wx => ∃ g1 g2, s1 = .slice (some ⟨g1, 0, none⟩) 64 64 ∧ s2 = .slice (some ⟨g2, 0, none⟩) 65 65 ∧ g1 ≠ g2 ∧ OutB wx g1 3 (List.replicate 64 0) ∧ OutB wx g2 3 (List.replicate 65 0) ∧ w.heap.size ≤ g2 ∧ Below w0.heap.size w0 wx)
  case first =>
    obtain ⟨hmk1, hmk2⟩ := Hmk.out
    go_region
    all_goals go_wp2_with fail
    all_goals go_meet
    · obtain ⟨t1, t2, t3⟩ := two_made w0 64 65
      exact ⟨_, _, rfl, rfl, by omega, t1, t2, by have := HB0.out.size; omega, t3⟩
    · obtain ⟨t1, t2, t3⟩ := two_made w0 65 64
      exact ⟨_, _, rfl, rfl, by omega, t2, t1, by have := HB0.out.size; omega, t3⟩
  case rest =>
  obtain ⟨g1, g2, rfl, rfl, hg, o1, o2, hg2, bc⟩ := hcut
  have c1 := o2.cell (j := 0) (by decide)
  have c2 := o2.frozen 0
  have O := Lib.hid (And.intro o1 (And.intro o2 (And.intro hg2 (HB0.out.trans (bc.mono HB0.out.size)))))
  have Hg := Lib.hid hg
  clear o1 o2 bc HB0 Hmk hg
  go_wp2_with fail
  obtain ⟨w1, hw1⟩ : ∃ w1, w1 = wc.setCell ⟨g2, 0, none⟩ (.int .i64 (-1)) := ⟨_, rfl⟩
  have Cw1 := Lib.hid (show ExC w g1 g2 w1 by
    obtain ⟨p1, p2, p3, p4⟩ := O.out
    rw [hw1]
    have q1 := (p1.far (p := ⟨g2, 0, none⟩) Hg.out (.int .i64 (-1))).is 64 (by decide)
    have q2 := (p2.set 0 (-1) (by decide)).is 65 (by decide)
    exact ⟨q1, q2, p4.setCell (p := ⟨g2, 0, none⟩) p3 _⟩)
  rw [← hw1]
  clear hw1 O Hg c1 c2
  refine (exM (some ⟨g1, 0, none⟩) (some ⟨g1, 0, none⟩) 64 64 64 64 full full 0 0 fullL rfl rfl fE0 fL0 w1 Cw1.out.f Cw1.out.f (by decide) (by decide)).mono ?_
  rintro e w2 ⟨Aw2, capw2, rfl, isw2, hbw2⟩
  have Cw2 := Lib.hid (Cw1.out.on hbw2)
  clear Cw1 
  have Kaw2 := Lib.hid isw2
  clear hbw2 isw2
  go_wp2_with fail
  obtain ⟨x2, hx2⟩ : ∃ x2, x2 = w2.alloc (.cells #[.int .i64 (-1)] 3) := ⟨_, rfl⟩
  have Bx2 : Below w2.heap.size w2 x2 := by rw [hx2]; exact (Below.refl _ _).alloc (Nat.le_refl _) _
  have ex2 : x2.heap[w2.heap.size]? = some (.cells #[.int .i64 (-1)] 3 (0, 0)) := by rw [hx2]; exact heap_alloc_new w2 _
  have zx2 : x2.heap.size = w2.heap.size + 1 := by rw [hx2]; simp
  have Ix2 : Is .i64 x2 x2.heap.size (some ⟨w2.heap.size, 0, none⟩) [-1] := Is.lit (T := 3) ex2 (by omega)
  rw [← hx2]
  have Cx2 := Lib.hid (Cw2.out.on Bx2)
  have Kax2 := Lib.hid (Kaw2.out.nxt Bx2)
  clear Cw2 Kaw2
  clear hx2 ex2 Bx2
  refine (exM (some ⟨g2, 0, none⟩) (some ⟨w2.heap.size, 0, none⟩) 65 1 65 1 over [-1] (-1) 4 [] rfl rfl xE_b (mtL_bad (by rw [xE_b]; decide)) x2 Cx2.out.o Ix2 (by decide) (by decide)).mono ?_
  rintro e w3 ⟨Aw3, capw3, rfl, isw3, hbw3⟩
  have Cw3 := Lib.hid (Cx2.out.on hbw3)
  have Kaw3 := Lib.hid (Kax2.out.nxt hbw3)
  clear Cx2 Kax2
  clear hbw3 isw3
  go_wp2_with fail
  obtain ⟨x3, hx3⟩ : ∃ x3, x3 = w3.alloc (.cells #[.int .i64 (-1)] 3) := ⟨_, rfl⟩
  have Bx3 : Below w3.heap.size w3 x3 := by rw [hx3]; exact (Below.refl _ _).alloc (Nat.le_refl _) _
  have ex3 : x3.heap[w3.heap.size]? = some (.cells #[.int .i64 (-1)] 3 (0, 0)) := by rw [hx3]; exact heap_alloc_new w3 _
  have zx3 : x3.heap.size = w3.heap.size + 1 := by rw [hx3]; simp
  have Ix3 : Is .i64 x3 x3.heap.size (some ⟨w3.heap.size, 0, none⟩) [-1] := Is.lit (T := 3) ex3 (by omega)
  rw [← hx3]
  have Cx3 := Lib.hid (Cw3.out.on Bx3)
  have Kax3 := Lib.hid (Kaw3.out.nxt Bx3)
  clear Cw3 Kaw3
  clear hx3 ex3 Bx3
  refine (exM (some ⟨g1, 0, none⟩) (some ⟨w3.heap.size, 0, none⟩) 64 1 64 1 full [-1] (-1) 1 [] rfl rfl xE_c (mtL_bad (by rw [xE_c]; decide)) x3 Cx3.out.f Ix3 (by decide) (by decide)).mono ?_
  rintro e w4 ⟨Aw4, capw4, rfl, isw4, hbw4⟩
  have Cw4 := Lib.hid (Cx3.out.on hbw4)
  have Kaw4 := Lib.hid (Kax3.out.nxt hbw4)
  clear Cx3 Kax3
  clear hbw4 isw4
  go_wp2_with fail
  obtain ⟨x4, hx4⟩ : ∃ x4, x4 = w4.alloc (.cells #[.int .i64 2, .int .i64 1] 3) := ⟨_, rfl⟩
  have Bx4 : Below w4.heap.size w4 x4 := by rw [hx4]; exact (Below.refl _ _).alloc (Nat.le_refl _) _
  have ex4 : x4.heap[w4.heap.size]? = some (.cells #[.int .i64 2, .int .i64 1] 3 (0, 0)) := by rw [hx4]; exact heap_alloc_new w4 _
  have zx4 : x4.heap.size = w4.heap.size + 1 := by rw [hx4]; simp
  have Ix4 : Is .i64 x4 x4.heap.size (some ⟨w4.heap.size, 0, none⟩) [2, 1] := Is.lit (T := 3) ex4 (by omega)
  rw [← hx4]
  have Cx4 := Lib.hid (Cw4.out.on Bx4)
  have Kax4 := Lib.hid (Kaw4.out.nxt Bx4)
  clear Cw4 Kaw4
  clear hx4 ex4 Bx4
  refine (exM (some ⟨g1, 0, none⟩) (some ⟨w4.heap.size, 0, none⟩) 64 2 64 2 full [2, 1] 0 1 [] rfl rfl xE_d (mtL_bad (by rw [xE_d]; decide)) x4 Cx4.out.f Ix4 (by decide) (by decide)).mono ?_
  rintro e w5 ⟨Aw5, capw5, rfl, isw5, hbw5⟩
  have Cw5 := Lib.hid (Cx4.out.on hbw5)
  have Kaw5 := Lib.hid (Kax4.out.nxt hbw5)
  clear Cx4 Kax4
  clear hbw5 isw5
  go_wp2_with fail
  obtain ⟨x5, hx5⟩ : ∃ x5, x5 = w5.alloc (.cells #[.int .i64 1024] 3) := ⟨_, rfl⟩
  have Bx5 : Below w5.heap.size w5 x5 := by rw [hx5]; exact (Below.refl _ _).alloc (Nat.le_refl _) _
  have ex5 : x5.heap[w5.heap.size]? = some (.cells #[.int .i64 1024] 3 (0, 0)) := by rw [hx5]; exact heap_alloc_new w5 _
  have zx5 : x5.heap.size = w5.heap.size + 1 := by rw [hx5]; simp
  have Ix5 : Is .i64 x5 x5.heap.size (some ⟨w5.heap.size, 0, none⟩) [1024] := Is.lit (T := 3) ex5 (by omega)
  rw [← hx5]
  have Cx5 := Lib.hid (Cw5.out.on Bx5)
  have Kax5 := Lib.hid (Kaw5.out.nxt Bx5)
  clear Cw5 Kaw5
  clear hx5 ex5 Bx5
  refine (exM (some ⟨g1, 0, none⟩) (some ⟨w5.heap.size, 0, none⟩) 64 1 64 1 full [1024] 0 1 [] rfl rfl xE_e (mtL_bad (by rw [xE_e]; decide)) x5 Cx5.out.f Ix5 (by decide) (by decide)).mono ?_
  rintro e w6 ⟨Aw6, capw6, rfl, isw6, hbw6⟩
  have Cw6 := Lib.hid (Cx5.out.on hbw6)
  have Kaw6 := Lib.hid (Kax5.out.nxt hbw6)
  clear Cx5 Kax5
  clear hbw6 isw6
  go_wp2_with fail
  refine (exM (some ⟨g1, 0, none⟩) (some ⟨g1, 0, none⟩) 64 64 64 64 full full (-1) 1 [] rfl rfl xE_f (mtL_bad (by rw [xE_f]; decide)) w6 Cw6.out.f Cw6.out.f (by decide) (by decide)).mono ?_
  rintro e w7 ⟨Aw7, capw7, rfl, isw7, hbw7⟩
  have Cw7 := Lib.hid (Cw6.out.on hbw7)
  have Kaw7 := Lib.hid (Kaw6.out.nxt hbw7)
  clear Cw6 Kaw6
  clear hbw7 isw7
  go_wp2_with fail
  refine (exM (some ⟨g1, 0, none⟩) (some ⟨g1, 0, none⟩) 64 64 64 64 full full 1025 1 [] rfl rfl xE_g (mtL_bad (by rw [xE_g]; decide)) w7 Cw7.out.f Cw7.out.f (by decide) (by decide)).mono ?_
  rintro e w8 ⟨Aw8, capw8, rfl, isw8, hbw8⟩
  have Cw8 := Lib.hid (Cw7.out.on hbw8)
  have Kaw8 := Lib.hid (Kaw7.out.nxt hbw8)
  clear Cw7 Kaw7
  clear hbw8 isw8
  go_wp2_with fail
  obtain ⟨y1, hy1⟩ : ∃ y1, y1 = w8.alloc (.cells #[.int .i64 0] 3) := ⟨_, rfl⟩
  have By1 : Below w8.heap.size w8 y1 := by rw [hy1]; exact (Below.refl _ _).alloc (Nat.le_refl _) _
  have ey1 : y1.heap[w8.heap.size]? = some (.cells #[.int .i64 0] 3 (0, 0)) := by rw [hy1]; exact heap_alloc_new w8 _
  have zy1 : y1.heap.size = w8.heap.size + 1 := by rw [hy1]; simp
  have Iy1 : Is .i64 y1 y1.heap.size (some ⟨w8.heap.size, 0, none⟩) [0] := Is.lit (T := 3) ey1 (by omega)
  rw [← hy1]
  have Cy1 := Lib.hid (Cw8.out.on By1)
  have Kay1 := Lib.hid (Kaw8.out.nxt By1)
  clear Cw8 Kaw8
  obtain ⟨y2, hy2⟩ : ∃ y2, y2 = y1.alloc (.cells #[.int .i64 1023] 3) := ⟨_, rfl⟩
  have By2 : Below y1.heap.size y1 y2 := by rw [hy2]; exact (Below.refl _ _).alloc (Nat.le_refl _) _
  have ey2 : y2.heap[y1.heap.size]? = some (.cells #[.int .i64 1023] 3 (0, 0)) := by rw [hy2]; exact heap_alloc_new y1 _
  have zy2 : y2.heap.size = y1.heap.size + 1 := by rw [hy2]; simp
  have Iy2 : Is .i64 y2 y2.heap.size (some ⟨y1.heap.size, 0, none⟩) [1023] := Is.lit (T := 3) ey2 (by omega)
  have zz : y1.heap.size = w8.heap.size + 1 := zy1
  first | rw [← zz] | skip
  rw [← hy2]
  have Cy2 := Lib.hid (Cy1.out.on By2)
  have Kay2 := Lib.hid (Kay1.out.nxt By2)
  clear Cy1 Kay1
  have J1 := Iy1.nxt By2
  clear hy1 hy2 ey1 ey2 By1 By2 Iy1 zz
  refine (exM (some ⟨w8.heap.size, 0, none⟩) (some ⟨y1.heap.size, 0, none⟩) 1 1 1 1 [0] [1023] 1024 0 [(0, 0)] rfl rfl fE9 fL9 y2 J1 Iy2 (by decide) (by decide)).mono ?_
  rintro e w9 ⟨Aw9, capw9, rfl, isw9, hbw9⟩
  have Cw9 := Lib.hid (Cy2.out.on hbw9)
  have Kaw9 := Lib.hid (Kay2.out.nxt hbw9)
  clear Cy2 Kay2
  have Khw9 := Lib.hid isw9
  clear hbw9 isw9
  go_wp2_with fail
  refine (exF none 0 0 [] (-1) 3 [] rfl xE_i xL_i w9 RIs.nil (by decide) (fun r hr => by simp at hr)).mono ?_
  rintro e w10 ⟨Aw10, capw10, rfl, isw10, hbw10⟩
  have Cw10 := Lib.hid (Cw9.out.on hbw10)
  have Kaw10 := Lib.hid (Kaw9.out.nxt hbw10)
  have Khw10 := Lib.hid (Khw9.out.nxt hbw10)
  clear Cw9 Kaw9 Khw9
  clear hbw10 isw10
  have hmr9 := Hmr.out.1
  go_wp2_with fail
  clear hmr9
  obtain ⟨m17, hm17⟩ : ∃ m17, m17 = w10.alloc (.cells (madeCells #[.slice none 0 0] 17) 22) := ⟨_, rfl⟩
  have Bm17 : Below w10.heap.size w10 m17 := by rw [hm17]; exact (Below.refl _ _).alloc (Nat.le_refl _) _
  have Rm17 : RIs .i64 m17 m17.heap.size (some ⟨w10.heap.size, 0, none⟩) (List.replicate 17 []) := by rw [hm17]; have := RIs.made w10 17; exact this.mono (by simp)
  rw [← hm17]
  have Cm17 := Lib.hid (Cw10.out.on Bm17)
  have Kam17 := Lib.hid (Kaw10.out.nxt Bm17)
  have Khm17 := Lib.hid (Khw10.out.nxt Bm17)
  clear Cw10 Kaw10 Khw10
  clear hm17 Bm17
  refine (exF (some ⟨w10.heap.size, 0, none⟩) 17 17 (List.replicate 17 []) (-1) 4 [] rfl xE_j xL_j m17 Rm17 (by decide) (fun r _ => by rw [row_rep]; decide)).mono ?_
  rintro e w11 ⟨Aw11, capw11, rfl, isw11, hbw11⟩
  have Cw11 := Lib.hid (Cm17.out.on hbw11)
  have Kaw11 := Lib.hid (Kam17.out.nxt hbw11)
  have Khw11 := Lib.hid (Khm17.out.nxt hbw11)
  clear Cm17 Kam17 Khm17
  clear hbw11 isw11
  have hmr9 := Hmr.out.2
  go_wp2_with fail
  clear hmr9
  obtain ⟨m16, hm16⟩ : ∃ m16, m16 = w11.alloc (.cells (madeCells #[.slice none 0 0] 16) 22) := ⟨_, rfl⟩
  have Bm16 : Below w11.heap.size w11 m16 := by rw [hm16]; exact (Below.refl _ _).alloc (Nat.le_refl _) _
  have Rm16 : RIs .i64 m16 m16.heap.size (some ⟨w11.heap.size, 0, none⟩) (List.replicate 16 []) := by rw [hm16]; have := RIs.made w11 16; exact this.mono (by simp)
  rw [← hm16]
  have Cm16 := Lib.hid (Cw11.out.on Bm16)
  have Kam16 := Lib.hid (Kaw11.out.nxt Bm16)
  have Khm16 := Lib.hid (Khw11.out.nxt Bm16)
  clear Cw11 Kaw11 Khw11
  clear hm16 Bm16
  refine (exF (some ⟨w11.heap.size, 0, none⟩) 16 16 (List.replicate 16 []) 0 0 [] rfl xE_k xL_k m16 Rm16 (by decide) (fun r _ => by rw [row_rep]; decide)).mono ?_
  rintro e w12 ⟨Aw12, capw12, rfl, isw12, hbw12⟩
  have Cw12 := Lib.hid (Cm16.out.on hbw12)
  have Kaw12 := Lib.hid (Kam16.out.nxt hbw12)
  have Khw12 := Lib.hid (Khm16.out.nxt hbw12)
  clear Cm16 Kam16 Khm16
  clear hbw12 isw12
  go_wp2_with fail
  obtain ⟨p1, hp1⟩ : ∃ p1, p1 = w12.alloc (.cells #[.int .i64 1] 3) := ⟨_, rfl⟩
  have Bp1 : Below w12.heap.size w12 p1 := by rw [hp1]; exact (Below.refl _ _).alloc (Nat.le_refl _) _
  have ep1 : p1.heap[w12.heap.size]? = some (.cells #[.int .i64 1] 3 (0, 0)) := by rw [hp1]; exact heap_alloc_new w12 _
  have zp1 : p1.heap.size = w12.heap.size + 1 := by rw [hp1]; simp
  have Ip1 : Is .i64 p1 p1.heap.size (some ⟨w12.heap.size, 0, none⟩) [1] := Is.lit (T := 3) ep1 (by omega)
  rw [← hp1]
  have Cp1 := Lib.hid (Cw12.out.on Bp1)
  have Kap1 := Lib.hid (Kaw12.out.nxt Bp1)
  have Khp1 := Lib.hid (Khw12.out.nxt Bp1)
  clear Cw12 Kaw12 Khw12
  first | rw [← zp1] | skip
  obtain ⟨p2, hp2⟩ : ∃ p2, p2 = p1.alloc (.cells #[.int .i64 (-1)] 3) := ⟨_, rfl⟩
  have Bp2 : Below p1.heap.size p1 p2 := by rw [hp2]; exact (Below.refl _ _).alloc (Nat.le_refl _) _
  have ep2 : p2.heap[p1.heap.size]? = some (.cells #[.int .i64 (-1)] 3 (0, 0)) := by rw [hp2]; exact heap_alloc_new p1 _
  have zp2 : p2.heap.size = p1.heap.size + 1 := by rw [hp2]; simp
  have Ip2 : Is .i64 p2 p2.heap.size (some ⟨p1.heap.size, 0, none⟩) [-1] := Is.lit (T := 3) ep2 (by omega)
  rw [← hp2]
  have Cp2 := Lib.hid (Cp1.out.on Bp2)
  have Kap2 := Lib.hid (Kap1.out.nxt Bp2)
  have Khp2 := Lib.hid (Khp1.out.nxt Bp2)
  clear Cp1 Kap1 Khp1
  first | rw [← zp2] | (rw [zp1] at zp2; rw [← zp2]) | skip
  obtain ⟨p3, hp3⟩ : ∃ p3, p3 = p2.alloc (.cells #[.slice (some ⟨w12.heap.size, 0, none⟩) 1 1, .slice (some ⟨g2, 0, none⟩) 65 65, .slice (some ⟨p1.heap.size, 0, none⟩) 1 1] 22) := ⟨_, rfl⟩
  have Bp3 : Below p2.heap.size p2 p3 := by rw [hp3]; exact (Below.refl _ _).alloc (Nat.le_refl _) _
  have ep3 : p3.heap[p2.heap.size]? = some (.cells #[.slice (some ⟨w12.heap.size, 0, none⟩) 1 1, .slice (some ⟨g2, 0, none⟩) 65 65, .slice (some ⟨p1.heap.size, 0, none⟩) 1 1] 22 (0, 0)) := by rw [hp3]; exact heap_alloc_new p2 _
  have zp3 : p3.heap.size = p2.heap.size + 1 := by rw [hp3]; simp
  rw [← hp3]
  have Cp3 := Lib.hid (Cp2.out.on Bp3)
  have Kap3 := Lib.hid (Kap2.out.nxt Bp3)
  have Khp3 := Lib.hid (Khp2.out.nxt Bp3)
  clear Cp2 Kap2 Khp2
  have R3 : RIs .i64 p3 p3.heap.size (some ⟨p2.heap.size, 0, none⟩) [[1], over, [-1]] := RIs.three (T := 22) rfl rfl rfl ((Ip1.nxt Bp2).nxt Bp3) Cp3.out.o (Ip2.nxt Bp3) ep3
  clear hp1 hp2 hp3 ep1 ep2 ep3 Bp1 Bp2 Bp3 Ip1 Ip2
  refine (exF (some ⟨p2.heap.size, 0, none⟩) 3 3 [[1], over, [-1]] (-1) 4 [] rfl xE_l xL_l p3 R3 (by decide) (fun r hr => by have hr' : r < 3 := hr; rcases (by omega : r = 0 ∨ r = 1 ∨ r = 2) with rfl | rfl | rfl <;> decide)).mono ?_
  rintro e w13 ⟨Aw13, capw13, rfl, isw13, hbw13⟩
  have Cw13 := Lib.hid (Cp3.out.on hbw13)
  have Kaw13 := Lib.hid (Kap3.out.nxt hbw13)
  have Khw13 := Lib.hid (Khp3.out.nxt hbw13)
  clear Cp3 Kap3 Khp3
  clear hbw13 isw13
  go_wp2_with fail
  obtain ⟨q0, hq0⟩ : ∃ q0, q0 = w13.alloc (.cells #[.int .i64 1] 3) := ⟨_, rfl⟩
  have Bq0 : Below w13.heap.size w13 q0 := by rw [hq0]; exact (Below.refl _ _).alloc (Nat.le_refl _) _
  have eq0 : q0.heap[w13.heap.size]? = some (.cells #[.int .i64 1] 3 (0, 0)) := by rw [hq0]; exact heap_alloc_new w13 _
  have zq0 : q0.heap.size = w13.heap.size + 1 := by rw [hq0]; simp
  have Iq0 : Is .i64 q0 q0.heap.size (some ⟨w13.heap.size, 0, none⟩) [1] := Is.lit (T := 3) eq0 (by omega)
  rw [← hq0]
  have Cq0 := Lib.hid (Cw13.out.on Bq0)
  have Kaq0 := Lib.hid (Kaw13.out.nxt Bq0)
  have Khq0 := Lib.hid (Khw13.out.nxt Bq0)
  clear Cw13 Kaw13 Khw13
  first | rw [← zq0] | skip
  obtain ⟨r0, hr0⟩ : ∃ r0, r0 = q0.alloc (.cells #[.slice (some ⟨w13.heap.size, 0, none⟩) 1 1] 22) := ⟨_, rfl⟩
  have Br0 : Below q0.heap.size q0 r0 := by rw [hr0]; exact (Below.refl _ _).alloc (Nat.le_refl _) _
  have er0 : r0.heap[q0.heap.size]? = some (.cells #[.slice (some ⟨w13.heap.size, 0, none⟩) 1 1] 22 (0, 0)) := by rw [hr0]; exact heap_alloc_new q0 _
  have zr0 : r0.heap.size = q0.heap.size + 1 := by rw [hr0]; simp
  rw [← hr0]
  have Cr0 := Lib.hid (Cq0.out.on Br0)
  have Kar0 := Lib.hid (Kaq0.out.nxt Br0)
  have Khr0 := Lib.hid (Khq0.out.nxt Br0)
  clear Cq0 Kaq0 Khq0
  have Rr0 : RIs .i64 r0 r0.heap.size (some ⟨q0.heap.size, 0, none⟩) [[1]] := RIs.one (T := 22) rfl (Iq0.nxt Br0) er0
  clear hq0 hr0 eq0 er0 Bq0 Br0 Iq0
  refine (exF (some ⟨q0.heap.size, 0, none⟩) 1 1 [[1]] (-1) 1 [] rfl xE_m xL_m r0 Rr0 (by decide) (fun r hr => by have hr' : r < 1 := hr; rcases (by omega : r = 0) with rfl; decide)).mono ?_
  rintro e w14 ⟨Aw14, capw14, rfl, isw14, hbw14⟩
  have Cw14 := Lib.hid (Cr0.out.on hbw14)
  have Kaw14 := Lib.hid (Kar0.out.nxt hbw14)
  have Khw14 := Lib.hid (Khr0.out.nxt hbw14)
  clear Cr0 Kar0 Khr0
  clear hbw14 isw14
  go_wp2_with fail
  obtain ⟨q1, hq1⟩ : ∃ q1, q1 = w14.alloc (.cells #[.int .i64 1] 3) := ⟨_, rfl⟩
  have Bq1 : Below w14.heap.size w14 q1 := by rw [hq1]; exact (Below.refl _ _).alloc (Nat.le_refl _) _
  have eq1 : q1.heap[w14.heap.size]? = some (.cells #[.int .i64 1] 3 (0, 0)) := by rw [hq1]; exact heap_alloc_new w14 _
  have zq1 : q1.heap.size = w14.heap.size + 1 := by rw [hq1]; simp
  have Iq1 : Is .i64 q1 q1.heap.size (some ⟨w14.heap.size, 0, none⟩) [1] := Is.lit (T := 3) eq1 (by omega)
  rw [← hq1]
  have Cq1 := Lib.hid (Cw14.out.on Bq1)
  have Kaq1 := Lib.hid (Kaw14.out.nxt Bq1)
  have Khq1 := Lib.hid (Khw14.out.nxt Bq1)
  clear Cw14 Kaw14 Khw14
  first | rw [← zq1] | skip
  obtain ⟨r1, hr1⟩ : ∃ r1, r1 = q1.alloc (.cells #[.slice (some ⟨w14.heap.size, 0, none⟩) 1 1] 22) := ⟨_, rfl⟩
  have Br1 : Below q1.heap.size q1 r1 := by rw [hr1]; exact (Below.refl _ _).alloc (Nat.le_refl _) _
  have er1 : r1.heap[q1.heap.size]? = some (.cells #[.slice (some ⟨w14.heap.size, 0, none⟩) 1 1] 22 (0, 0)) := by rw [hr1]; exact heap_alloc_new q1 _
  have zr1 : r1.heap.size = q1.heap.size + 1 := by rw [hr1]; simp
  rw [← hr1]
  have Cr1 := Lib.hid (Cq1.out.on Br1)
  have Kar1 := Lib.hid (Kaq1.out.nxt Br1)
  have Khr1 := Lib.hid (Khq1.out.nxt Br1)
  clear Cq1 Kaq1 Khq1
  have Rr1 : RIs .i64 r1 r1.heap.size (some ⟨q1.heap.size, 0, none⟩) [[1]] := RIs.one (T := 22) rfl (Iq1.nxt Br1) er1
  clear hq1 hr1 eq1 er1 Bq1 Br1 Iq1
  refine (exS (some ⟨q1.heap.size, 0, none⟩) 1 1 [[1]] 0 0 1 [] rfl xE_n xL_n r1 Rr1 (by decide) (fun r hr => by have hr' : r < 1 := hr; rcases (by omega : r = 0) with rfl; decide)).mono ?_
  rintro e w15 ⟨Aw15, capw15, rfl, isw15, hbw15⟩
  have Cw15 := Lib.hid (Cr1.out.on hbw15)
  have Kaw15 := Lib.hid (Kar1.out.nxt hbw15)
  have Khw15 := Lib.hid (Khr1.out.nxt hbw15)
  clear Cr1 Kar1 Khr1
  clear hbw15 isw15
  go_wp2_with fail
  obtain ⟨q2, hq2⟩ : ∃ q2, q2 = w15.alloc (.cells #[.int .i64 1] 3) := ⟨_, rfl⟩
  have Bq2 : Below w15.heap.size w15 q2 := by rw [hq2]; exact (Below.refl _ _).alloc (Nat.le_refl _) _
  have eq2 : q2.heap[w15.heap.size]? = some (.cells #[.int .i64 1] 3 (0, 0)) := by rw [hq2]; exact heap_alloc_new w15 _
  have zq2 : q2.heap.size = w15.heap.size + 1 := by rw [hq2]; simp
  have Iq2 : Is .i64 q2 q2.heap.size (some ⟨w15.heap.size, 0, none⟩) [1] := Is.lit (T := 3) eq2 (by omega)
  rw [← hq2]
  have Cq2 := Lib.hid (Cw15.out.on Bq2)
  have Kaq2 := Lib.hid (Kaw15.out.nxt Bq2)
  have Khq2 := Lib.hid (Khw15.out.nxt Bq2)
  clear Cw15 Kaw15 Khw15
  first | rw [← zq2] | skip
  obtain ⟨r2, hr2⟩ : ∃ r2, r2 = q2.alloc (.cells #[.slice (some ⟨w15.heap.size, 0, none⟩) 1 1] 22) := ⟨_, rfl⟩
  have Br2 : Below q2.heap.size q2 r2 := by rw [hr2]; exact (Below.refl _ _).alloc (Nat.le_refl _) _
  have er2 : r2.heap[q2.heap.size]? = some (.cells #[.slice (some ⟨w15.heap.size, 0, none⟩) 1 1] 22 (0, 0)) := by rw [hr2]; exact heap_alloc_new q2 _
  have zr2 : r2.heap.size = q2.heap.size + 1 := by rw [hr2]; simp
  rw [← hr2]
  have Cr2 := Lib.hid (Cq2.out.on Br2)
  have Kar2 := Lib.hid (Kaq2.out.nxt Br2)
  have Khr2 := Lib.hid (Khq2.out.nxt Br2)
  clear Cq2 Kaq2 Khq2
  have Rr2 : RIs .i64 r2 r2.heap.size (some ⟨q2.heap.size, 0, none⟩) [[1]] := RIs.one (T := 22) rfl (Iq2.nxt Br2) er2
  clear hq2 hr2 eq2 er2 Bq2 Br2 Iq2
  refine (exS (some ⟨q2.heap.size, 0, none⟩) 1 1 [[1]] 0 2 1 [] rfl xE_o xL_o r2 Rr2 (by decide) (fun r hr => by have hr' : r < 1 := hr; rcases (by omega : r = 0) with rfl; decide)).mono ?_
  rintro e w16 ⟨Aw16, capw16, rfl, isw16, hbw16⟩
  have Cw16 := Lib.hid (Cr2.out.on hbw16)
  have Kaw16 := Lib.hid (Kar2.out.nxt hbw16)
  have Khw16 := Lib.hid (Khr2.out.nxt hbw16)
  clear Cr2 Kar2 Khr2
  clear hbw16 isw16
  go_wp2_with fail
  obtain ⟨q3, hq3⟩ : ∃ q3, q3 = w16.alloc (.cells #[.int .i64 1] 3) := ⟨_, rfl⟩
  have Bq3 : Below w16.heap.size w16 q3 := by rw [hq3]; exact (Below.refl _ _).alloc (Nat.le_refl _) _
  have eq3 : q3.heap[w16.heap.size]? = some (.cells #[.int .i64 1] 3 (0, 0)) := by rw [hq3]; exact heap_alloc_new w16 _
  have zq3 : q3.heap.size = w16.heap.size + 1 := by rw [hq3]; simp
  have Iq3 : Is .i64 q3 q3.heap.size (some ⟨w16.heap.size, 0, none⟩) [1] := Is.lit (T := 3) eq3 (by omega)
  rw [← hq3]
  have Cq3 := Lib.hid (Cw16.out.on Bq3)
  have Kaq3 := Lib.hid (Kaw16.out.nxt Bq3)
  have Khq3 := Lib.hid (Khw16.out.nxt Bq3)
  clear Cw16 Kaw16 Khw16
  first | rw [← zq3] | skip
  obtain ⟨r3, hr3⟩ : ∃ r3, r3 = q3.alloc (.cells #[.slice (some ⟨w16.heap.size, 0, none⟩) 1 1] 22) := ⟨_, rfl⟩
  have Br3 : Below q3.heap.size q3 r3 := by rw [hr3]; exact (Below.refl _ _).alloc (Nat.le_refl _) _
  have er3 : r3.heap[q3.heap.size]? = some (.cells #[.slice (some ⟨w16.heap.size, 0, none⟩) 1 1] 22 (0, 0)) := by rw [hr3]; exact heap_alloc_new q3 _
  have zr3 : r3.heap.size = q3.heap.size + 1 := by rw [hr3]; simp
  rw [← hr3]
  have Cr3 := Lib.hid (Cq3.out.on Br3)
  have Kar3 := Lib.hid (Kaq3.out.nxt Br3)
  have Khr3 := Lib.hid (Khq3.out.nxt Br3)
  clear Cq3 Kaq3 Khq3
  have Rr3 : RIs .i64 r3 r3.heap.size (some ⟨q3.heap.size, 0, none⟩) [[1]] := RIs.one (T := 22) rfl (Iq3.nxt Br3) er3
  clear hq3 hr3 eq3 er3 Bq3 Br3 Iq3
  refine (exS (some ⟨q3.heap.size, 0, none⟩) 1 1 [[1]] 0 1 0 [0] rfl xE_p xL_p r3 Rr3 (by decide) (fun r hr => by have hr' : r < 1 := hr; rcases (by omega : r = 0) with rfl; decide)).mono ?_
  rintro e w17 ⟨Aw17, capw17, rfl, isw17, hbw17⟩
  have Cw17 := Lib.hid (Cr3.out.on hbw17)
  have Kaw17 := Lib.hid (Kar3.out.nxt hbw17)
  have Khw17 := Lib.hid (Khr3.out.nxt hbw17)
  clear Cr3 Kar3 Khr3
  have Kpw17 := Lib.hid isw17
  clear hbw17 isw17
  obtain ⟨bl, ol, rfl, hbl, hcl⟩ := Kaw17.out (by decide)
  have a1 := hcl 126 (by decide)
  have a2 := hcl 127 (by decide)
  rw [show nth (flat fullL) 126 = 63 by decide] at a1
  rw [show nth (flat fullL) 127 = 63 by decide] at a2
  clear hcl
  have hfl : fullL.length = 64 := by decide
  go_wp2_with fail
  clear a1 a2
  obtain ⟨v, hv⟩ : ∃ v, v = w17.alloc (.cells #[.int .i64 0] 3) := ⟨_, rfl⟩
  have Bv : Below w17.heap.size w17 v := by rw [hv]; exact (Below.refl _ _).alloc (Nat.le_refl _) _
  have ev : v.heap[w17.heap.size]? = some (.cells #[.int .i64 0] 3 (0, 0)) := by rw [hv]; exact heap_alloc_new w17 _
  have zv : v.heap.size = w17.heap.size + 1 := by rw [hv]; simp
  have Iv : Is .i64 v v.heap.size (some ⟨w17.heap.size, 0, none⟩) [0] := Is.lit (T := 3) ev (by omega)
  rw [← hv]
  have Bv2 : Below w.heap.size w v := Cw17.out.b.trans (Bv.mono Cw17.out.b.size)
  have E := Lib.hid (equalInts Aw17 (some ⟨w17.heap.size, 0, none⟩) capw17 1 [0] [0] v.heap.size v (Kpw17.out.nxt Bv) Iv (by decide))
  clear hv ev Iv Bv
  refine E.out.mono ?_
  rintro e we ⟨rfl, n9, rfl⟩
  go_wp2_with fail
  go_ret
  exact ⟨by simp, below_drewN Bv2 n9⟩

namespace fruitExamplesRow
open Go.ChangeShapes Go.WideShapes Go.ChangeAt Go.RowKit
open Go.ChangeMaps (open_string shut_string)
set_option linter.unusedVariables false
theorem own : ownKnob Try.prog.godebug = none := by kernel_rfl
theorem laidOut : laidOutB Try.prog = true := by kernel_rfl
set_option maxRecDepth 100000 in
theorem lifted (os : Os) (started : os.Started) (H : Type) (enc : TypeId × Value → H) :
    ReturnsInHanded {} Try.checked os 9 .any (Rows.fruitExamplesSpec.pre6 enc Try.prog Try.f9 Rows.fruitExamplesRow.domain false) (Rows.fruitExamplesSpec.post enc Try.prog Try.f9 false true false false) := by
  refine returnsInHanded_of_change (C := Try.checked) own started (by kernel_rfl) Try.func9
    (ChangeSpec.witness6 (enc := enc) (C := Try.checked) false ⟨#[], #[], []⟩ 8 (by kernel_rfl) (by kernel_rfl) (by kernel_rfl) (by kernel_rfl)) ?_
  intro W base args ds gs before hval0 hW hcnd _hsz
  have hval : ∀ (j : Nat) t v, Try.f9.params[j]? = some t → args[j]? = some v → Value.okWide Try.prog W .any base t v := hval0
  have hW' := hW
  obtain ⟨p, q, hA0, hV, rfl, hfz, hnd⟩ := hW
  have hA : DataW.TrodAll enc Try.prog W 0 (fun _ => true) true Try.f9.params.toList args.toList ds p := hA0
  obtain ⟨rfl, rfl, rfl⟩ := trodAll_none hA
  obtain ⟨rfl, rfl⟩ := trodVars_none hV
  clear hA0 hval0
  refine (frExamples  W).mono fun e W' ⟨he, bel⟩ => ?_
  subst he
  exact ⟨_, rfl, _, _, _, [], _, [], hW', trodAll_mk1 (shut_bool Try.underlying4 _), trodAll_mk0, rfl, bel.frame _, fun h => by cases h⟩

theorem over : Rows.fruitExamplesRow.holds Try.pinned (OpenSpec.ofChange Rows.fruitExamplesSpec) :=
  OpenClaim.holds_of_wide 9 Try.f9 rfl rfl rfl rfl rfl rfl rfl ⟨rfl, rfl, rfl, rfl, rfl⟩ rfl rfl rfl rfl rfl (by kernel_rfl) Try.func9 (by kernel_rfl)
    (of_decide_eq_true (by kernel_rfl)) (by unfold Func.isWrapper; first | (rw [if_pos (by decide +kernel)]; kernel_rfl) | (rw [if_neg (by decide +kernel)]; exact ⟨rfl, rfl⟩))
    (fun os started H enc _ => lifted os started H enc)
theorem proved : Rows.FruitExamplesSaid := over
end fruitExamplesRow
end Go.Proofs.Ytmkpblfacnnnoaa
