/- The laws of chapter 13: planned, and the chapter's examples. -/
import Derived.Test.YtlbchidgadcmpaaRows
import Derived.WalkKit
import Derived.WalkLawsBesides
import Derived.WalkSpells
import Derived.ProofKit
import Derived.Below
import Derived.Outline
import Derived.Lib.Hide
import Derived.Deep.RegionWith
import Derived.Deep.RegionHeld3
import Derived.Deep.DrawnRows
import Derived.StillTailTactics
import Derived.BigQuiet
import Derived.Deep.QuietTactic
import Derived.Deep.LoopGhost
import Derived.IntWalk
import Derived.Test.YtlbchidgadcmpaaWhK
namespace Go.Proofs.Ytlbchidgadcmpaa
open Go.RowKit
attribute [local go_sem ↓] Go.wp_at_zero Go.wp_at_succ
attribute [local go_sem] wrap_lit

theorem Nx_eq {P : Nat → Nat → Bool} (hP : Anti P) {x y : Nat} (hx : x < 255) (hy : x < y) (hy2 : y ≤ 255) (h1 : F P y + 1 = F P x) (h2 : F P (y - 1) = F P x) : Nx P x = y := by
  obtain ⟨a, b, c, -, d⟩ := Nx_spec hP hx
  rcases Nat.lt_trichotomy (Nx P x) y with g | g | g
  · have := F_anti hP _ (Nx P x) (y - 1) (Nat.le_refl _) (by omega) (by omega)
    omega
  · exact g
  · exact absurd h1 (d y hy g)
theorem Pl_to {P : Nat → Nat → Bool} (hP : Anti P) {x y : Nat} (hx : x < 255) (hy : x < y) (hy2 : y ≤ 255) (h1 : F P y + 1 = F P x) (h2 : F P (y - 1) = F P x) : Pl P x = (x, y) :: Pl P y := by
  rw [Pl_in P hx, Nx_eq hP hx hy hy2 h1 h2]
theorem fits_pl {xs : List Int} {most : Int} (h : plE xs most = 0) : Anti (Al xs most) := Al_anti (fits_of (plE_ok.1 h).2.2.1)
def lst (a : List Int) : Nat → Int
  | 0 => 0
  | k + 1 => nth a k
theorem planned29 (A A' : Option Addr) (cap cap' : Nat) (xs hs : List Int) (most : Int) (l : List (Int × Int)) (B : Nat) (w : World) (hB : B ≤ w.heap.size) (hA : Is .i64 w B A xs) (hA' : Is .i64 w B A' hs) (hl : xs.length ≤ 1000000) (hE : plE xs most = 0) (hL : plL xs most = l) (hhs : hs.length = l.length) (hl2 : l.length ≤ 1000)
    (hch : ∀ k, k < l.length → stl l k = lst hs k ∧ sth l k = nth hs k) :
    Calls Try.prog 29 #[.slice A xs.length cap, .int .i64 most, .slice A' hs.length cap'] w fun e w' => e = .returned (.bool true) ∧ Below w.heap.size w w' := by
  have C := plan25 A cap xs most B w hB hA hl
  rw [hE, hL] at C
  have C := Lib.hid C
  have HA' := Lib.hid hA'
  have HCh := Lib.hid hch
  have hhb : ((l.length : Int) != (hs.length : Int)) = false := by simp [hhs]
  have hI : (l.length : Int) ≤ (hs.length : Int) := by omega
  have hI2 : (hs.length : Int) ≤ (l.length : Int) := by omega
  have Hhs := Lib.hid hhs
  clear hE hL hA hA' hch hhs
  go_enter Try.func29, Try.ntmps29
  go_wp2_with fail
  refine C.out.mono ?_
  rintro e w1 ⟨v, rfl, hv, hb1⟩
  obtain ⟨A5, C5, rfl, hown⟩ := hv.own
  have HI := Lib.hid hown.is
  have HB := Lib.hid hb1
  have HA1 := Lib.hid (HA'.out.below (hb1.mono hB))
  clear hv hown hb1 C HA'
  go_wp2_with fail
  go_loopw [9, 10] (fun lo i wr => ∃ k : Nat, k ≤ l.length ∧ i = .int .i64 k ∧ lo = .int .i64 (lst hs k) ∧ DrN w1 wr) (fun _ i _ => l.length - (intOf i).toNat)
  case atStart => exact ⟨0, Nat.zero_le _, rfl, rfl, DrN.refl _⟩
  case round =>
    obtain ⟨k, hk, rfl, rfl, hD⟩ := hrel
    have HD := Lib.hid hD
    by_cases hlt : k < l.length
    · obtain ⟨b, off, rfl, hbb, c1, c2⟩ := step_at (hD.is HI.out) hlt
      obtain ⟨b', off', rfl, hbb', hc'⟩ := (hD.is HA1.out) (by have := Hhs.out; omega)
      have c3 := hc' k (by have := Hhs.out; omega)
      obtain ⟨e1, e2⟩ := HCh.out k hlt
      rw [e1] at c1
      rw [e2] at c2
      have hst := Lib.hid (show lst hs (k + 1) = nth hs k from rfl)
      obtain ⟨x, hx⟩ : ∃ x, x = lst hs k := ⟨_, rfl⟩
      obtain ⟨y, hy⟩ : ∃ y, y = nth hs k := ⟨_, rfl⟩
      rw [← hx] at c1 ⊢
      rw [← hy] at c2 c3
      have HY := Lib.hid hy
      have hkI : (k : Int) < (l.length : Int) := by omega
      have hkI2 : (k : Int) < (hs.length : Int) := by omega
      have hk0 : (0 : Int) ≤ (k : Int) := by omega
      clear hc' e1 e2 hx hy hD
      go_wp2_with fail
      go_quiet (fail)
      go_wp2_with fail
      exact ⟨⟨k + 1, by omega, by go_num, by rw [hst.out, ← HY.out], HD.out.on _⟩, by simp [intOf]; omega⟩
    · obtain rfl : k = l.length := by omega
      clear hD
      go_wp2_with fail
      go_ret
      exact ⟨rfl, HB.out.trans (HD.out.below.mono HB.out.size)⟩

def X4 : List Int := [10, 20, 20, 200]
def S3 : List (Int × Int) := [(0, 10), (10, 100), (100, 255)]
def S4 : List (Int × Int) := [(0, 10), (10, 255), (200, 255)]
theorem xR : rpE S3 X4 = 0 := by decide
theorem xRL : rpL S3 X4 = [[0], [1, 2], [3]] := by rw [rpL_ok xR]; decide
theorem xW : wsV S3 X4 = 2 := by unfold wsV; rw [xRL]; decide
theorem xC3 : ckT S3 = 0 := by decide
theorem xC4 : ckT S4 = 0 := by decide
set_option maxRecDepth 100000 in
theorem xT3 : tlB S3 = true := by decide +kernel
set_option maxRecDepth 100000 in
theorem xT4 : tlB S4 = false := by decide +kernel
set_option maxRecDepth 100000 in
theorem xP1 : plE X4 1 = 9 := by decide +kernel
set_option maxRecDepth 100000 in
theorem xPE2 : plE X4 2 = 0 := by decide +kernel
set_option maxRecDepth 100000 in
theorem xF2_0 : F (Al X4 2) 0 = 3 := by decide +kernel
set_option maxRecDepth 100000 in
theorem xF2_10 : F (Al X4 2) 10 = 2 := by decide +kernel
set_option maxRecDepth 100000 in
theorem xF2_20 : F (Al X4 2) 20 = 1 := by decide +kernel
set_option maxRecDepth 100000 in
theorem xF2_255 : F (Al X4 2) 255 = 0 := by decide +kernel
set_option maxRecDepth 100000 in
theorem xG2_10 : F (Al X4 2) (10 - 1) = 3 := by decide +kernel
set_option maxRecDepth 100000 in
theorem xG2_20 : F (Al X4 2) (20 - 1) = 2 := by decide +kernel
set_option maxRecDepth 100000 in
theorem xG2_255 : F (Al X4 2) (255 - 1) = 1 := by decide +kernel
theorem xPL2 : plL X4 2 = [(0, 10), (10, 20), (20, 255)] := by
  have hP := fits_pl xPE2
  rw [plL_ok xPE2, Pl_to hP (x := 0) (y := 10) (by decide) (by decide) (by decide) (by rw [xF2_0, xF2_10]) (by rw [xG2_10, xF2_0]), Pl_to hP (x := 10) (y := 20) (by decide) (by decide) (by decide) (by rw [xF2_10, xF2_20]) (by rw [xG2_20, xF2_10]), Pl_to hP (x := 20) (y := 255) (by decide) (by decide) (by decide) (by rw [xF2_20, xF2_255]) (by rw [xG2_255, xF2_20]), Pl_end]
  rfl
set_option maxRecDepth 100000 in
theorem xPE3 : plE X4 3 = 0 := by decide +kernel
set_option maxRecDepth 100000 in
theorem xF3_0 : F (Al X4 3) 0 = 2 := by decide +kernel
set_option maxRecDepth 100000 in
theorem xF3_10 : F (Al X4 3) 10 = 1 := by decide +kernel
set_option maxRecDepth 100000 in
theorem xF3_255 : F (Al X4 3) 255 = 0 := by decide +kernel
set_option maxRecDepth 100000 in
theorem xG3_10 : F (Al X4 3) (10 - 1) = 2 := by decide +kernel
set_option maxRecDepth 100000 in
theorem xG3_255 : F (Al X4 3) (255 - 1) = 1 := by decide +kernel
theorem xPL3 : plL X4 3 = [(0, 10), (10, 255)] := by
  have hP := fits_pl xPE3
  rw [plL_ok xPE3, Pl_to hP (x := 0) (y := 10) (by decide) (by decide) (by decide) (by rw [xF3_0, xF3_10]) (by rw [xG3_10, xF3_0]), Pl_to hP (x := 10) (y := 255) (by decide) (by decide) (by decide) (by rw [xF3_10, xF3_255]) (by rw [xG3_255, xF3_10]), Pl_end]
  rfl
set_option maxRecDepth 100000 in
theorem xPE4 : plE X4 4 = 0 := by decide +kernel
set_option maxRecDepth 100000 in
theorem xF4_0 : F (Al X4 4) 0 = 1 := by decide +kernel
set_option maxRecDepth 100000 in
theorem xF4_255 : F (Al X4 4) 255 = 0 := by decide +kernel
set_option maxRecDepth 100000 in
theorem xG4_255 : F (Al X4 4) (255 - 1) = 1 := by decide +kernel
theorem xPL4 : plL X4 4 = [(0, 255)] := by
  have hP := fits_pl xPE4
  rw [plL_ok xPE4, Pl_to hP (x := 0) (y := 255) (by decide) (by decide) (by decide) (by rw [xF4_0, xF4_255]) (by rw [xG4_255, xF4_0]), Pl_end]
  rfl
theorem RIs.three {W : World} {g0 g1 g2 g : Nat} {xs ys zs : List Int} {c d f n m q : Nat} {T : TypeId} (hn : xs.length = n) (hm : ys.length = m) (hq : zs.length = q) (h0 : Is .i64 W W.heap.size (some ⟨g0, 0, none⟩) xs) (h1 : Is .i64 W W.heap.size (some ⟨g1, 0, none⟩) ys) (h2 : Is .i64 W W.heap.size (some ⟨g2, 0, none⟩) zs) (h3 : W.heap[g]? = some (.cells #[.slice (some ⟨g0, 0, none⟩) n c, .slice (some ⟨g1, 0, none⟩) m d, .slice (some ⟨g2, 0, none⟩) q f] T (0, 0))) : RIs .i64 W W.heap.size (some ⟨g, 0, none⟩) [xs, ys, zs] := fun _ => by
  subst hn; subst hm; subst hq
  refine ⟨g, 0, rfl, heap_lt h3, fun r hr => ?_⟩
  have hr' : r < 3 := hr
  rcases (by omega : r = 0 ∨ r = 1 ∨ r = 2) with rfl | rfl | rfl
  · exact ⟨_, c, by simp [World.cell?, h3]; rfl, h0⟩
  · exact ⟨_, d, by simp [World.cell?, h3]; rfl, h1⟩
  · exact ⟨_, f, by simp [World.cell?, h3]; rfl, h2⟩

theorem RIs.nxt {W W1 : World} {A : Option Addr} {xss : List (List Int)} (h : RIs .i64 W W.heap.size A xss) (hb : Below W.heap.size W W1) : RIs .i64 W1 W1.heap.size A xss := (h.below hb).mono hb.size
theorem rep13L (A A' : Option Addr) (cap cap' n m : Nat) (st : List (Int × Int)) (xs : List Int) (E : Int) (L : List (List Int)) (hn : st.length = n) (hm : xs.length = m) (hE : rpE st xs = E) (hL : rpL st xs = L) (w : World) (hA : Is .i64 w w.heap.size A (flatS st)) (hA' : Is .i64 w w.heap.size A' xs) (hl : st.length ≤ 1000000) (hl' : xs.length ≤ 1000000) :
    Calls Try.prog 13 #[.slice A n cap, .slice A' m cap'] w (RpP w E L) := by
  subst hn; subst hm; subst hE; subst hL
  exact rep13 A A' cap cap' st xs w.heap.size w (Nat.le_refl _) hA hA' hl hl'
theorem worst15L (A A' : Option Addr) (cap cap' n m : Nat) (st : List (Int × Int)) (xs : List Int) (E V : Int) (hn : st.length = n) (hm : xs.length = m) (hE : rpE st xs = E) (hV : wsV st xs = V) (w : World) (hA : Is .i64 w w.heap.size A (flatS st)) (hA' : Is .i64 w w.heap.size A' xs) (hl : st.length ≤ 1000000) (hl' : xs.length ≤ 1000000) :
    Calls Try.prog 15 #[.slice A n cap, .slice A' m cap'] w fun e w' => e = .returned (.tuple #[.int .i64 V, .int .i64 E]) ∧ Below w.heap.size w w' := by
  subst hn; subst hm; subst hE; subst hV
  exact worst15 A A' cap cap' st xs w.heap.size w (Nat.le_refl _) hA hA' hl hl'
theorem tiles17L (A : Option Addr) (cap n : Nat) (st : List (Int × Int)) (E : Int) (b : Bool) (hn : st.length = n) (hE : ckT st = E) (hV : tlB st = b) (w : World) (hA : Is .i64 w w.heap.size A (flatS st)) (hl : st.length ≤ 1000000) :
    Calls Try.prog 17 #[.slice A n cap] w fun e w' => e = .returned (.tuple #[.bool b, .int .i64 E]) ∧ Below w.heap.size w w' := by
  subst hn; subst hE; subst hV
  exact tiles17 A cap st w.heap.size w (Nat.le_refl _) hA hl
theorem plan25L (A : Option Addr) (cap n : Nat) (xs : List Int) (most E : Int) (L : List (Int × Int)) (hn : xs.length = n) (hE : plE xs most = E) (hL : plL xs most = L) (w : World) (hA : Is .i64 w w.heap.size A xs) (hl : xs.length ≤ 1000000) :
    Calls Try.prog 25 #[.slice A n cap, .int .i64 most] w fun e w' => ∃ A' C', e = .returned (.tuple #[.slice A' L.length C', .int .i64 E]) ∧ Own .i64 w' w.heap.size A' 44 (flatS L) ∧ Below w.heap.size w w' := by
  subst hn; subst hE; subst hL
  refine (plan25 A cap xs most w.heap.size w (Nat.le_refl _) hA hl).mono ?_
  rintro e w1 ⟨v, rfl, hv, hb⟩
  obtain ⟨A5, C5, rfl, hown⟩ := hv.own
  exact ⟨A5, C5, rfl, hown, hb⟩
theorem planned29L (A A' : Option Addr) (cap cap' n m : Nat) (xs hs : List Int) (most : Int) (l : List (Int × Int)) (hn : xs.length = n) (hm : hs.length = m) (w : World) (hA : Is .i64 w w.heap.size A xs) (hA' : Is .i64 w w.heap.size A' hs) (hl : xs.length ≤ 1000000) (hE : plE xs most = 0) (hL : plL xs most = l) (hhs : hs.length = l.length) (hl2 : l.length ≤ 1000)
    (hch : ∀ k, k < l.length → stl l k = lst hs k ∧ sth l k = nth hs k) :
    Calls Try.prog 29 #[.slice A n cap, .int .i64 most, .slice A' m cap'] w fun e w' => e = .returned (.bool true) ∧ Below w.heap.size w w' := by
  subst hn; subst hm
  exact planned29 A A' cap cap' xs hs most l w.heap.size w (Nat.le_refl _) hA hA' hl hE hL hhs hl2 hch
theorem equalRowsL (A A' : Option Addr) (cap cap' n : Nat) (xss : List (List Int)) (hn : xss.length = n) (w : World) (hR : RIs .i64 w w.heap.size A xss) (hR' : RIs .i64 w w.heap.size A' xss) (hl : xss.length ≤ 1000) (hrow : ∀ r, r < xss.length → (row xss r).length ≤ 1000000) :
    Calls Try.prog 21 #[.slice A n cap, .slice A' n cap'] w fun e w' => e = .returned (.bool true) ∧ DrN w w' := by
  subst hn
  exact equalRows A A' cap cap' xss w.heap.size w hR hR' hl hrow
set_option maxRecDepth 100000 in
set_option maxHeartbeats 8000000 in
theorem awake10 (w : World) : Calls Try.prog 10 #[] w fun e w' => e = .returned (.bool true) ∧ Below w.heap.size w w' := by
  go_enter Try.func10, Try.ntmps10
  go_wp2_with fail
  have Bw := Lib.hid (Below.refl w.heap.size w)
  obtain ⟨x0, hx0⟩ : ∃ x0, x0 = w.alloc (.cells #[.int .i64 10, .int .i64 20, .int .i64 20, .int .i64 200] 3) := ⟨_, rfl⟩
  have bx0 : Below w.heap.size w x0 := by rw [hx0]; exact (Below.refl _ _).alloc (Nat.le_refl _) _
  have ex0 : x0.heap[w.heap.size]? = some (.cells #[.int .i64 10, .int .i64 20, .int .i64 20, .int .i64 200] 3 (0, 0)) := by rw [hx0]; exact heap_alloc_new w _
  have zx0 : x0.heap.size = w.heap.size + 1 := by rw [hx0]; simp
  rw [← hx0]
  try rw [← zx0]
  have lx0 : w.heap.size < x0.heap.size := by omega
  clear hx0 zx0
  have Bx0 := Lib.hid (Bw.out.trans ((bx0).mono Bw.out.size))
  have Sx0 := (bx0).size
  clear Bw
  clear bx0
  have Sx0 := Lib.hid (show Is .i64 x0 x0.heap.size (some ⟨w.heap.size, 0, none⟩) X4 from Is.lit (T := 3) ex0 (by omega))
  obtain ⟨x1, hx1⟩ : ∃ x1, x1 = x0.alloc (.cells #[.int .i64 0, .int .i64 10, .int .i64 10, .int .i64 100, .int .i64 100, .int .i64 255] 44) := ⟨_, rfl⟩
  have bx1 : Below x0.heap.size x0 x1 := by rw [hx1]; exact (Below.refl _ _).alloc (Nat.le_refl _) _
  have ex1 : x1.heap[x0.heap.size]? = some (.cells #[.int .i64 0, .int .i64 10, .int .i64 10, .int .i64 100, .int .i64 100, .int .i64 255] 44 (0, 0)) := by rw [hx1]; exact heap_alloc_new x0 _
  have zx1 : x1.heap.size = x0.heap.size + 1 := by rw [hx1]; simp
  rw [← hx1]
  try rw [← zx1]
  have lx1 : x0.heap.size < x1.heap.size := by omega
  clear hx1 zx1
  have Bx1 := Lib.hid (Bx0.out.trans ((bx1).mono Bx0.out.size))
  have Sx1 := (bx1).size
  have Sx1 := Lib.hid (Sx0.out.nxt (bx1))
  clear Bx0 Sx0
  clear bx1
  have Tx1 := Lib.hid (show Is .i64 x1 x1.heap.size (some ⟨x0.heap.size, 0, none⟩) (flatS S3) from Is.lit (T := 44) ex1 (by omega))
  clear ex0 ex1
  refine (rep13L (some ⟨x0.heap.size, 0, none⟩) (some ⟨w.heap.size, 0, none⟩) 3 4 3 4 S3 X4 0 [[0], [1, 2], [3]] rfl rfl xR xRL x1 Tx1.out Sx1.out (by decide) (by decide)).mono ?_
  rintro e w1 ⟨A1, C1, rfl, ro1, hbw1⟩
  have Bw1 := Lib.hid (Bx1.out.trans ((hbw1).mono Bx1.out.size))
  have Sw1 := (hbw1).size
  have Sw1 := Lib.hid (Sx1.out.nxt (hbw1))
  have Tw1 := Lib.hid (Tx1.out.nxt (hbw1))
  clear Bx1 Sx1 Tx1
  have Lw1 := Lib.hid (ro1.ris)
  clear hbw1 ro1
  go_wp2_with fail
  refine (worst15L (some ⟨x0.heap.size, 0, none⟩) (some ⟨w.heap.size, 0, none⟩) 3 4 3 4 S3 X4 0 2 rfl rfl xR xW w1 Tw1.out Sw1.out (by decide) (by decide)).mono ?_
  rintro e w2 ⟨rfl, hbw2⟩
  have Bw2 := Lib.hid (Bw1.out.trans ((hbw2).mono Bw1.out.size))
  have Sw2 := (hbw2).size
  have Sw2 := Lib.hid (Sw1.out.nxt (hbw2))
  have Tw2 := Lib.hid (Tw1.out.nxt (hbw2))
  have Lw2 := Lib.hid (Lw1.out.nxt (hbw2))
  clear Bw1 Sw1 Tw1 Lw1
  clear hbw2
  go_wp2_with fail
  refine (tiles17L (some ⟨x0.heap.size, 0, none⟩) 3 3 S3 0 true rfl xC3 xT3 w2 Tw2.out (by decide)).mono ?_
  rintro e w3 ⟨rfl, hbw3⟩
  have Bw3 := Lib.hid (Bw2.out.trans ((hbw3).mono Bw2.out.size))
  have Sw3 := (hbw3).size
  have Sw3 := Lib.hid (Sw2.out.nxt (hbw3))
  have Tw3 := Lib.hid (Tw2.out.nxt (hbw3))
  have Lw3 := Lib.hid (Lw2.out.nxt (hbw3))
  clear Bw2 Sw2 Tw2 Lw2
  clear hbw3
  go_wp2_with fail
  obtain ⟨x4, hx4⟩ : ∃ x4, x4 = w3.alloc (.cells #[.int .i64 0, .int .i64 10, .int .i64 10, .int .i64 255, .int .i64 200, .int .i64 255] 44) := ⟨_, rfl⟩
  have bx4 : Below w3.heap.size w3 x4 := by rw [hx4]; exact (Below.refl _ _).alloc (Nat.le_refl _) _
  have ex4 : x4.heap[w3.heap.size]? = some (.cells #[.int .i64 0, .int .i64 10, .int .i64 10, .int .i64 255, .int .i64 200, .int .i64 255] 44 (0, 0)) := by rw [hx4]; exact heap_alloc_new w3 _
  have zx4 : x4.heap.size = w3.heap.size + 1 := by rw [hx4]; simp
  rw [← hx4]
  try rw [← zx4]
  have lx4 : w3.heap.size < x4.heap.size := by omega
  clear hx4 zx4
  have Bx4 := Lib.hid (Bw3.out.trans ((bx4).mono Bw3.out.size))
  have Sx4 := (bx4).size
  have Sx4 := Lib.hid (Sw3.out.nxt (bx4))
  have Tx4 := Lib.hid (Tw3.out.nxt (bx4))
  have Lx4 := Lib.hid (Lw3.out.nxt (bx4))
  clear Bw3 Sw3 Tw3 Lw3
  clear bx4
  have Ux4 := Lib.hid (show Is .i64 x4 x4.heap.size (some ⟨w3.heap.size, 0, none⟩) (flatS S4) from Is.lit (T := 44) ex4 (by omega))
  clear ex4
  refine (tiles17L (some ⟨w3.heap.size, 0, none⟩) 3 3 S4 0 false rfl xC4 xT4 x4 Ux4.out (by decide)).mono ?_
  rintro e w5 ⟨rfl, hbw5⟩
  have Bw5 := Lib.hid (Bx4.out.trans ((hbw5).mono Bx4.out.size))
  have Sw5 := (hbw5).size
  have Sw5 := Lib.hid (Sx4.out.nxt (hbw5))
  have Tw5 := Lib.hid (Tx4.out.nxt (hbw5))
  have Lw5 := Lib.hid (Lx4.out.nxt (hbw5))
  have Uw5 := Lib.hid (Ux4.out.nxt (hbw5))
  clear Bx4 Sx4 Tx4 Lx4 Ux4
  clear hbw5
  go_wp2_with fail
  refine (plan25L (some ⟨w.heap.size, 0, none⟩) 4 4 X4 1 9 [] rfl xP1 (plL_bad (by rw [xP1]; decide)) w5 Sw5.out (by decide)).mono ?_
  rintro e w6 ⟨A6, C6, rfl, -, hbw6⟩
  have Bw6 := Lib.hid (Bw5.out.trans ((hbw6).mono Bw5.out.size))
  have Sw6 := (hbw6).size
  have Sw6 := Lib.hid (Sw5.out.nxt (hbw6))
  have Tw6 := Lib.hid (Tw5.out.nxt (hbw6))
  have Lw6 := Lib.hid (Lw5.out.nxt (hbw6))
  have Uw6 := Lib.hid (Uw5.out.nxt (hbw6))
  clear Bw5 Sw5 Tw5 Lw5 Uw5
  clear hbw6
  go_wp2_with fail
  obtain ⟨y1, hy1⟩ : ∃ y1, y1 = w6.alloc (.cells #[.int .i64 0] 3) := ⟨_, rfl⟩
  have by1 : Below w6.heap.size w6 y1 := by rw [hy1]; exact (Below.refl _ _).alloc (Nat.le_refl _) _
  have ey1 : y1.heap[w6.heap.size]? = some (.cells #[.int .i64 0] 3 (0, 0)) := by rw [hy1]; exact heap_alloc_new w6 _
  have zy1 : y1.heap.size = w6.heap.size + 1 := by rw [hy1]; simp
  rw [← hy1]
  try rw [← zy1]
  have ly1 : w6.heap.size < y1.heap.size := by omega
  clear hy1 zy1
  have By1 := Lib.hid (Bw6.out.trans ((by1).mono Bw6.out.size))
  have Sy1 := (by1).size
  have Sy1 := Lib.hid (Sw6.out.nxt (by1))
  have Ty1 := Lib.hid (Tw6.out.nxt (by1))
  have Ly1 := Lib.hid (Lw6.out.nxt (by1))
  have Uy1 := Lib.hid (Uw6.out.nxt (by1))
  clear Bw6 Sw6 Tw6 Lw6 Uw6
  clear by1
  have Py1 := Lib.hid (show Is .i64 y1 y1.heap.size (some ⟨w6.heap.size, 0, none⟩) [0] from Is.lit (T := 3) ey1 (by omega))
  obtain ⟨y2, hy2⟩ : ∃ y2, y2 = y1.alloc (.cells #[.int .i64 1, .int .i64 2] 3) := ⟨_, rfl⟩
  have by2 : Below y1.heap.size y1 y2 := by rw [hy2]; exact (Below.refl _ _).alloc (Nat.le_refl _) _
  have ey2 : y2.heap[y1.heap.size]? = some (.cells #[.int .i64 1, .int .i64 2] 3 (0, 0)) := by rw [hy2]; exact heap_alloc_new y1 _
  have zy2 : y2.heap.size = y1.heap.size + 1 := by rw [hy2]; simp
  rw [← hy2]
  try rw [← zy2]
  have ly2 : y1.heap.size < y2.heap.size := by omega
  clear hy2 zy2
  have By2 := Lib.hid (By1.out.trans ((by2).mono By1.out.size))
  have Sy2 := (by2).size
  have Sy2 := Lib.hid (Sy1.out.nxt (by2))
  have Ty2 := Lib.hid (Ty1.out.nxt (by2))
  have Ly2 := Lib.hid (Ly1.out.nxt (by2))
  have Uy2 := Lib.hid (Uy1.out.nxt (by2))
  have Py2 := Lib.hid (Py1.out.nxt (by2))
  clear By1 Sy1 Ty1 Ly1 Uy1 Py1
  clear by2
  have Qy2 := Lib.hid (show Is .i64 y2 y2.heap.size (some ⟨y1.heap.size, 0, none⟩) [1, 2] from Is.lit (T := 3) ey2 (by omega))
  obtain ⟨y3, hy3⟩ : ∃ y3, y3 = y2.alloc (.cells #[.int .i64 3] 3) := ⟨_, rfl⟩
  have by3 : Below y2.heap.size y2 y3 := by rw [hy3]; exact (Below.refl _ _).alloc (Nat.le_refl _) _
  have ey3 : y3.heap[y2.heap.size]? = some (.cells #[.int .i64 3] 3 (0, 0)) := by rw [hy3]; exact heap_alloc_new y2 _
  have zy3 : y3.heap.size = y2.heap.size + 1 := by rw [hy3]; simp
  rw [← hy3]
  try rw [← zy3]
  have ly3 : y2.heap.size < y3.heap.size := by omega
  clear hy3 zy3
  have By3 := Lib.hid (By2.out.trans ((by3).mono By2.out.size))
  have Sy3 := (by3).size
  have Sy3 := Lib.hid (Sy2.out.nxt (by3))
  have Ty3 := Lib.hid (Ty2.out.nxt (by3))
  have Ly3 := Lib.hid (Ly2.out.nxt (by3))
  have Uy3 := Lib.hid (Uy2.out.nxt (by3))
  have Py3 := Lib.hid (Py2.out.nxt (by3))
  have Qy3 := Lib.hid (Qy2.out.nxt (by3))
  clear By2 Sy2 Ty2 Ly2 Uy2 Py2 Qy2
  clear by3
  have Ry3 := Lib.hid (show Is .i64 y3 y3.heap.size (some ⟨y2.heap.size, 0, none⟩) [3] from Is.lit (T := 3) ey3 (by omega))
  obtain ⟨y4, hy4⟩ : ∃ y4, y4 = y3.alloc (.cells #[.slice (some ⟨w6.heap.size, 0, none⟩) 1 1, .slice (some ⟨y1.heap.size, 0, none⟩) 2 2, .slice (some ⟨y2.heap.size, 0, none⟩) 1 1] 23) := ⟨_, rfl⟩
  have by4 : Below y3.heap.size y3 y4 := by rw [hy4]; exact (Below.refl _ _).alloc (Nat.le_refl _) _
  have ey4 : y4.heap[y3.heap.size]? = some (.cells #[.slice (some ⟨w6.heap.size, 0, none⟩) 1 1, .slice (some ⟨y1.heap.size, 0, none⟩) 2 2, .slice (some ⟨y2.heap.size, 0, none⟩) 1 1] 23 (0, 0)) := by rw [hy4]; exact heap_alloc_new y3 _
  have zy4 : y4.heap.size = y3.heap.size + 1 := by rw [hy4]; simp
  rw [← hy4]
  try rw [← zy4]
  have ly4 : y3.heap.size < y4.heap.size := by omega
  clear hy4 zy4
  have By4 := Lib.hid (By3.out.trans ((by4).mono By3.out.size))
  have Sy4 := (by4).size
  have Sy4 := Lib.hid (Sy3.out.nxt (by4))
  have Ty4 := Lib.hid (Ty3.out.nxt (by4))
  have Ly4 := Lib.hid (Ly3.out.nxt (by4))
  have Uy4 := Lib.hid (Uy3.out.nxt (by4))
  have Py4 := Lib.hid (Py3.out.nxt (by4))
  have Qy4 := Lib.hid (Qy3.out.nxt (by4))
  have Ry4 := Lib.hid (Ry3.out.nxt (by4))
  clear By3 Sy3 Ty3 Ly3 Uy3 Py3 Qy3 Ry3
  clear by4
  have HR4 := Lib.hid (RIs.three (T := 23) rfl rfl rfl Py4.out Qy4.out Ry4.out ey4 : RIs .i64 y4 y4.heap.size (some ⟨y3.heap.size, 0, none⟩) [[0], [1, 2], [3]])
  clear ey1 ey2 ey3 ey4
  refine (equalRowsL A1 (some ⟨y3.heap.size, 0, none⟩) C1 3 3 [[0], [1, 2], [3]] rfl y4 Ly4.out HR4.out (by decide) (fun r hr => by have hr' : r < 3 := hr; rcases (by omega : r = 0 ∨ r = 1 ∨ r = 2) with rfl | rfl | rfl <;> decide)).mono ?_
  rintro e w7 ⟨rfl, hd7⟩
  have Bw7 := Lib.hid (By4.out.trans ((hd7.below).mono By4.out.size))
  have Sw7 := (hd7.below).size
  have Sw7 := Lib.hid (Sy4.out.nxt (hd7.below))
  have Tw7 := Lib.hid (Ty4.out.nxt (hd7.below))
  have Lw7 := Lib.hid (Ly4.out.nxt (hd7.below))
  have Uw7 := Lib.hid (Uy4.out.nxt (hd7.below))
  have Pw7 := Lib.hid (Py4.out.nxt (hd7.below))
  have Qw7 := Lib.hid (Qy4.out.nxt (hd7.below))
  have Rw7 := Lib.hid (Ry4.out.nxt (hd7.below))
  clear By4 Sy4 Ty4 Ly4 Uy4 Py4 Qy4 Ry4
  clear hd7
  go_wp2_with fail
  obtain ⟨z0, hz0⟩ : ∃ z0, z0 = w7.alloc (.cells #[.int .i64 10, .int .i64 20, .int .i64 255] 3) := ⟨_, rfl⟩
  have bz0 : Below w7.heap.size w7 z0 := by rw [hz0]; exact (Below.refl _ _).alloc (Nat.le_refl _) _
  have ez0 : z0.heap[w7.heap.size]? = some (.cells #[.int .i64 10, .int .i64 20, .int .i64 255] 3 (0, 0)) := by rw [hz0]; exact heap_alloc_new w7 _
  have zz0 : z0.heap.size = w7.heap.size + 1 := by rw [hz0]; simp
  rw [← hz0]
  try rw [← zz0]
  have lz0 : w7.heap.size < z0.heap.size := by omega
  clear hz0 zz0
  have Bz0 := Lib.hid (Bw7.out.trans ((bz0).mono Bw7.out.size))
  have Sz0 := (bz0).size
  have Sz0 := Lib.hid (Sw7.out.nxt (bz0))
  have Tz0 := Lib.hid (Tw7.out.nxt (bz0))
  have Lz0 := Lib.hid (Lw7.out.nxt (bz0))
  have Uz0 := Lib.hid (Uw7.out.nxt (bz0))
  have Pz0 := Lib.hid (Pw7.out.nxt (bz0))
  have Qz0 := Lib.hid (Qw7.out.nxt (bz0))
  have Rz0 := Lib.hid (Rw7.out.nxt (bz0))
  clear Bw7 Sw7 Tw7 Lw7 Uw7 Pw7 Qw7 Rw7
  clear bz0
  have Hz0 := Lib.hid (show Is .i64 z0 z0.heap.size (some ⟨w7.heap.size, 0, none⟩) [10, 20, 255] from Is.lit (T := 3) ez0 (by omega))
  clear ez0
  refine (planned29L (some ⟨w.heap.size, 0, none⟩) (some ⟨w7.heap.size, 0, none⟩) 4 3 4 3 X4 [10, 20, 255] 2 _ rfl rfl z0 Sz0.out Hz0.out (by decide) xPE2 xPL2 rfl (by decide) (fun k hk => by have hk' : k < 3 := hk; rcases (by omega : k = 0 ∨ k = 1 ∨ k = 2) with rfl | rfl | rfl <;> decide)).mono ?_
  rintro e v0 ⟨rfl, hbv0⟩
  have Bv0 := Lib.hid (Bz0.out.trans ((hbv0).mono Bz0.out.size))
  have Sv0 := (hbv0).size
  have Sv0 := Lib.hid (Sz0.out.nxt (hbv0))
  have Tv0 := Lib.hid (Tz0.out.nxt (hbv0))
  have Lv0 := Lib.hid (Lz0.out.nxt (hbv0))
  have Uv0 := Lib.hid (Uz0.out.nxt (hbv0))
  have Pv0 := Lib.hid (Pz0.out.nxt (hbv0))
  have Qv0 := Lib.hid (Qz0.out.nxt (hbv0))
  have Rv0 := Lib.hid (Rz0.out.nxt (hbv0))
  have Hv0 := Lib.hid (Hz0.out.nxt (hbv0))
  clear Bz0 Sz0 Tz0 Lz0 Uz0 Pz0 Qz0 Rz0 Hz0
  clear hbv0
  go_wp2_with fail
  clear Hv0
  obtain ⟨z1, hz1⟩ : ∃ z1, z1 = v0.alloc (.cells #[.int .i64 10, .int .i64 255] 3) := ⟨_, rfl⟩
  have bz1 : Below v0.heap.size v0 z1 := by rw [hz1]; exact (Below.refl _ _).alloc (Nat.le_refl _) _
  have ez1 : z1.heap[v0.heap.size]? = some (.cells #[.int .i64 10, .int .i64 255] 3 (0, 0)) := by rw [hz1]; exact heap_alloc_new v0 _
  have zz1 : z1.heap.size = v0.heap.size + 1 := by rw [hz1]; simp
  rw [← hz1]
  try rw [← zz1]
  have lz1 : v0.heap.size < z1.heap.size := by omega
  clear hz1 zz1
  have Bz1 := Lib.hid (Bv0.out.trans ((bz1).mono Bv0.out.size))
  have Sz1 := (bz1).size
  have Sz1 := Lib.hid (Sv0.out.nxt (bz1))
  have Tz1 := Lib.hid (Tv0.out.nxt (bz1))
  have Lz1 := Lib.hid (Lv0.out.nxt (bz1))
  have Uz1 := Lib.hid (Uv0.out.nxt (bz1))
  have Pz1 := Lib.hid (Pv0.out.nxt (bz1))
  have Qz1 := Lib.hid (Qv0.out.nxt (bz1))
  have Rz1 := Lib.hid (Rv0.out.nxt (bz1))
  clear Bv0 Sv0 Tv0 Lv0 Uv0 Pv0 Qv0 Rv0
  clear bz1
  have Hz1 := Lib.hid (show Is .i64 z1 z1.heap.size (some ⟨v0.heap.size, 0, none⟩) [10, 255] from Is.lit (T := 3) ez1 (by omega))
  clear ez1
  refine (planned29L (some ⟨w.heap.size, 0, none⟩) (some ⟨v0.heap.size, 0, none⟩) 4 2 4 2 X4 [10, 255] 3 _ rfl rfl z1 Sz1.out Hz1.out (by decide) xPE3 xPL3 rfl (by decide) (fun k hk => by have hk' : k < 2 := hk; rcases (by omega : k = 0 ∨ k = 1) with rfl | rfl <;> decide)).mono ?_
  rintro e v1 ⟨rfl, hbv1⟩
  have Bv1 := Lib.hid (Bz1.out.trans ((hbv1).mono Bz1.out.size))
  have Sv1 := (hbv1).size
  have Sv1 := Lib.hid (Sz1.out.nxt (hbv1))
  have Tv1 := Lib.hid (Tz1.out.nxt (hbv1))
  have Lv1 := Lib.hid (Lz1.out.nxt (hbv1))
  have Uv1 := Lib.hid (Uz1.out.nxt (hbv1))
  have Pv1 := Lib.hid (Pz1.out.nxt (hbv1))
  have Qv1 := Lib.hid (Qz1.out.nxt (hbv1))
  have Rv1 := Lib.hid (Rz1.out.nxt (hbv1))
  have Hv1 := Lib.hid (Hz1.out.nxt (hbv1))
  clear Bz1 Sz1 Tz1 Lz1 Uz1 Pz1 Qz1 Rz1 Hz1
  clear hbv1
  go_wp2_with fail
  clear Hv1
  obtain ⟨z2, hz2⟩ : ∃ z2, z2 = v1.alloc (.cells #[.int .i64 255] 3) := ⟨_, rfl⟩
  have bz2 : Below v1.heap.size v1 z2 := by rw [hz2]; exact (Below.refl _ _).alloc (Nat.le_refl _) _
  have ez2 : z2.heap[v1.heap.size]? = some (.cells #[.int .i64 255] 3 (0, 0)) := by rw [hz2]; exact heap_alloc_new v1 _
  have zz2 : z2.heap.size = v1.heap.size + 1 := by rw [hz2]; simp
  rw [← hz2]
  try rw [← zz2]
  have lz2 : v1.heap.size < z2.heap.size := by omega
  clear hz2 zz2
  have Bz2 := Lib.hid (Bv1.out.trans ((bz2).mono Bv1.out.size))
  have Sz2 := (bz2).size
  have Sz2 := Lib.hid (Sv1.out.nxt (bz2))
  have Tz2 := Lib.hid (Tv1.out.nxt (bz2))
  have Lz2 := Lib.hid (Lv1.out.nxt (bz2))
  have Uz2 := Lib.hid (Uv1.out.nxt (bz2))
  have Pz2 := Lib.hid (Pv1.out.nxt (bz2))
  have Qz2 := Lib.hid (Qv1.out.nxt (bz2))
  have Rz2 := Lib.hid (Rv1.out.nxt (bz2))
  clear Bv1 Sv1 Tv1 Lv1 Uv1 Pv1 Qv1 Rv1
  clear bz2
  have Hz2 := Lib.hid (show Is .i64 z2 z2.heap.size (some ⟨v1.heap.size, 0, none⟩) [255] from Is.lit (T := 3) ez2 (by omega))
  clear ez2
  refine (planned29L (some ⟨w.heap.size, 0, none⟩) (some ⟨v1.heap.size, 0, none⟩) 4 1 4 1 X4 [255] 4 _ rfl rfl z2 Sz2.out Hz2.out (by decide) xPE4 xPL4 rfl (by decide) (fun k hk => by have hk' : k < 1 := hk; rcases (by omega : k = 0) with rfl <;> decide)).mono ?_
  rintro e v2 ⟨rfl, hbv2⟩
  have Bv2 := Lib.hid (Bz2.out.trans ((hbv2).mono Bz2.out.size))
  have Sv2 := (hbv2).size
  have Sv2 := Lib.hid (Sz2.out.nxt (hbv2))
  have Tv2 := Lib.hid (Tz2.out.nxt (hbv2))
  have Lv2 := Lib.hid (Lz2.out.nxt (hbv2))
  have Uv2 := Lib.hid (Uz2.out.nxt (hbv2))
  have Pv2 := Lib.hid (Pz2.out.nxt (hbv2))
  have Qv2 := Lib.hid (Qz2.out.nxt (hbv2))
  have Rv2 := Lib.hid (Rz2.out.nxt (hbv2))
  have Hv2 := Lib.hid (Hz2.out.nxt (hbv2))
  clear Bz2 Sz2 Tz2 Lz2 Uz2 Pz2 Qz2 Rz2 Hz2
  clear hbv2
  go_wp2_with fail
  clear Hv2
  go_ret
  exact ⟨rfl, Bv2.out⟩
end Go.Proofs.Ytlbchidgadcmpaa
