/- Contracts of Below and Hit of package chance, of the reference's Below and WrongFates, and of clearwaykit.HasInt and OverInts. -/
import Derived.Test.YtfpogcdffccldaaChP
import Derived.Test.YtfpogcdffccldaaKE
namespace Go.Proofs.Ytfpogcdffccldaa
open Go.RowKit
attribute [local go_sem ↓] Go.wp_at_zero Go.wp_at_succ
attribute [local go_sem] wrap_lit

/-- What Below leaves: one new block, the source moved. -/
def Moved (w : World) (g : Nat) (y : Int) (w' : World) : Prop := Src w' g y true ∧ w.grownBy w' (some g)

theorem below24y (g : Nat) (x n : Int) (w : World) (h : Src w g x true) (h0 : 1 ≤ x) (h1 : x < 2147483647) (hn : 1 ≤ n) (hn2 : n ≤ 1048576) :
    Calls Try.prog 24 #[.pointer (some ⟨g, 0, none⟩), .int .i64 n] w fun e w' => e = .returned (.tuple #[.int .i64 (drw x n), .int .i64 0]) ∧ Moved w g (tms x 48271) w' := by
  have H := Lib.hid (check32t g x true w h)
  have hg := h.lt
  obtain ⟨k1, k2, k3, k4⟩ := h.cells
  have HS := Lib.hid h
  clear h
  go_enter Try.func24, Try.ntmps24
  go_wp2_with fail
  refine H.out.mono ?_
  rintro e w1 ⟨rfl, rfl⟩
  go_wp2_with fail
  refine (draw33 g _).mono ?_
  rintro e w1 ⟨rfl, rfl⟩
  go_wp2_with fail
  refine (draw36 g w.heap.size x n _ ?_ ?_ ?_ h0 h1 hn (by omega)).mono ?_
  · go_simp
  · go_simp
  · go_simp
  rintro e w1 ⟨rfl, rfl⟩
  go_wp2_with fail
  go_ret2
  exact ⟨rfl, (HS.out.set _).alloc _, grown_alloc (grown_set (grown_refl _ _) _) _⟩
theorem below24e (g : Nat) (x n : Int) (w : World) (h : Src w g x true) (hn : ¬ (1 ≤ n ∧ n ≤ 1048576)) :
    Calls Try.prog 24 #[.pointer (some ⟨g, 0, none⟩), .int .i64 n] w fun e w' => e = .returned (.tuple #[.int .i64 0, .int .i64 1]) ∧ w = w' := by
  have H0 := check32t g x false w h
  simp only [Bool.false_eq_true, if_false] at H0
  have H := Lib.hid H0
  clear H0 h
  by_cases h1 : 1 ≤ n
  · have h2 : decide (n ≤ 1048576) = false := by simp; omega
    clear hn
    go_enter Try.func24, Try.ntmps24
    go_wp2_with fail
    refine H.out.mono ?_
    rintro e w1 ⟨rfl, rfl⟩
    go_wp2_with fail
    go_ret2
    exact ⟨rfl, rfl⟩
  · have h2 : decide (1 ≤ n) = false := by simp; omega
    clear hn h1
    go_enter Try.func24, Try.ntmps24
    go_wp2_with fail
    refine H.out.mono ?_
    rintro e w1 ⟨rfl, rfl⟩
    go_wp2_with fail
    go_ret2
    exact ⟨rfl, rfl⟩
theorem below24f (g : Nat) (x n : Int) (w : World) (h : Src w g x false) :
    Calls Try.prog 24 #[.pointer (some ⟨g, 0, none⟩), .int .i64 n] w fun e w' => e = .returned (.tuple #[.int .i64 0, .int .i64 11]) ∧ w = w' := by
  have H := Lib.hid (fun r => check32f g x r w h)
  clear h
  by_cases h1 : 1 ≤ n
  · by_cases h2 : n ≤ 1048576
    · go_enter Try.func24, Try.ntmps24
      go_wp2_with fail
      refine (H.out true).mono ?_
      rintro e w1 ⟨rfl, rfl⟩
      go_wp2_with fail
      go_ret2
      exact ⟨rfl, rfl⟩
    · have h3 : decide (n ≤ 1048576) = false := by simp; omega
      clear h2
      go_enter Try.func24, Try.ntmps24
      go_wp2_with fail
      refine (H.out false).mono ?_
      rintro e w1 ⟨rfl, rfl⟩
      go_wp2_with fail
      go_ret2
      exact ⟨rfl, rfl⟩
  · have h3 : decide (1 ≤ n) = false := by simp; omega
    clear h1
    go_enter Try.func24, Try.ntmps24
    go_wp2_with fail
    refine (H.out false).mono ?_
    rintro e w1 ⟨rfl, rfl⟩
    go_wp2_with fail
    go_ret2
    exact ⟨rfl, rfl⟩

theorem hit26y (g : Nat) (x p q : Int) (w : World) (h : Src w g x true) (h0 : 1 ≤ x) (h1 : x < 2147483647) (hn : 1 ≤ q) (hn2 : q ≤ 1048576) (hp : 0 ≤ p) (hp2 : p ≤ q) :
    Calls Try.prog 26 #[.pointer (some ⟨g, 0, none⟩), .int .i64 p, .int .i64 q] w fun e w' => e = .returned (.tuple #[.bool (decide (drw x q < p)), .int .i64 0]) ∧ Moved w g (tms x 48271) w' := by
  have H := Lib.hid (check32t g x true w h)
  have hg := h.lt
  obtain ⟨k1, k2, k3, k4⟩ := h.cells
  have HS := Lib.hid h
  clear h
  go_enter Try.func26, Try.ntmps26
  go_wp2_with fail
  refine H.out.mono ?_
  rintro e w1 ⟨rfl, rfl⟩
  go_wp2_with fail
  refine (draw33 g _).mono ?_
  rintro e w1 ⟨rfl, rfl⟩
  go_wp2_with fail
  refine (draw36 g w.heap.size x q _ ?_ ?_ ?_ h0 h1 hn (by omega)).mono ?_
  · go_simp
  · go_simp
  · go_simp
  rintro e w1 ⟨rfl, rfl⟩
  go_wp2_with fail
  go_ret2
  exact ⟨rfl, (HS.out.set _).alloc _, grown_alloc (grown_set (grown_refl _ _) _) _⟩
theorem hit26e (g : Nat) (x p q : Int) (w : World) (h : Src w g x true) (hn : ¬ (1 ≤ q ∧ q ≤ 1048576 ∧ 0 ≤ p ∧ p ≤ q)) :
    Calls Try.prog 26 #[.pointer (some ⟨g, 0, none⟩), .int .i64 p, .int .i64 q] w fun e w' => e = .returned (.tuple #[.bool false, .int .i64 1]) ∧ w = w' := by
  have H0 := check32t g x false w h
  simp only [Bool.false_eq_true, if_false] at H0
  have H := Lib.hid H0
  clear H0 h
  have hd : decide (1 ≤ q) = false ∨ (1 ≤ q ∧ decide (q ≤ 1048576) = false) ∨ (1 ≤ q ∧ q ≤ 1048576 ∧ decide (0 ≤ p) = false) ∨ (1 ≤ q ∧ q ≤ 1048576 ∧ 0 ≤ p ∧ decide (p ≤ q) = false) := by
    simp only [decide_eq_false_iff_not]; omega
  clear hn
  rcases hd with d | ⟨d0, d⟩ | ⟨d0, d1, d⟩ | ⟨d0, d1, d2, d⟩
  all_goals
    go_enter Try.func26, Try.ntmps26
    go_wp2_with fail
    refine H.out.mono ?_
    rintro e w1 ⟨rfl, rfl⟩
    go_wp2_with fail
    go_ret2
    exact ⟨rfl, rfl⟩

theorem refBelow25 (x n : Int) (w : World) (h0 : 1 ≤ x) (h1 : x < 2147483647) (hn : 1 ≤ n) (hn2 : n ≤ 2147483647) :
    Calls Try.prog 25 #[.int .i64 x, .int .i64 n] w fun e w' => e = .returned (.tuple #[.int .i64 (drw x n), .int .i64 (tms x 48271)]) ∧ w = w' := by
  have hp := tms_pos x h0 h1
  have hb2 := (tms_bd x 48271).2
  have hnb : (n == 0) = false := by rw [beq_eq_false_iff_ne]; omega
  unfold drw
  go_enter Try.func25, Try.ntmps25
  go_wp2_with fail
  refine (step18 x _ (by omega) h1).mono ?_
  rintro e w1 ⟨rfl, rfl⟩
  go_wp2_with fail
  go_ret2
  exact ⟨rfl, rfl⟩

def okF (n lose delay run : Int) : Prop := 0 ≤ n ∧ n ≤ 256 ∧ 0 ≤ lose ∧ lose ≤ 100 ∧ 0 ≤ delay ∧ delay ≤ 8 ∧ 0 ≤ run
instance (n lose delay run : Int) : Decidable (okF n lose delay run) := by unfold okF; infer_instance
theorem wrong29y (n lose delay run : Int) (w : World) (h : okF n lose delay run) : Calls Try.prog 29 #[.int .i64 n, .int .i64 lose, .int .i64 delay, .int .i64 run] w fun e w' => e = .returned (.int .i64 0) ∧ w = w' := by
  obtain ⟨h1, h2, h3, h4, h5, h6, h7⟩ := h
  go_enter Try.func29, Try.ntmps29
  go_wp2
  go_ret
  exact ⟨rfl, rfl⟩
theorem wrong29n (n lose delay run : Int) (w : World) (h : ¬ okF n lose delay run) : Calls Try.prog 29 #[.int .i64 n, .int .i64 lose, .int .i64 delay, .int .i64 run] w fun e w' => e = .returned (.int .i64 1) ∧ w = w' := by
  unfold okF at h
  go_enter Try.func29, Try.ntmps29
  go_wp2
  all_goals first | omega | (go_ret; exact ⟨rfl, rfl⟩)

def hasI (xs : List Int) (v : Int) : Bool := decide (v ∈ xs)
theorem hasInt14 (A : Option Addr) (cap : Nat) (xs : List Int) (v : Int) (B : Nat) (w : World) (hA : Is .i64 w B A xs) (hl : xs.length ≤ 1000000) :
    Calls Try.prog 14 #[.slice A xs.length cap, .int .i64 v] w fun e w' => e = .returned (.bool (hasI xs v)) ∧ w = w' := by
  go_enter Try.func14, Try.ntmps14
  go_wp2_with fail
  go_loop [5] (fun i => ∃ k : Nat, k ≤ xs.length ∧ i = .int .i64 k ∧ ∀ j, j < k → nth xs j ≠ v) (fun i => xs.length - (intOf i).toNat)
  case atStart => exact ⟨0, Nat.zero_le _, rfl, fun j h => absurd h (by omega)⟩
  case round =>
    obtain ⟨k, hk, rfl, hall⟩ := hrel
    have Hall := Lib.hid hall; clear hall
    by_cases hlt : k < xs.length
    · obtain ⟨b, off, rfl, hbb, hc⟩ := hA (by omega)
      have hcell := hc k hlt
      clear hc
      have hlI : (k : Int) < (xs.length : Int) := by omega
      by_cases he : nth xs k = v
      · have hb : (nth xs k == v) = true := by simp [he]
        have hi : hasI xs v = true := by
          unfold hasI
          rw [decide_eq_true_eq, ← he]
          simp [nth, List.getD_eq_getElem?_getD, hlt]
        have HI := Lib.hid hi
        clear he hi
        go_wp2_with fail
        go_ret
        exact ⟨ret_bool HI.out.symm, rfl⟩
      · have hb : (nth xs k == v) = false := by simp [he]
        have HE := Lib.hid he
        clear he
        go_wp2_with fail
        refine ⟨⟨k + 1, by omega, by go_num, fun j hj => ?_⟩, by simp [intOf]; omega⟩
        by_cases hjk : j = k
        · rw [hjk]; exact HE.out
        · exact Hall.out j (by omega)
    · obtain rfl : k = xs.length := by omega
      have hi : hasI xs v = false := by
        unfold hasI
        rw [decide_eq_false_iff_not]
        intro hm
        obtain ⟨i, hi, he⟩ := List.mem_iff_getElem.1 hm
        exact Hall.out i hi (by simp [nth, List.getD_eq_getElem?_getD, hi, he])
      have HI := Lib.hid hi
      clear hi
      go_wp2_with fail
      go_ret
      exact ⟨ret_bool HI.out.symm, rfl⟩

theorem cell_in {w : World} {g : Nat} {cs : Array Value} {T : TypeId} (h : w.heap[g]? = some (.cells cs T (0, 0))) {i : Nat} (hi : i < cs.size) : (∃ u, w.cell? ⟨g, i, none⟩ = some u) ∧ w.frozen? ⟨g, i, none⟩ = false := by
  refine ⟨⟨cs[i], ?_⟩, ?_⟩ <;> simp [World.cell?, World.frozen?, h, hi]
theorem set1 {w : World} {g : Nat} {cs : Array Value} {T : TypeId} {i : Nat} {a : Value} (h : w.heap[g]? = some (.cells cs T (0, 0))) :
    (w.setCell ⟨g, i, none⟩ a).heap[g]? = some (.cells (cs.setIfInBounds i a) T (0, 0)) := by
  simp [World.setCell, Array.getElem?_modify, h]
theorem overInts28 (A : Option Addr) (cap : Nat) (xs : List Int) (B : Nat) (T : TypeId) (w : World) (hA : Own .i64 w B A T xs) (hl : xs.length ≤ 1000000) :
    Calls Try.prog 28 #[.slice A xs.length cap] w fun e w' => e = .returned (.tuple #[]) ∧ Below B w w' := by
  go_enter Try.func28, Try.ntmps28
  go_wp2_with fail
  go_loopw [2] (fun i wr => ∃ k : Nat, k ≤ xs.length ∧ i = .int .i64 k ∧ Below B w wr ∧ (0 < xs.length → ∃ g cs, A = some ⟨g, 0, none⟩ ∧ B ≤ g ∧ wr.heap[g]? = some (.cells cs T (0, 0)) ∧ xs.length ≤ cs.size)) (fun i _ => xs.length - (intOf i).toNat)
  case atStart =>
    refine ⟨0, Nat.zero_le _, rfl, Below.refl _ _, fun hn => ?_⟩
    obtain ⟨g, cs, e1, e2, e3, e4⟩ := hA hn
    have := (Array.getElem?_eq_some_iff.1 (e4 (xs.length - 1) (by omega))).1
    exact ⟨g, cs, e1, e2, e3, by omega⟩
  case round =>
    obtain ⟨k, hk, rfl, hb, hg⟩ := hrel
    by_cases hlt : k < xs.length
    · obtain ⟨g, cs, rfl, h1, h2, h3⟩ := hg (by omega)
      obtain ⟨⟨u, c0⟩, p0⟩ := cell_in h2 (i := k) (by omega)
      have Hg := Lib.hid hg; clear hg
      have hlI : (k : Int) < (xs.length : Int) := by omega
      go_wp2_with fail
      exact ⟨⟨k + 1, by omega, by go_num, hb.setCell h1 _, fun _ => ⟨g, _, rfl, h1, set1 h2, by simpa using h3⟩⟩, by simp [intOf]; omega⟩
    · obtain rfl : k = xs.length := by omega
      clear hg
      go_wp2_with fail
      go_end0
      exact ⟨rfl, hb⟩
end Go.Proofs.Ytfpogcdffccldaa
