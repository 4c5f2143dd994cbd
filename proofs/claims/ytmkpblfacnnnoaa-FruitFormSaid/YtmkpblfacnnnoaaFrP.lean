/- Plain laws of chapter 12: valid sweeps, the matching by one pass, the table of the greatest numbers, and the best of all matchings. -/
import Derived.Test.YtmkpblfacnnnoaaK2
namespace Go.Proofs.Ytmkpblfacnnnoaa
/-! ### Sweeps -/
def lst (a : List Int) : Nat → Int
  | 0 => 0
  | k + 1 => nth a k
def okTo (a : List Int) : Nat → Bool
  | 0 => true
  | k + 1 => okTo a k && decide (lst a k ≤ nth a k ∧ nth a k ≤ 1023)
def ckS (a : List Int) : Int := if 64 < a.length then 4 else if okTo a a.length = true then 0 else 1
theorem okTo_at {a : List Int} : ∀ {n k : Nat}, okTo a n = true → k < n → lst a k ≤ nth a k ∧ nth a k ≤ 1023
  | n + 1, k, h, hk => by
    unfold okTo at h
    rw [Bool.and_eq_true] at h
    rcases Nat.lt_or_ge k n with g | g
    · exact okTo_at h.1 g
    · obtain rfl : k = n := by omega
      exact of_decide_eq_true h.2
theorem okTo_mono {a : List Int} {n m : Nat} (h : okTo a n = true) : m ≤ n → okTo a m = true := by
  induction n with
  | zero => intro g; obtain rfl : m = 0 := by omega
            exact h
  | succ n ih =>
    intro g
    rcases Nat.lt_or_ge n m with k | k
    · obtain rfl : m = n + 1 := by omega
      exact h
    · unfold okTo at h
      rw [Bool.and_eq_true] at h
      exact ih h.1 k
theorem okTo_bad {a : List Int} {n k : Nat} (hk : k < n) (h : ¬ (lst a k ≤ nth a k ∧ nth a k ≤ 1023)) : okTo a n = false := by
  cases e : okTo a n
  · rfl
  · exact absurd (okTo_at e hk) h
theorem okTo_pos {a : List Int} : ∀ {k n : Nat}, okTo a n = true → k < n → 0 ≤ nth a k
  | 0, n, h, hk => (okTo_at h hk).1
  | k + 1, n, h, hk => Int.le_trans (okTo_pos h (by omega)) (okTo_at h hk).1
theorem okTo_asc {a : List Int} {n : Nat} (h : okTo a n = true) : ∀ {k j : Nat}, k ≤ j → j < n → nth a k ≤ nth a j
  | k, 0, hk, hj => by obtain rfl : k = 0 := by omega
                       exact Int.le_refl _
  | k, j + 1, hk, hj => by
    rcases Nat.lt_or_ge j k with g | g
    · obtain rfl : k = j + 1 := by omega
      exact Int.le_refl _
    · exact Int.le_trans (okTo_asc h g (by omega)) (okTo_at h hj).1
theorem ckS_ok {a : List Int} : ckS a = 0 ↔ a.length ≤ 64 ∧ okTo a a.length = true := by
  unfold ckS
  split
  · constructor
    · intro h; cases h
    · omega
  · split
    · simp; exact ⟨by omega, by assumption⟩
    · constructor
      · intro h; cases h
      · intro h; exact absurd h.2 ‹_›
theorem ckS_cases (a : List Int) : ckS a = 0 ∨ ckS a = 4 ∨ ckS a = 1 := by
  unfold ckS; split
  · exact .inr (.inl rfl)
  · split
    · exact .inl rfl
    · exact .inr (.inr rfl)

/-! ### The matching by one pass, and the table of the greatest numbers -/
def sd (w x y : Int) : Int := if w < x - y then 1 else if w < y - x then -1 else 0
def gr (w : Int) (a b : List Int) (i j : Nat) : List (Nat × Nat) :=
  if i < a.length ∧ j < b.length then
    (if w < nth a i - nth b j then gr w a b i (j + 1)
     else if w < nth b j - nth a i then gr w a b (i + 1) j
     else (i, j) :: gr w a b (i + 1) (j + 1))
  else []
termination_by (a.length - i) + (b.length - j)
decreasing_by all_goals omega
def Mo (w : Int) (a b : List Int) (i j : Nat) : Nat :=
  if i < a.length ∧ j < b.length then
    max (max (Mo w a b (i + 1) j) (Mo w a b i (j + 1))) (if nth a i - nth b j ≤ w ∧ nth b j - nth a i ≤ w then 1 + Mo w a b (i + 1) (j + 1) else 0)
  else 0
termination_by (a.length - i) + (b.length - j)
decreasing_by all_goals omega
theorem gr_end {w : Int} {a b : List Int} {i j : Nat} (h : ¬ (i < a.length ∧ j < b.length)) : gr w a b i j = [] := by rw [gr, if_neg h]
theorem gr_great {w : Int} {a b : List Int} {i j : Nat} (h1 : i < a.length) (h2 : j < b.length) (h : w < nth a i - nth b j) : gr w a b i j = gr w a b i (j + 1) := by rw [gr, if_pos ⟨h1, h2⟩, if_pos h]
theorem gr_small {w : Int} {a b : List Int} {i j : Nat} (h1 : i < a.length) (h2 : j < b.length) (h : ¬ w < nth a i - nth b j) (h' : w < nth b j - nth a i) : gr w a b i j = gr w a b (i + 1) j := by rw [gr, if_pos ⟨h1, h2⟩, if_neg h, if_pos h']
theorem gr_pair {w : Int} {a b : List Int} {i j : Nat} (h1 : i < a.length) (h2 : j < b.length) (h : ¬ w < nth a i - nth b j) (h' : ¬ w < nth b j - nth a i) : gr w a b i j = (i, j) :: gr w a b (i + 1) (j + 1) := by rw [gr, if_pos ⟨h1, h2⟩, if_neg h, if_neg h']
theorem Mo_end {w : Int} {a b : List Int} {i j : Nat} (h : ¬ (i < a.length ∧ j < b.length)) : Mo w a b i j = 0 := by rw [Mo, if_neg h]
theorem Mo_in {w : Int} {a b : List Int} {i j : Nat} (h1 : i < a.length) (h2 : j < b.length) : Mo w a b i j = max (max (Mo w a b (i + 1) j) (Mo w a b i (j + 1))) (if nth a i - nth b j ≤ w ∧ nth b j - nth a i ≤ w then 1 + Mo w a b (i + 1) (j + 1) else 0) := by rw [Mo, if_pos ⟨h1, h2⟩]
theorem Mo_mono1 (w : Int) (a b : List Int) (i j : Nat) : Mo w a b (i + 1) j ≤ Mo w a b i j := by
  by_cases h : i < a.length ∧ j < b.length
  · rw [Mo_in h.1 h.2]; omega
  · rw [Mo_end (i := i + 1) (by omega)]; omega
theorem Mo_mono2 (w : Int) (a b : List Int) (i j : Nat) : Mo w a b i (j + 1) ≤ Mo w a b i j := by
  by_cases h : i < a.length ∧ j < b.length
  · rw [Mo_in h.1 h.2]; omega
  · rw [Mo_end (j := j + 1) (by omega)]; omega
theorem Mo_lip (w : Int) (a b : List Int) : ∀ (n i j : Nat), (a.length - i) + (b.length - j) ≤ n → Mo w a b i j ≤ 1 + Mo w a b i (j + 1) ∧ Mo w a b i j ≤ 1 + Mo w a b (i + 1) j
  | 0, i, j, hn => by rw [Mo_end (i := i) (j := j) (by omega)]; omega
  | n + 1, i, j, hn => by
    by_cases h : i < a.length ∧ j < b.length
    · have h1 := Mo_lip w a b n (i + 1) j (by omega)
      have h2 := Mo_lip w a b n i (j + 1) (by omega)
      have m1 := Mo_mono1 w a b i (j + 1)
      have m2 := Mo_mono2 w a b (i + 1) j
      rw [Mo_in h.1 h.2]
      split <;> omega
    · rw [Mo_end h]; omega
theorem Mo_near {w : Int} {a b : List Int} {i j : Nat} (h1 : i < a.length) (h2 : j < b.length) (h : ¬ w < nth a i - nth b j) (h' : ¬ w < nth b j - nth a i) : Mo w a b i j = 1 + Mo w a b (i + 1) (j + 1) := by
  have l1 := (Mo_lip w a b _ (i + 1) j (Nat.le_refl _)).1
  have l2 := (Mo_lip w a b _ i (j + 1) (Nat.le_refl _)).2
  rw [Mo_in h1 h2, if_pos ⟨by omega, by omega⟩]
  omega
theorem Mo_small {w : Int} {a b : List Int} (hb : okTo b b.length = true) : ∀ (n i j : Nat), b.length - j ≤ n → (∀ y, j ≤ y → y < b.length → w < nth b y - nth a i) → Mo w a b i j = Mo w a b (i + 1) j
  | 0, i, j, hn, _ => by rw [Mo_end (by omega), Mo_end (by omega)]
  | n + 1, i, j, hn, hy => by
    by_cases h : i < a.length ∧ j < b.length
    · have e := Mo_small hb n i (j + 1) (by omega) fun y g => hy y (by omega)
      have m := Mo_mono2 w a b (i + 1) j
      have hj := hy j (Nat.le_refl _) h.2
      rw [Mo_in h.1 h.2, if_neg (by omega)]
      omega
    · rw [Mo_end h, Mo_end (by omega)]
theorem Mo_great {w : Int} {a b : List Int} (ha : okTo a a.length = true) : ∀ (n i j : Nat), a.length - i ≤ n → (∀ x, i ≤ x → x < a.length → w < nth a x - nth b j) → Mo w a b i j = Mo w a b i (j + 1)
  | 0, i, j, hn, _ => by rw [Mo_end (by omega), Mo_end (by omega)]
  | n + 1, i, j, hn, hx => by
    by_cases h : i < a.length ∧ j < b.length
    · have e := Mo_great ha n (i + 1) j (by omega) fun x g => hx x (by omega)
      have m := Mo_mono1 w a b i (j + 1)
      have hj := hx i (Nat.le_refl _) h.1
      rw [Mo_in h.1 h.2, if_neg (by omega)]
      omega
    · rw [Mo_end h, Mo_end (by omega)]
/-- A place of the search for the first pair that begins a greatest matching. -/
def Fnd (w : Int) (a b : List Int) (m x y : Nat) : Prop := nth a x - nth b y ≤ w ∧ nth b y - nth a x ≤ w ∧ 1 + Mo w a b (x + 1) (y + 1) = m
structure Hd (w : Int) (a b : List Int) (i j x y : Nat) : Prop where
  eq : gr w a b i j = (x, y) :: gr w a b (x + 1) (y + 1)
  ix : i ≤ x
  jy : j ≤ y
  xa : x < a.length
  yb : y < b.length
  fnd : Fnd w a b (Mo w a b i j) x y
  bef : ∀ x' y', i ≤ x' → j ≤ y' → y' < b.length → (x' < x ∨ x' = x ∧ y' < y) → ¬ Fnd w a b (Mo w a b i j) x' y'
theorem gr_hd {w : Int} {a b : List Int} (ha : okTo a a.length = true) (hb : okTo b b.length = true) : ∀ (n i j : Nat), (a.length - i) + (b.length - j) ≤ n → (Mo w a b i j = 0 ∧ gr w a b i j = []) ∨ (0 < Mo w a b i j ∧ ∃ x y, Hd w a b i j x y)
  | 0, i, j, hn => .inl ⟨Mo_end (by omega), gr_end (by omega)⟩
  | n + 1, i, j, hn => by
    by_cases h : i < a.length ∧ j < b.length
    · by_cases g1 : w < nth a i - nth b j
      · have e1 := gr_great h.1 h.2 g1
        have hx : ∀ x, i ≤ x → x < a.length → w < nth a x - nth b j := fun x k k' => by have := okTo_asc ha k k'; omega
        have e2 := Mo_great (b := b) ha _ i j (Nat.le_refl _) hx
        rcases gr_hd (w := w) ha hb n i (j + 1) (by omega) with ⟨k1, k2⟩ | ⟨k1, x, y, k⟩
        · exact .inl ⟨by omega, by rw [e1, k2]⟩
        · refine .inr ⟨by omega, x, y, ⟨by rw [e1, k.eq], k.ix, by have := k.jy; omega, k.xa, k.yb, by rw [e2]; exact k.fnd, fun x' y' p1 p2 p3 p4 => ?_⟩⟩
          rw [e2]
          rcases Nat.lt_or_ge j y' with q | q
          · exact k.bef x' y' p1 (by omega) p3 p4
          · obtain rfl : y' = j := by omega
            rintro ⟨f1, f2, -⟩
            have := hx x' p1 (by have := k.xa; omega)
            omega
      · by_cases g2 : w < nth b j - nth a i
        · have e1 := gr_small h.1 h.2 g1 g2
          have hy : ∀ y, j ≤ y → y < b.length → w < nth b y - nth a i := fun y k k' => by have := okTo_asc hb k k'; omega
          have e2 := Mo_small (a := a) hb _ i j (Nat.le_refl _) hy
          rcases gr_hd (w := w) ha hb n (i + 1) j (by omega) with ⟨k1, k2⟩ | ⟨k1, x, y, k⟩
          · exact .inl ⟨by omega, by rw [e1, k2]⟩
          · refine .inr ⟨by omega, x, y, ⟨by rw [e1, k.eq], by have := k.ix; omega, k.jy, k.xa, k.yb, by rw [e2]; exact k.fnd, fun x' y' p1 p2 p3 p4 => ?_⟩⟩
            rw [e2]
            rcases Nat.lt_or_ge i x' with q | q
            · exact k.bef x' y' (by omega) p2 p3 p4
            · obtain rfl : x' = i := by omega
              rintro ⟨f1, f2, -⟩
              have := hy y' p2 p3
              omega
        · have e := Mo_near h.1 h.2 g1 g2
          exact .inr ⟨by omega, i, j, ⟨gr_pair h.1 h.2 g1 g2, Nat.le_refl _, Nat.le_refl _, h.1, h.2, ⟨by omega, by omega, e.symm⟩, fun x' y' p1 p2 p3 p4 => by omega⟩⟩
    · exact .inl ⟨Mo_end h, gr_end h⟩
theorem gr_len {w : Int} {a b : List Int} (ha : okTo a a.length = true) (hb : okTo b b.length = true) : ∀ (n i j : Nat), (a.length - i) + (b.length - j) ≤ n → (gr w a b i j).length = Mo w a b i j
  | 0, i, j, hn => by rw [Mo_end (by omega), gr_end (by omega)]; rfl
  | n + 1, i, j, hn => by
    rcases gr_hd (w := w) ha hb _ i j (Nat.le_refl _) with ⟨k1, k2⟩ | ⟨k1, x, y, k⟩
    · rw [k1, k2]; rfl
    · rw [k.eq, List.length_cons, gr_len ha hb n (x + 1) (y + 1) (by have := k.ix; have := k.jy; have := k.xa; omega)]
      have := k.fnd.2.2
      omega
theorem gr_le (w : Int) (a b : List Int) : ∀ (n i j : Nat), (a.length - i) + (b.length - j) ≤ n → (gr w a b i j).length ≤ a.length - i ∧ (gr w a b i j).length ≤ b.length - j
  | 0, i, j, hn => by rw [gr_end (by omega)]; simp
  | n + 1, i, j, hn => by
    by_cases h : i < a.length ∧ j < b.length
    · have h1 := gr_le w a b n i (j + 1) (by omega)
      have h2 := gr_le w a b n (i + 1) j (by omega)
      have h3 := gr_le w a b n (i + 1) (j + 1) (by omega)
      rw [gr, if_pos h]
      split
      · omega
      · split
        · omega
        · rw [List.length_cons]; omega
    · rw [gr_end h]; simp
/-! ### The best of all matchings -/
def lxl : List (Nat × Nat) → List (Nat × Nat) → Bool
  | p :: a, q :: b => if p = q then lxl a b else decide (p.1 < q.1 ∨ p.1 = q.1 ∧ p.2 < q.2)
  | _, _ => false
def bet (a b : List (Nat × Nat)) : Bool := if a.length = b.length then lxl a b else decide (b.length < a.length)
theorem lxl_irrefl : ∀ a : List (Nat × Nat), lxl a a = false
  | [] => rfl
  | p :: a => by unfold lxl; rw [if_pos rfl]; exact lxl_irrefl a
theorem lxl_tri : ∀ a b : List (Nat × Nat), a.length = b.length → lxl a b = false → lxl b a = false → a = b
  | [], [], _, _, _ => rfl
  | p :: a, q :: b, hl, h1, h2 => by
    unfold lxl at h1 h2
    by_cases e : p = q
    · subst e
      rw [if_pos rfl] at h1 h2
      rw [lxl_tri a b (by simpa using hl) h1 h2]
    · rw [if_neg e] at h1
      rw [if_neg (Ne.symm e)] at h2
      have h1 := of_decide_eq_false h1
      have h2 := of_decide_eq_false h2
      exact absurd (Prod.ext (by omega) (by omega)) e
  | [], _ :: _, hl, _, _ => by simp at hl
  | _ :: _, [], hl, _, _ => by simp at hl
theorem lxl_trans : ∀ a b c : List (Nat × Nat), a.length = b.length → b.length = c.length → lxl a b = true → lxl b c = true → lxl a c = true
  | p :: a, q :: b, r :: c, hl, hl', h1, h2 => by
    unfold lxl at h1 h2 ⊢
    by_cases e : p = q
    · subst e
      rw [if_pos rfl] at h1
      by_cases e' : p = r
      · subst e'
        rw [if_pos rfl] at h2 ⊢
        exact lxl_trans a b c (by simpa using hl) (by simpa using hl') h1 h2
      · rw [if_neg e'] at h2 ⊢
        exact h2
    · rw [if_neg e] at h1
      have h1 := of_decide_eq_true h1
      by_cases e' : q = r
      · subst e'
        rw [if_neg e]
        exact decide_eq_true h1
      · rw [if_neg e'] at h2
        have h2 := of_decide_eq_true h2
        rw [if_neg (fun k => by subst k; omega)]
        exact decide_eq_true (by omega)
  | [], _, _, _, _, h1, _ => by simp [lxl] at h1
  | _ :: _, [], _, _, _, h1, _ => by simp [lxl] at h1
  | _ :: _, _ :: _, [], _, _, _, h2 => by simp [lxl] at h2
theorem bet_irrefl (a : List (Nat × Nat)) : bet a a = false := by unfold bet; rw [if_pos rfl]; exact lxl_irrefl a
theorem bet_tri (a b : List (Nat × Nat)) (h1 : bet a b = false) (h2 : bet b a = false) : a = b := by
  unfold bet at h1 h2
  by_cases e : a.length = b.length
  · rw [if_pos e] at h1
    rw [if_pos e.symm] at h2
    exact lxl_tri a b e h1 h2
  · rw [if_neg e] at h1
    rw [if_neg (Ne.symm e)] at h2
    have h1 := of_decide_eq_false h1
    have h2 := of_decide_eq_false h2
    omega
theorem bet_trans (a b c : List (Nat × Nat)) (h1 : bet a b = true) (h2 : bet b c = true) : bet a c = true := by
  unfold bet at h1 h2 ⊢
  by_cases e : a.length = b.length
  · rw [if_pos e] at h1
    by_cases e' : b.length = c.length
    · rw [if_pos e'] at h2
      rw [if_pos (e.trans e')]
      exact lxl_trans a b c e e' h1 h2
    · rw [if_neg e'] at h2
      have h2 := of_decide_eq_true h2
      rw [if_neg (by omega)]
      exact decide_eq_true (by omega)
  · rw [if_neg e] at h1
    have h1 := of_decide_eq_true h1
    by_cases e' : b.length = c.length
    · rw [if_neg (by omega)]
      exact decide_eq_true (by omega)
    · rw [if_neg e'] at h2
      have h2 := of_decide_eq_true h2
      rw [if_neg (by omega)]
      exact decide_eq_true (by omega)
/-- Not better than one that is not better than the third. -/
theorem bet_neg (x n b : List (Nat × Nat)) (h1 : bet x n = false) (h2 : bet n b = false) : bet x b = false := by
  cases h : bet x b
  · rfl
  · cases h3 : bet n x
    · have := bet_tri _ _ h1 h3
      subst this
      rw [h] at h2; cases h2
    · have := bet_trans _ _ _ h3 h
      rw [this] at h2; cases h2
def ner (w : Int) (a b : List Int) (x y : Nat) : Prop := nth a x - nth b y ≤ w ∧ nth b y - nth a x ≤ w
instance (w : Int) (a b : List Int) (x y : Nat) : Decidable (ner w a b x y) := by unfold ner; infer_instance
/-- A matching of the slots from i on, that does not use what U says. -/
def Ms (w : Int) (a b : List Int) : Nat → (Nat → Prop) → List (Nat × Nat) → Prop
  | _, _, [] => True
  | i, U, p :: m => i ≤ p.1 ∧ p.1 < a.length ∧ p.2 < b.length ∧ ¬ U p.2 ∧ ner w a b p.1 p.2 ∧ Ms w a b (p.1 + 1) (fun z => U z ∨ z = p.2) m
theorem Ms.weak {w : Int} {a b : List Int} : ∀ {m : List (Nat × Nat)} {i i' : Nat} {U U' : Nat → Prop}, Ms w a b i U m → i' ≤ i → (∀ z, U' z → U z) → Ms w a b i' U' m
  | [], _, _, _, _, _, _, _ => trivial
  | p :: m, i, i', U, U', ⟨h1, h2, h3, h4, h5, h6⟩, hi, hU => ⟨by omega, h2, h3, fun k => h4 (hU _ k), h5, h6.weak (Nat.le_refl _) fun z k => k.imp_left (hU z)⟩
theorem Ms.skip {w : Int} {a b : List Int} {j : Nat} : ∀ {m : List (Nat × Nat)} {i : Nat} {U : Nat → Prop}, Ms w a b i U m → (∀ x, i ≤ x → x < a.length → ¬ ner w a b x j) → Ms w a b i (fun z => U z ∨ z = j) m
  | [], _, _, _, _ => trivial
  | p :: m, i, U, ⟨h1, h2, h3, h4, h5, h6⟩, hj => by
    refine ⟨h1, h2, h3, ?_, h5, ?_⟩
    · rintro (k | k)
      · exact h4 k
      · rw [k] at h5; exact hj p.1 h1 h2 h5
    · exact (h6.skip (fun x k => hj x (by omega))).weak (Nat.le_refl _) fun z k => by rcases k with (k | k) | k <;> simp [k]
theorem Ms.swap {w : Int} {a b : List Int} {j y k : Nat} (hyb : y < b.length) (hn : ∀ x, k ≤ x → x < a.length → ner w a b x j → ner w a b x y) : ∀ {m : List (Nat × Nat)} {i : Nat} {V W : Nat → Prop}, k ≤ i → Ms w a b i V m → V y → (∀ z, z ≠ j → z ≠ y → W z → V z) → (W y → V j) →
    Ms w a b i W (m.map fun p => (p.1, if p.2 = j then y else p.2))
  | [], _, _, _, _, _, _, _, _ => trivial
  | p :: m, i, V, W, hki, ⟨h1, h2, h3, h4, h5, h6⟩, hV, hz, hW => by
    by_cases e : p.2 = j
    · refine ⟨h1, h2, ?_, ?_, ?_, ?_⟩
      · simp only [e, if_true]; exact hyb
      · simp only [e, if_true]; exact fun k' => h4 (e ▸ hW k')
      · simp only [e, if_true]; exact hn p.1 (by omega) h2 (e ▸ h5)
      · simp only [e, if_true]
        refine Ms.swap hyb hn (by omega) h6 (.inl hV) ?_ ?_
        · rintro z g1 g2 (g | g)
          · exact .inl (hz z g1 g2 g)
          · exact absurd g g2
        · exact fun _ => .inr e.symm
    · have ey : p.2 ≠ y := fun g => h4 (g ▸ hV)
      refine ⟨h1, h2, ?_, ?_, ?_, ?_⟩
      · simp only [e, if_false]; exact h3
      · simp only [e, if_false]; exact fun k' => h4 (hz _ e ey k')
      · simp only [e, if_false]; exact h5
      · simp only [e, if_false]
        refine Ms.swap hyb hn (by omega) h6 (.inl hV) ?_ ?_
        · rintro z g1 g2 (g | g)
          · exact .inl (hz z g1 g2 g)
          · exact .inr g
        · rintro (g | g)
          · exact .inl (hW g)
          · exact absurd g.symm ey
theorem Ms.none {w : Int} {a b : List Int} {j : Nat} : ∀ {m : List (Nat × Nat)} {i : Nat} {U : Nat → Prop}, Ms w a b i U m → U j → m.filter (fun p => decide (p.2 ≠ j)) = m
  | [], _, _, _, _ => rfl
  | p :: m, i, U, ⟨h1, h2, h3, h4, h5, h6⟩, hj => by
    have e : p.2 ≠ j := fun g => h4 (g ▸ hj)
    rw [List.filter_cons, if_pos (by simpa using e), Ms.none h6 (.inl hj)]
theorem Ms.del {w : Int} {a b : List Int} {j : Nat} : ∀ {m : List (Nat × Nat)} {i : Nat} {U : Nat → Prop}, Ms w a b i U m → Ms w a b i (fun z => U z ∨ z = j) (m.filter fun p => decide (p.2 ≠ j)) ∧ m.length ≤ 1 + (m.filter fun p => decide (p.2 ≠ j)).length
  | [], _, _, _ => ⟨trivial, by simp⟩
  | p :: m, i, U, ⟨h1, h2, h3, h4, h5, h6⟩ => by
    by_cases e : p.2 = j
    · rw [List.filter_cons, if_neg (by simpa using e), Ms.none h6 (.inr e.symm)]
      exact ⟨h6.weak (by omega) fun z k => e ▸ k, by simp; omega⟩
    · rw [List.filter_cons, if_pos (by simpa using e)]
      obtain ⟨k1, k2⟩ := Ms.del (j := j) h6
      refine ⟨⟨h1, h2, h3, ?_, h5, ?_⟩, by simp only [List.length_cons]; omega⟩
      · rintro (k | k)
        · exact h4 k
        · exact e k
      · exact k1.weak (Nat.le_refl _) fun z k => by rcases k with (k | k) | k <;> simp [k]
theorem gr_opt {w : Int} {a b : List Int} (ha : okTo a a.length = true) (hb : okTo b b.length = true) : ∀ (n i j : Nat), (a.length - i) + (b.length - j) ≤ n → ∀ (U : Nat → Prop) (m : List (Nat × Nat)), (∀ y, y < j → U y) → Ms w a b i U m →
    m.length ≤ (gr w a b i j).length ∧ (m.length = (gr w a b i j).length → lxl m (gr w a b i j) = false)
  | 0, i, j, hn, U, m, hU, hm => by
    rw [gr_end (by omega)]
    cases m with
    | nil => exact ⟨Nat.le_refl _, fun _ => rfl⟩
    | cons p m =>
      obtain ⟨h1, h2, h3, -⟩ := hm
      omega
  | n + 1, i, j, hn, U, m, hU, hm => by
    by_cases h : i < a.length ∧ j < b.length
    · by_cases g1 : w < nth a i - nth b j
      · rw [gr_great h.1 h.2 g1]
        refine gr_opt ha hb n i (j + 1) (by omega) (fun z => U z ∨ z = j) m (fun y hy => ?_) (hm.skip fun x k k' q => ?_)
        · rcases Nat.lt_or_ge y j with q | q
          · exact .inl (hU y q)
          · exact .inr (by omega)
        · have := okTo_asc ha k k'
          have := q.1
          omega
      · by_cases g2 : w < nth b j - nth a i
        · rw [gr_small h.1 h.2 g1 g2]
          refine gr_opt ha hb n (i + 1) j (by omega) U m hU ?_
          cases m with
          | nil => trivial
          | cons p m =>
            obtain ⟨h1, h2, h3, h4, h5, h6⟩ := hm
            refine ⟨?_, h2, h3, h4, h5, h6⟩
            rcases Nat.lt_or_ge i p.1 with q | q
            · exact q
            · have hpi : p.1 = i := by omega
              have hj : j ≤ p.2 := by
                rcases Nat.lt_or_ge p.2 j with q' | q'
                · exact absurd (hU _ q') h4
                · exact q'
              have := okTo_asc hb hj h3
              rw [hpi] at h5
              have := h5.2
              omega
        · rw [gr_pair h.1 h.2 g1 g2]
          have IH := gr_opt (w := w) ha hb n (i + 1) (j + 1) (by omega)
          have hUj : ∀ y, y < j + 1 → U y ∨ y = j := fun y hy => by
            rcases Nat.lt_or_ge y j with q | q
            · exact .inl (hU y q)
            · exact .inr (by omega)
          cases m with
          | nil => exact ⟨by simp, fun k => by simp at k⟩
          | cons p m =>
            have hm0 := hm
            obtain ⟨h1, h2, h3, h4, h5, h6⟩ := hm
            have hj : j ≤ p.2 := by
              rcases Nat.lt_or_ge p.2 j with q' | q'
              · exact absurd (hU _ q') h4
              · exact q'
            rcases Nat.lt_or_ge i p.1 with q | q
            · have hm1 : Ms w a b (i + 1) U (p :: m) := ⟨q, h2, h3, h4, h5, h6⟩
              obtain ⟨k1, k2⟩ := Ms.del (j := j) hm1
              have K := (IH (fun z => U z ∨ z = j) _ hUj k1).1
              refine ⟨by simp only [List.length_cons] at k2 ⊢; omega, fun _ => ?_⟩
              unfold lxl
              rw [if_neg (fun g => by rw [g] at q; exact Nat.lt_irrefl _ q)]
              exact decide_eq_false (by show ¬ (p.1 < i ∨ p.1 = i ∧ p.2 < j); omega)
            · have hpi : p.1 = i := by omega
              by_cases e : p.2 = j
              · have K := IH (fun z => U z ∨ z = j) m hUj (e ▸ hpi ▸ h6)
                refine ⟨by simp only [List.length_cons]; omega, fun k => ?_⟩
                unfold lxl
                rw [if_pos (Prod.ext hpi e)]
                exact K.2 (by simpa using k)
              · have K := (IH (fun z => U z ∨ z = j) _ hUj (Ms.swap (j := j) (y := p.2) (k := i + 1) (V := fun z => U z ∨ z = p.2) h3 (fun x k k' q' => ?_) (Nat.le_refl _) (hpi ▸ h6) (.inr rfl) ?_ ?_)).1
                · rw [List.length_map] at K
                  refine ⟨by simp only [List.length_cons]; omega, fun _ => ?_⟩
                  unfold lxl
                  rw [if_neg (fun g => e (by rw [g]))]
                  exact decide_eq_false (by show ¬ (p.1 < i ∨ p.1 = i ∧ p.2 < j); omega)
                · have x1 := okTo_asc ha (show i ≤ x by omega) k'
                  have x2 := okTo_asc hb hj h3
                  rw [hpi] at h5
                  have x3 := h5.2
                  have x4 := q'.1
                  exact ⟨by omega, by omega⟩
                · rintro z g1 g2 (g | g)
                  · exact .inl g
                  · exact absurd g g1
                · rintro (g | g)
                  · exact absurd g h4
                  · exact absurd g e
    · rw [gr_end h]
      cases m with
      | nil => exact ⟨Nat.le_refl _, fun _ => rfl⟩
      | cons p m =>
        obtain ⟨h1, h2, h3, h4, -⟩ := hm
        have : ¬ p.2 < j := fun q => h4 (hU _ q)
        omega

theorem gr_Ms (w : Int) (a b : List Int) : ∀ (n i j : Nat), (a.length - i) + (b.length - j) ≤ n → Ms w a b i (fun y => y < j) (gr w a b i j)
  | 0, i, j, hn => by rw [gr_end (by omega)]; trivial
  | n + 1, i, j, hn => by
    by_cases h : i < a.length ∧ j < b.length
    · by_cases g1 : w < nth a i - nth b j
      · rw [gr_great h.1 h.2 g1]
        exact (gr_Ms w a b n i (j + 1) (by omega)).weak (Nat.le_refl _) fun z k => by omega
      · by_cases g2 : w < nth b j - nth a i
        · rw [gr_small h.1 h.2 g1 g2]
          exact (gr_Ms w a b n (i + 1) j (by omega)).weak (by omega) fun z k => k
        · rw [gr_pair h.1 h.2 g1 g2]
          refine ⟨Nat.le_refl _, h.1, h.2, Nat.lt_irrefl _, ⟨by show nth a i - nth b j ≤ w; omega, by show nth b j - nth a i ≤ w; omega⟩, ?_⟩
          exact (gr_Ms w a b n (i + 1) (j + 1) (by omega)).weak (Nat.le_refl _) fun z k => by
            show z < j + 1
            rcases k with k | k
            · omega
            · have : z = j := k
              omega
    · rw [gr_end h]; trivial
/-- What the search over all matchings does. -/
def trS (w : Int) (a b : List Int) (f : List (Nat × Nat) → List Bool → List (Nat × Nat)) (l : List (Nat × Nat)) (us : List Bool) (i j : Nat) (best : List (Nat × Nat)) : List (Nat × Nat) :=
  if us.getD j false = false ∧ ner w a b i j then (if bet (f (l ++ [(i, j)]) (us.set j true)) best = true then f (l ++ [(i, j)]) (us.set j true) else best) else best
def trL (w : Int) (a b : List Int) (f : List (Nat × Nat) → List Bool → List (Nat × Nat)) (l : List (Nat × Nat)) (us : List Bool) (i : Nat) : Nat → List (Nat × Nat)
  | 0 => f l us
  | j + 1 => trS w a b f l us i j (trL w a b f l us i j)
def tr (w : Int) (a b : List Int) : Nat → List (Nat × Nat) → List Bool → List (Nat × Nat)
  | 0, l, _ => l
  | n + 1, l, us => trL w a b (tr w a b n) l us (a.length - (n + 1)) b.length
theorem lxl_app : ∀ l m m' : List (Nat × Nat), lxl (l ++ m) (l ++ m') = lxl m m'
  | [], _, _ => rfl
  | p :: l, m, m' => by show lxl (p :: (l ++ m)) (p :: (l ++ m')) = _; rw [lxl, if_pos rfl]; exact lxl_app l m m'
def Us (us : List Bool) (z : Nat) : Prop := us.getD z false = true
theorem Us_set {us : List Bool} {y z : Nat} (h : Us us z ∨ z = y) (hy : y < us.length) : Us (us.set y true) z := by
  unfold Us at h ⊢
  rw [List.getD_eq_getElem?_getD] at h ⊢
  by_cases e : y = z
  · subst e; simp [hy]
  · rw [List.getElem?_set_ne e]
    rcases h with h | h
    · exact h
    · exact absurd h.symm e
theorem Us_of {us : List Bool} {y z : Nat} (h : Us (us.set y true) z) : Us us z ∨ z = y := by
  by_cases e : y = z
  · exact .inr e.symm
  · refine .inl ?_
    unfold Us at h ⊢
    rw [List.getD_eq_getElem?_getD, List.getElem?_set_ne e, ← List.getD_eq_getElem?_getD] at h
    exact h
theorem tr_best (w : Int) (a b : List Int) : ∀ (n : Nat), n ≤ a.length → ∀ (l : List (Nat × Nat)) (us : List Bool), us.length = b.length → ∃ m, tr w a b n l us = l ++ m ∧ Ms w a b (a.length - n) (Us us) m ∧ ∀ m', Ms w a b (a.length - n) (Us us) m' → bet (l ++ m') (l ++ m) = false
  | 0, hn, l, us, hu => by
    refine ⟨[], by simp [tr], trivial, fun m' hm => ?_⟩
    cases m' with
    | nil => exact bet_irrefl _
    | cons p m => obtain ⟨h1, h2, -⟩ := hm; omega
  | n + 1, hn, l, us, hu => by
    have IH := tr_best w a b n (by omega)
    have hi : a.length - (n + 1) + 1 = a.length - n := by omega
    generalize hI : a.length - (n + 1) = i at *
    have P : ∀ k, k ≤ b.length → ∃ m, trL w a b (tr w a b n) l us i k = l ++ m ∧ Ms w a b i (Us us) m ∧ ∀ m', Ms w a b i (Us us) m' → (∀ p m'', m' = p :: m'' → p.1 = i → p.2 < k) → bet (l ++ m') (l ++ m) = false := by
      intro k
      induction k with
      | zero =>
        intro _
        obtain ⟨m, h1, h2, h3⟩ := IH l us hu
        refine ⟨m, h1, h2.weak (by omega) fun _ k => k, fun m' hm hp => h3 m' ?_⟩
        cases m' with
        | nil => trivial
        | cons p m'' =>
          obtain ⟨g1, g2, g3, g4, g5, g6⟩ := hm
          refine ⟨?_, g2, g3, g4, g5, g6⟩
          rcases Nat.lt_or_ge i p.1 with q | q
          · omega
          · have := hp p m'' rfl (by omega)
            omega
      | succ k ih =>
        intro hk
        obtain ⟨m, h1, h2, h3⟩ := ih (by omega)
        show ∃ m, trS w a b (tr w a b n) l us i k (trL w a b (tr w a b n) l us i k) = l ++ m ∧ _
        unfold trS
        rw [h1]
        by_cases hc : us.getD k false = false ∧ ner w a b i k
        · rw [if_pos hc]
          obtain ⟨m1, e1, e2, e3⟩ := IH (l ++ [(i, k)]) (us.set k true) (by simpa using hu)
          rw [e1]
          have eA : ∀ m' : List (Nat × Nat), l ++ [(i, k)] ++ m' = l ++ (i, k) :: m' := fun m' => by simp
          rw [eA]
          have hM : Ms w a b i (Us us) ((i, k) :: m1) := ⟨Nat.le_refl _, by show i < _; omega, hk, (fun g => by unfold Us at g; rw [hc.1] at g; cases g), hc.2, e2.weak (by show i + 1 ≤ _; omega) fun z g => Us_set g (by omega)⟩
          have hO : ∀ m', Ms w a b i (Us us) m' → (∃ m'', m' = (i, k) :: m'') → bet (l ++ m') (l ++ (i, k) :: m1) = false := by
            rintro _ hm ⟨m'', rfl⟩
            obtain ⟨g1, g2, g3, g4, g5, g6⟩ := hm
            have := e3 m'' (g6.weak (by show _ ≤ i + 1; omega) fun z g => Us_of g)
            rwa [eA, eA] at this
          have hS : ∀ m', (∀ p m'', m' = p :: m'' → p.1 = i → p.2 < k + 1) → (∀ p m'', m' = p :: m'' → p.1 = i → p.2 < k) ∨ ∃ m'', m' = (i, k) :: m'' := by
            intro m' hp
            cases m' with
            | nil => exact .inl fun p m'' e => by cases e
            | cons q m'' =>
              by_cases g : q.1 = i ∧ q.2 = k
              · exact .inr ⟨m'', by rw [show q = (i, k) from Prod.ext g.1 g.2]⟩
              · refine .inl fun p m3 e e' => ?_
                cases e
                have := hp q m'' rfl e'
                omega
          by_cases hb : bet (l ++ (i, k) :: m1) (l ++ m) = true
          · rw [if_pos hb]
            refine ⟨_, rfl, hM, fun m' hm hp => ?_⟩
            rcases hS m' hp with g | g
            · cases q : bet (l ++ m') (l ++ (i, k) :: m1)
              · rfl
              · have := bet_trans _ _ _ q hb
                rw [h3 m' hm g] at this; cases this
            · exact hO m' hm g
          · rw [if_neg hb]
            refine ⟨m, rfl, h2, fun m' hm hp => ?_⟩
            rcases hS m' hp with g | g
            · exact h3 m' hm g
            · exact bet_neg _ _ _ (hO m' hm g) (by simpa using hb)
        · rw [if_neg hc]
          refine ⟨m, rfl, h2, fun m' hm hp => h3 m' hm fun p m'' e e' => ?_⟩
          subst e
          obtain ⟨g1, g2, g3, g4, g5, g6⟩ := hm
          have := hp p m'' rfl e'
          rcases Nat.lt_or_ge p.2 k with q | q
          · exact q
          · exfalso
            have ek : p.2 = k := by omega
            refine hc ⟨?_, by rw [← e', ← ek]; exact g5⟩
            cases q : us.getD k false
            · rfl
            · exact absurd (show Us us p.2 from by rw [ek]; exact q) g4
    obtain ⟨m, h1, h2, h3⟩ := P b.length (Nat.le_refl _)
    refine ⟨m, ?_, h2, fun m' hm => h3 m' hm fun p m'' e _ => ?_⟩
    · show trL w a b (tr w a b n) l us (a.length - (n + 1)) b.length = _
      rw [hI, h1]
    · subst e; exact hm.2.2.1
theorem tr_gr {w : Int} {a b : List Int} (ha : okTo a a.length = true) (hb : okTo b b.length = true) : tr w a b a.length [] (List.replicate b.length false) = gr w a b 0 0 := by
  obtain ⟨m, h1, h2, h3⟩ := tr_best w a b a.length (Nat.le_refl _) [] (List.replicate b.length false) (by simp)
  rw [h1]
  have hU : ∀ z, ¬ Us (List.replicate b.length false) z := fun z k => by
    unfold Us at k
    rw [List.getD_eq_getElem?_getD, List.getElem?_replicate] at k
    split at k <;> cases k
  have hG := gr_Ms w a b _ 0 0 (Nat.le_refl _)
  have k1 := h3 (gr w a b 0 0) (hG.weak (by omega) fun z k => absurd k (hU z))
  obtain ⟨k2, k3⟩ := gr_opt ha hb _ 0 0 (Nat.le_refl _) (fun _ => False) m (fun y hy => by omega) (h2.weak (by omega) fun z k => k.elim)
  have k4 : bet m (gr w a b 0 0) = false := by
    unfold bet
    split
    · exact k3 ‹_›
    · exact decide_eq_false (by omega)
  exact bet_tri _ _ k4 (by simpa using k1)
end Go.Proofs.Ytmkpblfacnnnoaa
