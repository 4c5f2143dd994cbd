/- Plain laws of chapter 12: the form of a matching, lives. -/
import Derived.Test.YtmkpblfacnnnoaaFrP
namespace Go.Proofs.Ytmkpblfacnnnoaa
/-! ### Plain laws of the matching -/
theorem gr_max {w : Int} {a b : List Int} (ha : okTo a a.length = true) (hb : okTo b b.length = true) : ∀ (n i j : Nat), (a.length - i) + (b.length - j) ≤ n → ∀ x y, i ≤ x → x < a.length → j ≤ y → y < b.length → ner w a b x y → (∃ p ∈ gr w a b i j, p.1 = x) ∨ ∃ p ∈ gr w a b i j, p.2 = y
  | 0, i, j, hn, x, y, h1, h2, h3, h4, _ => by omega
  | n + 1, i, j, hn, x, y, h1, h2, h3, h4, hN => by
    have h : i < a.length ∧ j < b.length := ⟨by omega, by omega⟩
    have ax := okTo_asc ha h1 h2
    have by_ := okTo_asc hb h3 h4
    obtain ⟨n1, n2⟩ := hN
    by_cases g1 : w < nth a i - nth b j
    · rw [gr_great h.1 h.2 g1]
      refine gr_max ha hb n i (j + 1) (by omega) x y h1 h2 ?_ h4 ⟨n1, n2⟩
      rcases Nat.lt_or_ge j y with q | q
      · exact q
      · obtain rfl : y = j := by omega
        omega
    · by_cases g2 : w < nth b j - nth a i
      · rw [gr_small h.1 h.2 g1 g2]
        refine gr_max ha hb n (i + 1) j (by omega) x y ?_ h2 h3 h4 ⟨n1, n2⟩
        rcases Nat.lt_or_ge i x with q | q
        · exact q
        · obtain rfl : x = i := by omega
          omega
      · rw [gr_pair h.1 h.2 g1 g2]
        by_cases ex : x = i
        · exact .inl ⟨_, List.mem_cons_self, ex.symm⟩
        · by_cases ey : y = j
          · exact .inr ⟨_, List.mem_cons_self, ey.symm⟩
          · rcases gr_max ha hb n (i + 1) (j + 1) (by omega) x y (by omega) h2 (by omega) h4 ⟨n1, n2⟩ with ⟨p, q, e⟩ | ⟨p, q, e⟩
            · exact .inl ⟨p, List.mem_cons_of_mem _ q, e⟩
            · exact .inr ⟨p, List.mem_cons_of_mem _ q, e⟩
theorem gr_swap {w : Int} (hw : 0 ≤ w) (a b : List Int) : ∀ (n i j : Nat), (a.length - i) + (b.length - j) ≤ n → gr w b a j i = (gr w a b i j).map fun p => (p.2, p.1)
  | 0, i, j, hn => by rw [gr_end (by omega), gr_end (by omega)]; rfl
  | n + 1, i, j, hn => by
    by_cases h : i < a.length ∧ j < b.length
    · by_cases g1 : w < nth a i - nth b j
      · rw [gr_great h.1 h.2 g1, gr_small h.2 h.1 (by omega) (by omega)]
        exact gr_swap hw a b n i (j + 1) (by omega)
      · by_cases g2 : w < nth b j - nth a i
        · rw [gr_small h.1 h.2 g1 g2, gr_great h.2 h.1 g2]
          exact gr_swap hw a b n (i + 1) j (by omega)
        · rw [gr_pair h.1 h.2 g1 g2, gr_pair h.2 h.1 g2 g1, List.map_cons, gr_swap hw a b n (i + 1) (j + 1) (by omega)]
    · rw [gr_end h, gr_end (by omega)]; rfl
theorem Mo_wide {w w' : Int} (hw : w ≤ w') (a b : List Int) : ∀ (n i j : Nat), (a.length - i) + (b.length - j) ≤ n → Mo w a b i j ≤ Mo w' a b i j
  | 0, i, j, hn => by rw [Mo_end (by omega)]; omega
  | n + 1, i, j, hn => by
    by_cases h : i < a.length ∧ j < b.length
    · have h1 := Mo_wide hw a b n (i + 1) j (by omega)
      have h2 := Mo_wide hw a b n i (j + 1) (by omega)
      have h3 := Mo_wide hw a b n (i + 1) (j + 1) (by omega)
      rw [Mo_in h.1 h.2, Mo_in h.1 h.2]
      split
      · rw [if_pos (by omega)]; omega
      · omega
    · rw [Mo_end h]; omega
theorem gr_wide {w w' : Int} (hw : w ≤ w') {a b : List Int} (ha : okTo a a.length = true) (hb : okTo b b.length = true) : (gr w a b 0 0).length ≤ (gr w' a b 0 0).length := by
  rw [gr_len ha hb _ 0 0 (Nat.le_refl _), gr_len ha hb _ 0 0 (Nat.le_refl _)]
  exact Mo_wide hw a b _ 0 0 (Nat.le_refl _)
theorem nth_add {a : List Int} {k : Nat} (h : k < a.length) (n : Int) : nth (a.map (· + n)) k = nth a k + n := by
  simp [nth, List.getD_eq_getElem?_getD, h]
theorem gr_shift (w n : Int) (a b : List Int) : ∀ (m i j : Nat), (a.length - i) + (b.length - j) ≤ m → gr w (a.map (· + n)) (b.map (· + n)) i j = gr w a b i j
  | 0, i, j, hn => by rw [gr_end (by simp only [List.length_map]; omega), gr_end (by omega)]
  | m + 1, i, j, hn => by
    by_cases h : i < a.length ∧ j < b.length
    · have e1 := nth_add h.1 n
      have e2 := nth_add h.2 n
      have h1 : i < (a.map (· + n)).length := by simpa using h.1
      have h2 : j < (b.map (· + n)).length := by simpa using h.2
      by_cases g1 : w < nth a i - nth b j
      · rw [gr_great h.1 h.2 g1, gr_great h1 h2 (by omega)]
        exact gr_shift w n a b m i (j + 1) (by omega)
      · by_cases g2 : w < nth b j - nth a i
        · rw [gr_small h.1 h.2 g1 g2, gr_small h1 h2 (by omega) (by omega)]
          exact gr_shift w n a b m (i + 1) j (by omega)
        · rw [gr_pair h.1 h.2 g1 g2, gr_pair h1 h2 (by omega) (by omega), gr_shift w n a b m (i + 1) (j + 1) (by omega)]
    · rw [gr_end (by simp only [List.length_map]; omega), gr_end h]
theorem Ms_at {w : Int} {a b : List Int} : ∀ {m : List (Nat × Nat)} {i : Nat} {U : Nat → Prop}, Ms w a b i U m → ∀ p ∈ m, i ≤ p.1 ∧ p.1 < a.length ∧ p.2 < b.length ∧ ner w a b p.1 p.2 ∧ ¬ U p.2
  | [], _, _, _, p, hp => by cases hp
  | q :: m, i, U, ⟨h1, h2, h3, h4, h5, h6⟩, p, hp => by
    rcases List.mem_cons.1 hp with rfl | hp
    · exact ⟨h1, h2, h3, h5, h4⟩
    · obtain ⟨g1, g2, g3, g4, g5⟩ := Ms_at h6 p hp
      exact ⟨by omega, g2, g3, g4, fun k => g5 (.inl k)⟩
theorem gr_at {w : Int} {a b : List Int} {i j : Nat} {p : Nat × Nat} (hp : p ∈ gr w a b i j) : i ≤ p.1 ∧ p.1 < a.length ∧ j ≤ p.2 ∧ p.2 < b.length ∧ ner w a b p.1 p.2 := by
  obtain ⟨h1, h2, h3, h4, h5⟩ := Ms_at (gr_Ms w a b _ i j (Nat.le_refl _)) p hp
  exact ⟨h1, h2, by omega, h3, h4⟩
/-- The pairs ascend in both numbers. -/
def Asc : List (Nat × Nat) → Prop
  | [] => True
  | p :: l => (∀ q ∈ l, p.1 < q.1 ∧ p.2 < q.2) ∧ Asc l
theorem gr_Asc (w : Int) (a b : List Int) : ∀ (n i j : Nat), (a.length - i) + (b.length - j) ≤ n → Asc (gr w a b i j)
  | 0, i, j, hn => by rw [gr_end (by omega)]; trivial
  | n + 1, i, j, hn => by
    by_cases h : i < a.length ∧ j < b.length
    · by_cases g1 : w < nth a i - nth b j
      · rw [gr_great h.1 h.2 g1]; exact gr_Asc w a b n i (j + 1) (by omega)
      · by_cases g2 : w < nth b j - nth a i
        · rw [gr_small h.1 h.2 g1 g2]; exact gr_Asc w a b n (i + 1) j (by omega)
        · rw [gr_pair h.1 h.2 g1 g2]
          exact ⟨fun q hq => by have := gr_at hq; show i < q.1 ∧ j < q.2; omega, gr_Asc w a b n (i + 1) (j + 1) (by omega)⟩
    · rw [gr_end h]; trivial
/-- A near pair whose members are near to no others is in the matching. -/
theorem gr_alone {w : Int} {a b : List Int} (ha : okTo a a.length = true) (hb : okTo b b.length = true) {x y : Nat} (hx : x < a.length) (hy : y < b.length) (hN : ner w a b x y) (h1 : ∀ y', y' < b.length → y' ≠ y → ¬ ner w a b x y') (h2 : ∀ x', x' < a.length → x' ≠ x → ¬ ner w a b x' y) : (x, y) ∈ gr w a b 0 0 := by
  rcases gr_max ha hb _ 0 0 (Nat.le_refl _) x y (Nat.zero_le _) hx (Nat.zero_le _) hy hN with ⟨p, hp, e⟩ | ⟨p, hp, e⟩
  · obtain ⟨-, -, -, k1, k2⟩ := gr_at hp
    by_cases g : p.2 = y
    · rw [show (x, y) = p from Prod.ext e.symm g.symm]; exact hp
    · exact absurd (e ▸ k2) (h1 _ k1 g)
  · obtain ⟨-, k1, -, -, k2⟩ := gr_at hp
    by_cases g : p.1 = x
    · rw [show (x, y) = p from Prod.ext g.symm e.symm]; exact hp
    · exact absurd (e ▸ k2) (h2 _ k1 g)
/-! ### Lives -/
/-- One step of the lives: the pairs l add the life before of their first members. -/
def lfP (before : List Int) (l : List (Nat × Nat)) (cur : List Int) : List Int := l.foldl (fun c p => c.set p.2 (nth before p.1 + 1)) cur
def lfS (w : Int) (prev before s : List Int) : List Int := lfP before (gr w prev s 0 0) (List.replicate s.length 1)
/-- The lives behind the sweeps l, when before are those of prev. -/
def lfT (w : Int) : List Int → List Int → List (List Int) → List Int
  | _, before, [] => before
  | prev, before, s :: l => lfT w s (lfS w prev before s) l
def lfe (w : Int) : List (List Int) → List Int
  | [] => []
  | s :: l => lfT w s (List.replicate s.length 1) l
def stF (need : Int) (l : List Int) : Nat → List Nat
  | 0 => []
  | k + 1 => if need ≤ nth l k then stF need l k ++ [k] else stF need l k
theorem lfP_len (before : List Int) : ∀ (l : List (Nat × Nat)) (cur : List Int), (lfP before l cur).length = cur.length
  | [], _ => rfl
  | p :: l, cur => by show (lfP before l _).length = _; rw [lfP_len]; simp
theorem lfS_len (w : Int) (prev before s : List Int) : (lfS w prev before s).length = s.length := by unfold lfS; rw [lfP_len]; simp
theorem nth_set (l : List Int) (k j : Nat) (v : Int) (h : k < l.length) : nth (l.set k v) j = if j = k then v else nth l j := by
  unfold nth
  rw [List.getD_eq_getElem?_getD, List.getD_eq_getElem?_getD]
  by_cases e : j = k
  · subst e; simp [h]
  · rw [if_neg e, List.getElem?_set_ne (fun g => e g.symm)]
theorem lfP_at (before : List Int) : ∀ (l : List (Nat × Nat)) (cur : List Int), Asc l → (∀ p ∈ l, p.2 < cur.length) → ∀ p ∈ l, nth (lfP before l cur) p.2 = nth before p.1 + 1
  | q :: l, cur, ha, hl, p, hp => by
    show nth (lfP before l (cur.set q.2 (nth before q.1 + 1))) p.2 = _
    rcases List.mem_cons.1 hp with rfl | hp
    · have : ∀ (l : List (Nat × Nat)) (c : List Int), (∀ x ∈ l, p.2 < x.2 ∧ x.2 < c.length) → nth (lfP before l c) p.2 = nth c p.2 := by
        intro l
        induction l with
        | nil => intro c _; rfl
        | cons x l ih =>
          intro c hc
          show nth (lfP before l (c.set x.2 _)) p.2 = _
          have hx := hc x List.mem_cons_self
          rw [ih _ fun y hy => by simpa using hc y (List.mem_cons_of_mem _ hy), nth_set _ _ _ _ hx.2, if_neg (by omega)]
      rw [this l _ fun x hx => ⟨(ha.1 x hx).2, by simpa using hl x (List.mem_cons_of_mem _ hx)⟩, nth_set _ _ _ _ (hl p List.mem_cons_self), if_pos rfl]
    · exact lfP_at before l _ ha.2 (fun x hx => by simpa using hl x (List.mem_cons_of_mem _ hx)) p hp
end Go.Proofs.Ytmkpblfacnnnoaa
