/- Plain laws of chapter 13: steps that tile; plans tile. -/
import Derived.Test.YtlbchidgadcmpaaWhQ
namespace Go.Proofs.Ytlbchidgadcmpaa
/-- The step i covers s. -/
def inS (st : List (Int × Int)) (s : Int) (i : Nat) : Prop := stl st i < s ∧ s ≤ sth st i
theorem tlN_0 {st : List (Int × Int)} {s : Int} : ∀ {k : Nat}, tlN st s k = 0 → ∀ j, j < k → ¬ inS st s j
  | k + 1, h, j, hj => by
    have hb := tlN_bd st s k
    unfold tlN at h
    by_cases e : stl st k < s ∧ s ≤ sth st k
    · rw [if_pos e] at h; omega
    · rw [if_neg e] at h
      rcases Nat.lt_or_ge j k with g | g
      · exact tlN_0 h j g
      · obtain rfl : j = k := by omega
        exact e
theorem tlN_1 {st : List (Int × Int)} {s : Int} : ∀ {k : Nat}, tlN st s k = 1 → ∃ i, i < k ∧ inS st s i ∧ ∀ j, j < k → inS st s j → j = i
  | 0, h => by cases h
  | k + 1, h => by
    unfold tlN at h
    by_cases e : stl st k < s ∧ s ≤ sth st k
    · rw [if_pos e] at h
      have h0 := tlN_0 (st := st) (s := s) (k := k) (by omega)
      refine ⟨k, by omega, e, fun j hj hi => ?_⟩
      rcases Nat.lt_or_ge j k with g | g
      · exact absurd hi (h0 j g)
      · omega
    · rw [if_neg e] at h
      obtain ⟨i, h1, h2, h3⟩ := tlN_1 h
      refine ⟨i, by omega, h2, fun j hj hi => ?_⟩
      rcases Nat.lt_or_ge j k with g | g
      · exact h3 j g hi
      · obtain rfl : j = k := by omega
        exact absurd hi e
theorem tile_one {st : List (Int × Int)} (h : tlK st 255 = true) {s : Int} (h1 : 1 ≤ s) (h2 : s ≤ 255) : ∃ i, i < st.length ∧ inS st s i ∧ ∀ j, j < st.length → inS st s j → j = i := by
  have := tlK_at h (s := (s - 1).toNat) (by omega)
  rw [show (((s - 1).toNat + 1 : Nat) : Int) = s by omega] at this
  exact tlN_1 this
/-- How many of the first k steps end at a or before. -/
def hiN (st : List (Int × Int)) (a : Int) : Nat → Nat
  | 0 => 0
  | k + 1 => if sth st k ≤ a then hiN st a k + 1 else hiN st a k
theorem hiN_same {st : List (Int × Int)} {a b : Int} (hab : a ≤ b) : ∀ {k : Nat}, (∀ j, j < k → ¬ (a < sth st j ∧ sth st j ≤ b)) → hiN st b k = hiN st a k
  | 0, _ => rfl
  | k + 1, h => by
    have h0 := h k (by omega)
    unfold hiN
    rw [hiN_same hab fun j hj => h j (by omega)]
    by_cases e : sth st k ≤ a
    · rw [if_pos e, if_pos (by omega)]
    · rw [if_neg e, if_neg (by omega)]
theorem hiN_one {st : List (Int × Int)} {a b : Int} (hab : a ≤ b) {i : Nat} : ∀ {k : Nat}, i < k → a < sth st i → sth st i ≤ b → (∀ j, j < k → a < sth st j → sth st j ≤ b → j = i) → hiN st b k = hiN st a k + 1
  | k + 1, hi, h1, h2, hu => by
    unfold hiN
    rcases Nat.lt_or_ge i k with g | g
    · have hk : ¬ (a < sth st k ∧ sth st k ≤ b) := fun e => by have := hu k (by omega) e.1 e.2; omega
      rw [hiN_one hab g h1 h2 fun j hj => hu j (by omega)]
      by_cases e : sth st k ≤ a
      · rw [if_pos e, if_pos (by omega)]
      · rw [if_neg e, if_neg (by omega)]
    · obtain rfl : i = k := by omega
      rw [if_pos h2, if_neg (by omega), hiN_same hab fun j hj e => by have := hu j (by omega) e.1 e.2; omega]
theorem hiN_all {st : List (Int × Int)} {a : Int} : ∀ {k : Nat}, (∀ j, j < k → sth st j ≤ a) → hiN st a k = k
  | 0, _ => rfl
  | k + 1, h => by
    unfold hiN
    rw [if_pos (h k (by omega)), hiN_all fun j hj => h j (by omega)]
theorem hiN_none {st : List (Int × Int)} {a : Int} : ∀ {k : Nat}, (∀ j, j < k → a < sth st j) → hiN st a k = 0
  | 0, _ => rfl
  | k + 1, h => by
    have := h k (by omega)
    unfold hiN
    rw [if_neg (by omega), hiN_none fun j hj => h j (by omega)]
theorem hiN_full {st : List (Int × Int)} {a : Int} : ∀ {k : Nat}, hiN st a k = k → ∀ j, j < k → sth st j ≤ a
  | k + 1, h, j, hj => by
    have hle : ∀ q, hiN st a q ≤ q := fun q => by
      induction q with
      | zero => exact Nat.le_refl _
      | succ q ih => unfold hiN; split <;> omega
    have := hle k
    unfold hiN at h
    by_cases e : sth st k ≤ a
    · rw [if_pos e] at h
      rcases Nat.lt_or_ge j k with g | g
      · exact hiN_full (by omega) j g
      · obtain rfl : j = k := by omega
        exact e
    · rw [if_neg e] at h; omega
/-- Where the step ends that begins at a. -/
def nxt (st : List (Int × Int)) (a : Int) : Nat → Int
  | 0 => -1
  | k + 1 => if stl st k = a then sth st k else nxt st a k
theorem nxt_of {st : List (Int × Int)} {a : Int} {i : Nat} : ∀ {k : Nat}, i < k → stl st i = a → (∀ j, j < k → stl st j = a → j = i) → nxt st a k = sth st i
  | k + 1, hi, h1, hu => by
    unfold nxt
    by_cases e : stl st k = a
    · rw [if_pos e, hu k (by omega) e]
    · rw [if_neg e]
      have hik : i ≠ k := fun g => e (g ▸ h1)
      exact nxt_of (by omega) h1 fun j hj => hu j (by omega)
/-- Where the n-th step begins. -/
def atN (st : List (Int × Int)) : Nat → Int
  | 0 => 0
  | n + 1 => nxt st (atN st n) st.length
theorem atN_inv {st : List (Int × Int)} (hok : stOk st st.length = true) (h : tlK st 255 = true) : ∀ n, n ≤ st.length → 0 ≤ atN st n ∧ atN st n ≤ 255 ∧ hiN st (atN st n) st.length = n ∧ (atN st n = 0 ∨ ∃ j, j < st.length ∧ sth st j = atN st n)
  | 0, _ => ⟨Int.le_refl _, by show (0 : Int) ≤ 255; omega, hiN_none fun j hj => by have := stOk_at hok hj; show 0 < _; omega, .inl rfl⟩
  | n + 1, hn => by
    obtain ⟨h0, h1, h2, h3⟩ := atN_inv hok h n (by omega)
    obtain ⟨a, ha⟩ : ∃ a, a = atN st n := ⟨_, rfl⟩
    have e : atN st (n + 1) = nxt st a st.length := by rw [ha]; rfl
    rw [← ha] at h0 h1 h2 h3
    have hlt : a < 255 := by
      rcases Int.lt_or_le a 255 with g | g
      · exact g
      · have : hiN st a st.length = st.length := hiN_all fun j hj => by have := stOk_at hok hj; omega
        omega
    obtain ⟨i, i1, ⟨i2, i3⟩, i4⟩ := tile_one h (s := a + 1) (by omega) (by omega)
    have hia : stl st i = a := by
      rcases h3 with g | ⟨j, j1, j2⟩
      · have := stOk_at hok i1; omega
      · rcases Int.lt_or_le (stl st i) a with g | g
        · obtain ⟨q, -, -, q3⟩ := tile_one h (s := a) (by have := stOk_at hok i1; omega) (by omega)
          have e1 := q3 i i1 ⟨g, by omega⟩
          have e2 := q3 j j1 ⟨by have := stOk_at hok j1; omega, by omega⟩
          have : i = j := by omega
          subst this
          omega
        · omega
    have en : nxt st a st.length = sth st i := nxt_of i1 hia fun j hj e => i4 j hj ⟨by omega, by have := stOk_at hok hj; omega⟩
    have hi := stOk_at hok i1
    rw [e, en]
    refine ⟨by omega, by omega, ?_, .inr ⟨i, i1, rfl⟩⟩
    rw [hiN_one (a := a) (by omega) i1 (by omega) (Int.le_refl _) fun j hj e1 e2 => ?_, h2]
    obtain ⟨q, -, -, q3⟩ := tile_one h (s := sth st j) (by omega) (by have := stOk_at hok hj; omega)
    have w1 := q3 j hj ⟨by have := stOk_at hok hj; omega, Int.le_refl _⟩
    have w2 := q3 i i1 ⟨by omega, e2⟩
    omega
theorem atN_end {st : List (Int × Int)} (hok : stOk st st.length = true) (h : tlK st 255 = true) : atN st st.length = 255 := by
  obtain ⟨h0, h1, h2, -⟩ := atN_inv hok h st.length (Nat.le_refl _)
  obtain ⟨i, i1, ⟨i2, i3⟩, -⟩ := tile_one h (s := 255) (by omega) (by omega)
  have := hiN_full h2 i i1
  omega
/-! ### Counting the answers -/
/-- How often j is among the first k rows. -/
def ct (rows : List (List Int)) (j : Int) : Nat → Nat
  | 0 => 0
  | k + 1 => ct rows j k + (row rows k).count j
theorem rp_count (xs : List Int) (l h : Int) (j : Nat) : ∀ k, (rp xs l h k).count (j : Int) = if j < k ∧ l < nth xs j ∧ nth xs j ≤ h then 1 else 0
  | 0 => by simp [rp]
  | k + 1 => by
    have ih := rp_count xs l h j k
    unfold rp
    by_cases e : l < nth xs k ∧ nth xs k ≤ h
    · rw [if_pos e, List.count_append, ih]
      by_cases g : j = k
      · subst g
        rw [if_neg (by omega), if_pos ⟨by omega, e⟩]; simp
      · have hne : ¬ ((k : Int) = (j : Int)) := by omega
        have hc : [(k : Int)].count (j : Int) = 0 := by simp [hne]
        rw [hc, Nat.add_zero]
        by_cases q : j < k ∧ l < nth xs j ∧ nth xs j ≤ h
        · rw [if_pos q, if_pos ⟨by omega, q.2⟩]
        · rw [if_neg q, if_neg fun z => q ⟨by omega, z.2⟩]
    · rw [if_neg e, ih]
      by_cases q : j < k ∧ l < nth xs j ∧ nth xs j ≤ h
      · rw [if_pos q, if_pos ⟨by omega, q.2⟩]
      · rw [if_neg q, if_neg fun z => q ⟨by
          have : j ≠ k := fun e2 => e (e2 ▸ z.2)
          omega, z.2⟩]
theorem ct_tl (st : List (Int × Int)) (xs : List Int) (j : Nat) (hj : j < xs.length) : ∀ k, k ≤ st.length → ((ct (rpR st xs) (j : Int) k : Nat) : Int) = tlN st (nth xs j) k
  | 0, _ => rfl
  | k + 1, hk => by
    have ih := ct_tl st xs j hj k (by omega)
    unfold ct tlN
    rw [rpR_row (by omega), rp_count]
    by_cases e : stl st k < nth xs j ∧ nth xs j ≤ sth st k
    · rw [if_pos ⟨hj, e⟩, if_pos e]; push_cast; omega
    · rw [if_neg fun z => e z.2, if_neg e, Nat.add_zero, ih]
theorem ct_one {st : List (Int × Int)} {xs : List Int} (h : tlK st 255 = true) (hx : snOk xs xs.length = true) {j : Nat} (hj : j < xs.length) : ct (rpR st xs) (j : Int) st.length = 1 := by
  have hs := snOk_at hx hj
  have h1 := tlK_at h (s := (nth xs j - 1).toNat) (by omega)
  rw [show (((nth xs j - 1).toNat + 1 : Nat) : Int) = nth xs j by omega] at h1
  have := ct_tl st xs j hj st.length (Nat.le_refl _)
  omega
theorem rp_range (xs : List Int) (l h : Int) : ∀ k, ∀ z ∈ rp xs l h k, 0 ≤ z ∧ z < k
  | 0, z, hz => by simp [rp] at hz
  | k + 1, z, hz => by
    unfold rp at hz
    split at hz
    · rcases List.mem_append.1 hz with g | g
      · have := rp_range xs l h k z g; omega
      · have : z = k := by simpa using g
        omega
    · have := rp_range xs l h k z hz; omega
theorem ct_le (rows : List (List Int)) (j : Int) (M : Nat) (h : ∀ k, (row rows k).length ≤ M) : ∀ k, ct rows j k ≤ k * M
  | 0 => by simp [ct]
  | k + 1 => by
    have ih := ct_le rows j M h k
    have h1 := List.count_le_length (a := j) (l := row rows k)
    have h2 := h k
    unfold ct
    rw [Nat.succ_mul]
    omega
/-! ### Plans tile -/
/-- Steps that follow each other from x to 255. -/
def Chn : Int → List (Int × Int) → Prop
  | x, [] => x = 255
  | x, p :: l => p.1 = x ∧ x < p.2 ∧ p.2 ≤ 255 ∧ Chn p.2 l
theorem Pl_chn (P : Nat → Nat → Bool) : ∀ n x : Nat, 255 - x ≤ n → x ≤ 255 → Chn (x : Int) ((Pl P x).map fun p => ((p.1 : Int), (p.2 : Int)))
  | 0, x, h, hx => by
    obtain rfl : x = 255 := by omega
    rfl
  | n + 1, x, h, hx => by
    by_cases h1 : x < 255
    · have b := Nx_bd P h1
      rw [Pl_in P h1]
      exact ⟨rfl, by show (x : Int) < (Nx P x : Int); omega, by show (Nx P x : Int) ≤ 255; omega, Pl_chn P n (Nx P x) (by omega) b.2⟩
    · obtain rfl : x = 255 := by omega
      rfl
theorem tlN_cons (p : Int × Int) (l : List (Int × Int)) (s : Int) : ∀ k, tlN (p :: l) s (k + 1) = (if p.1 < s ∧ s ≤ p.2 then 1 else 0) + tlN l s k
  | 0 => by
    unfold tlN
    show (if p.1 < s ∧ s ≤ p.2 then tlN (p :: l) s 0 + 1 else tlN (p :: l) s 0) = _
    by_cases e : p.1 < s ∧ s ≤ p.2
    · rw [if_pos e, if_pos e]; rfl
    · rw [if_neg e, if_neg e]; rfl
  | k + 1 => by
    have ih := tlN_cons p l s k
    have e1 : stl (p :: l) (k + 1) = stl l k := rfl
    have e2 : sth (p :: l) (k + 1) = sth l k := rfl
    rw [tlN, e1, e2, ih]
    show _ = _ + (if stl l k < s ∧ s ≤ sth l k then tlN l s k + 1 else tlN l s k)
    by_cases e : stl l k < s ∧ s ≤ sth l k
    · rw [if_pos e, if_pos e]; omega
    · rw [if_neg e, if_neg e]
theorem chn_tl : ∀ (l : List (Int × Int)) (x s : Int), Chn x l → s ≤ 255 → tlN l s l.length = if x < s then 1 else 0
  | [], x, s, h, hs => by
    have : x = 255 := h
    rw [if_neg (by omega)]; rfl
  | p :: l, x, s, ⟨h1, h2, h3, h4⟩, hs => by
    rw [List.length_cons, tlN_cons, chn_tl l p.2 s h4 hs, h1]
    by_cases e1 : x < s
    · by_cases e2 : s ≤ p.2
      · rw [if_pos ⟨e1, e2⟩, if_neg (by omega), if_pos e1]; rfl
      · rw [if_neg fun z => e2 z.2, if_pos (by omega), if_pos e1]; rfl
    · rw [if_neg fun z => e1 z.1, if_neg (by omega), if_neg e1]; rfl
theorem chn_tiles {l : List (Int × Int)} (h : Chn 0 l) : ∀ n, n ≤ 255 → tlK l n = true
  | 0, _ => rfl
  | n + 1, hn => tlK_step (chn_tiles h n (by omega)) (by rw [chn_tl l 0 _ h (by omega), if_pos (by omega)])
/-- Where the k-th step begins. -/
def beg (l : List (Int × Int)) : Nat → Int
  | 0 => 0
  | k + 1 => sth l k
theorem chn_at : ∀ {l : List (Int × Int)} {x : Int}, Chn x l → ∀ k, k < l.length → stl l k = (if k = 0 then x else sth l (k - 1)) ∧ stl l k < sth l k ∧ sth l k ≤ 255 ∧ x ≤ stl l k
  | p :: l, x, ⟨h1, h2, h3, h4⟩, 0, _ => ⟨h1, by show p.1 < p.2; omega, h3, by show x ≤ p.1; omega⟩
  | p :: l, x, ⟨h1, h2, h3, h4⟩, k + 1, hk => by
    obtain ⟨a, b, c, d⟩ := chn_at h4 k (by simpa using hk)
    refine ⟨?_, b, c, by show x ≤ stl l k; omega⟩
    show stl l k = sth (p :: l) k
    rw [a]
    cases k with
    | zero => rfl
    | succ k => rfl
theorem chn_end : ∀ {l : List (Int × Int)} {x : Int}, Chn x l → 0 < l.length → sth l (l.length - 1) = 255
  | [p], x, ⟨_, _, _, h4⟩, _ => h4
  | p :: q :: l, x, ⟨_, _, _, h4⟩, _ => chn_end (l := q :: l) h4 (by simp)
theorem chn_stOk {l : List (Int × Int)} (h : Chn 0 l) : ∀ n, n ≤ l.length → stOk l n = true
  | 0, _ => rfl
  | n + 1, hn => by
    obtain ⟨-, b, c, d⟩ := chn_at h n (by omega)
    exact stOk_step (chn_stOk h n (by omega)) ⟨d, b, c⟩
theorem pl_chn {xs : List Int} {most : Int} (h : plE xs most = 0) : Chn 0 (plL xs most) := by
  rw [plL_ok h]
  exact Pl_chn _ _ 0 (Nat.le_refl _) (by omega)
theorem pl_len {xs : List Int} {most : Int} (h : plE xs most = 0) : (plL xs most).length = F (Al xs most) 0 := by
  rw [plL_ok h, List.length_map]
  exact Pl_len (Al_anti (fits_of (plE_ok.1 h).2.2.1)) _ 0 (Nat.le_refl _) (by omega)
theorem pl_pos {xs : List Int} {most : Int} (h : plE xs most = 0) : 0 < (plL xs most).length := by
  rw [pl_len h, F_in _ (by omega)]; omega
theorem pl_ckT {xs : List Int} {most : Int} (h : plE xs most = 0) : ckT (plL xs most) = 0 := by
  refine ckT_ok.2 ⟨⟨pl_pos h, ?_⟩, chn_stOk (pl_chn h) _ (Nat.le_refl _)⟩
  rw [pl_len h]
  exact (plE_ok.1 h).2.2.2
theorem pl_tlB {xs : List Int} {most : Int} (h : plE xs most = 0) : tlB (plL xs most) = true := by
  unfold tlB
  rw [decide_eq_true (pl_ckT h), chn_tiles (pl_chn h) 255 (Nat.le_refl _)]; rfl
theorem Pl_al {P : Nat → Nat → Bool} (hP : Anti P) : ∀ n x, 255 - x ≤ n → x ≤ 255 → ∀ p ∈ Pl P x, P p.1 p.2 = true
  | 0, x, h, hx, p, hp => by
    obtain rfl : x = 255 := by omega
    rw [Pl_end] at hp; cases hp
  | n + 1, x, h, hx, p, hp => by
    by_cases h1 : x < 255
    · obtain ⟨b1, b2, -, b4, -⟩ := Nx_spec hP h1
      rw [Pl_in P h1] at hp
      rcases List.mem_cons.1 hp with e | e
      · rw [e]; exact b4
      · exact Pl_al hP n (Nx P x) (by omega) b2 p e
    · obtain rfl : x = 255 := by omega
      rw [Pl_end] at hp; cases hp
theorem rp_cnt (xs : List Int) (l h : Int) : ∀ k, k ≤ xs.length → (rp xs l h k).length = cnt (xs.take k) l h
  | 0, _ => rfl
  | k + 1, hk => by
    have ih := rp_cnt xs l h k (by omega)
    rw [take_nth _ _ (by omega), cnt_snoc, ← ih, show rp xs l h (k + 1) = if l < nth xs k ∧ nth xs k ≤ h then rp xs l h k ++ [(k : Int)] else rp xs l h k from rfl]
    by_cases e : l < nth xs k ∧ nth xs k ≤ h
    · rw [if_pos e, if_pos e]; simp
    · rw [if_neg e, if_neg e]; rfl
theorem wsM_le {rows : List (List Int)} {M : Int} (hM : 0 ≤ M) : ∀ {k : Nat}, (∀ j, j < k → ((row rows j).length : Int) ≤ M) → wsM rows k ≤ M
  | 0, _ => hM
  | k + 1, h => by
    have := wsM_le hM (k := k) fun j hj => h j (by omega)
    have := h k (by omega)
    unfold wsM; omega
def wsV9 (rows : List (List Int)) : Int := wsM rows rows.length
theorem pl_most {xs : List Int} {most : Int} (h : plE xs most = 0) : wsV9 (rpL (plL xs most) xs) ≤ most := by
  obtain ⟨a, b, c, d⟩ := plE_ok.1 h
  have hr : rpE (plL xs most) xs = 0 := rpE_ok.2 ⟨pl_ckT h, a⟩
  rw [rpL_ok hr]
  refine wsM_le (by omega) fun j hj => ?_
  rw [rpR_len] at hj
  rw [rpR_row hj, rp_cnt xs _ _ xs.length (Nat.le_refl _), List.take_length]
  have hm := sts_at hj
  rw [plL_ok h] at hm
  obtain ⟨p, hp, e⟩ := List.mem_map.1 hm
  have := Pl_al (Al_anti (fits_of c)) _ 0 (Nat.le_refl _) (by omega) p hp
  have := of_decide_eq_true this
  simp only [Prod.mk.injEq] at e
  rw [plL_ok h, ← e.1, ← e.2]
  exact this
end Go.Proofs.Ytlbchidgadcmpaa
