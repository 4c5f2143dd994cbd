/- squitter in plain Lean: the texts that the reference accepts are those that Load takes. -/
import Derived.Test.YtkikokldijccnaaGreatDoorSqJ
namespace Go.Proofs.YtkikokldijccnaaGreatDoor
def scanR : Tx → List (List Int) → List Int → Int → Bool → Option (List (List Int))
  | [], out, line, _, dg => if dg = false ∧ line = [] then some out else none
  | c :: s, out, line, n, dg =>
    if 48 ≤ c.toNat ∧ c.toNat ≤ 57 then (if (dg = true ∧ n = 0) ∨ 2147483648 < n then none else scanR s out line (10 * n + (c.toNat - 48 : Int)) true)
    else if c = 32 ∧ dg = true then scanR s out (line ++ [n]) 0 false
    else if c = 10 ∧ dg = true then scanR s (out ++ [line ++ [n]]) [] 0 false
    else none
def flatW (l : List Int) : Tx := (l.map fun n => Lib.itoa n ++ [32]).flatten
def preW (n : Int) (dg : Bool) : Tx := if dg then Lib.itoa n else []
theorem flatW_snoc (l : List Int) (n : Int) : flatW (l ++ [n]) = flatW l ++ Lib.itoa n ++ [32] := by simp [flatW]
theorem lineX_snoc : ∀ (l : List Int) (n : Int), lineX (l ++ [n]) = flatW l ++ Lib.itoa n ++ [10]
  | [], n => by simp [lineX, lineJ, flatW, Lib.join_cons, Lib.joinTail]
  | [a], n => by simp [lineX, lineJ, flatW, Lib.join_cons, Lib.joinTail]
  | a :: b :: l, n => by
    have ih := lineX_snoc (b :: l) n
    have e : lineX (a :: b :: (l ++ [n])) = Lib.itoa a ++ [32] ++ lineX (b :: (l ++ [n])) := by unfold lineX lineJ; rw [List.map_cons, List.map_cons, join_two]; simp
    rw [List.cons_append, List.cons_append, e]
    rw [List.cons_append] at ih
    rw [ih]
    simp [flatW]
theorem itoa_nat (n : Nat) : Lib.itoa n = Lib.decDigits n := by
  unfold Lib.itoa; rw [if_neg (by omega)]; simp
theorem dd_dig1 {c : UInt8} (h : 48 ≤ c.toNat ∧ c.toNat ≤ 57) : Lib.decDigits (c.toNat - 48) = [c] := by
  rw [Lib.decDigits, dif_pos (by omega)]
  congr 1
  apply UInt8.toNat_inj.1
  rw [UInt8.toNat_ofNat']
  omega
theorem dd_snoc {c : UInt8} (h : 48 ≤ c.toNat ∧ c.toNat ≤ 57) {n : Nat} (hn : n ≠ 0) : Lib.decDigits (10 * n + (c.toNat - 48)) = Lib.decDigits n ++ [c] := by
  conv => lhs; rw [Lib.decDigits]
  rw [dif_neg (by omega)]
  have e1 : (10 * n + (c.toNat - 48)) / 10 = n := by omega
  have e2 : (10 * n + (c.toNat - 48)) % 10 = c.toNat - 48 := by omega
  rw [e1, e2]
  congr 2
  apply UInt8.toNat_inj.1
  rw [UInt8.toNat_ofNat']
  omega
/-- what is scanned is the text of what comes out -/
theorem scan_text : ∀ (s : Tx) (out : List (List Int)) (line : List Int) (n : Int) (dg : Bool) (L : List (List Int)), scanR s out line n dg = some L → 0 ≤ n → (dg = false → n = 0) → (∀ m ∈ line, 0 ≤ m) → (∀ r ∈ out, r ≠ [] ∧ ∀ m ∈ r, 0 ≤ m) →
    (L.map lineX).flatten = (out.map lineX).flatten ++ flatW line ++ preW n dg ++ s ∧ ∀ r ∈ L, r ≠ [] ∧ ∀ m ∈ r, (0 : Int) ≤ m
  | [], out, line, n, dg, L, h, _, _, _, ho => by
    unfold scanR at h
    split at h
    · rename_i g
      obtain rfl := Option.some.inj h
      refine ⟨?_, ho⟩
      rw [g.1, g.2]; simp [flatW, preW]
    · cases h
  | c :: s, out, line, n, dg, L, h, hn, hd, hl, ho => by
    unfold scanR at h
    split at h
    · rename_i gd
      split at h
      · cases h
      · rename_i g
        obtain ⟨h1, h2⟩ := scan_text s out line _ true L h (by omega) (fun e => by cases e) hl ho
        refine ⟨?_, h2⟩
        rw [h1]
        have : preW (10 * n + (c.toNat - 48 : Int)) true = preW n dg ++ [c] := by
          unfold preW
          rw [if_pos rfl]
          obtain ⟨k, rfl⟩ : ∃ k : Nat, n = k := ⟨n.toNat, by omega⟩
          have ee : (10 * (k : Int) + (c.toNat - 48 : Int)) = ((10 * k + (c.toNat - 48) : Nat) : Int) := by omega
          rw [ee, itoa_nat]
          cases dg with
          | false =>
            have : k = 0 := by have := hd rfl; omega
            subst this
            simp only [Nat.mul_zero, Nat.zero_add, Bool.false_eq_true, if_false, List.nil_append]
            exact dd_dig1 gd
          | true =>
            rw [if_pos rfl, itoa_nat]
            refine dd_snoc gd ?_
            intro e; subst e; exact g (.inl ⟨rfl, rfl⟩)
        rw [this]; simp
    · split at h
      · rename_i g
        obtain ⟨rfl, rfl⟩ := g
        obtain ⟨h1, h2⟩ := scan_text s out _ 0 false L h (by omega) (fun _ => rfl) (fun m hm => by
          rcases List.mem_append.1 hm with hm | hm
          · exact hl m hm
          · simp at hm; subst hm; exact hn) ho
        refine ⟨?_, h2⟩
        rw [h1, flatW_snoc]
        simp [preW]
      · split at h
        · rename_i g
          obtain ⟨rfl, rfl⟩ := g
          obtain ⟨h1, h2⟩ := scan_text s _ [] 0 false L h (by omega) (fun _ => rfl) (fun m hm => by cases hm) (fun r hr => by
            rcases List.mem_append.1 hr with hr | hr
            · exact ho r hr
            · simp at hr; subst hr
              refine ⟨by simp, fun m hm => ?_⟩
              rcases List.mem_append.1 hm with hm | hm
              · exact hl m hm
              · simp at hm; subst hm; exact hn)
          refine ⟨?_, h2⟩
          rw [h1, List.map_append, List.flatten_append]
          simp [preW, lineX_snoc, flatW]
        · cases h
theorem scan_num (out : List (List Int)) (line : List Int) (s : Tx) : ∀ n : Nat, n ≤ 21474836480 → scanR (Lib.decDigits n ++ s) out line 0 false = scanR s out line n true := by
  intro n
  induction n using Nat.strongRecOn generalizing s with
  | _ n ih =>
    intro hn
    rw [Lib.decDigits]
    split
    · rename_i g
      obtain ⟨g1, g2⟩ := dig_isD n g
      unfold isD at g1
      rw [List.cons_append, List.nil_append]
      conv => lhs; unfold scanR
      rw [if_pos g1, if_neg (by simp)]
      congr 1
      rw [g2]; omega
    · rename_i g
      obtain ⟨g1, g2⟩ := dig_isD (n % 10) (by omega)
      unfold isD at g1
      rw [List.append_assoc, ih (n / 10) (by omega) _ (by omega), List.cons_append, List.nil_append]
      conv => lhs; unfold scanR
      rw [if_pos g1, if_neg (by simp; omega)]
      congr 1
      rw [g2]; omega
theorem scan_itoa (out : List (List Int)) (line : List Int) (s : Tx) {n : Int} (h : okN n) : scanR (Lib.itoa n ++ s) out line 0 false = scanR s out line n true := by
  unfold okN at h
  obtain ⟨k, rfl⟩ : ∃ k : Nat, n = k := ⟨n.toNat, by omega⟩
  rw [itoa_nat]
  exact scan_num out line s k (by omega)
theorem scan_line (out : List (List Int)) (s : Tx) : ∀ (row line : List Int), row ≠ [] → (∀ n ∈ row, okN n) → scanR (lineX row ++ s) out line 0 false = scanR s (out ++ [line ++ row]) [] 0 false
  | [], _, h, _ => absurd rfl h
  | [a], line, _, h => by
    have e : lineX [a] ++ s = Lib.itoa a ++ (10 :: s) := by simp [lineX, lineJ, Lib.join_cons, Lib.joinTail]
    rw [e, scan_itoa out line _ (h a (by simp))]
    conv => lhs; unfold scanR
    rw [if_neg (by decide), if_neg (by decide), if_pos ⟨rfl, rfl⟩]
  | a :: b :: row, line, _, h => by
    have e : lineX (a :: b :: row) ++ s = Lib.itoa a ++ (32 :: (lineX (b :: row) ++ s)) := by unfold lineX lineJ; rw [List.map_cons, List.map_cons, join_two]; simp
    rw [e, scan_itoa out line _ (h a (by simp))]
    conv => lhs; unfold scanR
    rw [if_neg (by decide), if_pos ⟨rfl, rfl⟩, scan_line out s (b :: row) (line ++ [a]) (by simp) fun n hn => h n (List.mem_cons_of_mem _ hn)]
    simp
theorem scan_lines (s : Tx) : ∀ (L out : List (List Int)), (∀ r ∈ L, r ≠ [] ∧ ∀ n ∈ r, okN n) → scanR ((L.map lineX).flatten ++ s) out [] 0 false = scanR s (out ++ L) [] 0 false
  | [], out, _ => by simp
  | r :: L, out, h => by
    have hr := h r (List.mem_cons_self ..)
    rw [List.map_cons, List.flatten_cons, List.append_assoc, scan_line out _ r [] hr.1 hr.2, scan_lines s L _ fun q hq => h q (List.mem_cons_of_mem _ hq)]
    simp
/-! ### Accepts -/
def accRow (t : Ts) (last : Int) : List Int → Bool
  | a :: k :: c :: cy => decide (a ≤ 16777215 ∧ last < a ∧ k ≤ 1 ∧ (∀ d ∈ c :: cy, d ≤ t.now) ∧ (c :: cy).Pairwise (· < ·) ∧ ¬ (k = 0 ∧ t.need ≤ ((c :: cy).length : Int)) ∧ (t.now - t.win < c ∨ ¬ (k = 0 ∨ cy ≠ [] ∨ c ≤ t.now - t.keep)))
  | _ => false
def accRows (t : Ts) : Int → List (List Int) → Bool
  | _, [] => true
  | last, x :: xs => accRow t last x && accRows t (x.headD 0) xs
def accL : List (List Int) → Bool
  | [need, win, keep, now] :: xs => decide (xs.length ≤ 64 ∧ newE need win keep = 0 ∧ now ≤ 1073741824) && accRows ⟨need, win, keep, now, []⟩ (-1) xs
  | _ => false
def acceptsT (s : Tx) : Bool := match scanR s [] [] 0 false with | some L => accL L | none => false
theorem acc_chk (t : Ts) (a k c : Int) (cy : List Int) (last : Int) (hk : 0 ≤ k) : accRow t last (a :: k :: c :: cy) = true ↔ last < a ∧ a ≤ 16777215 ∧ k ≤ 1 ∧ ChkT t ⟨decide (k = 1), c :: cy⟩ := by
  unfold accRow ChkT
  simp only [decide_eq_true_eq, List.headD_cons]
  have hcl : (c :: cy).length = 1 ↔ cy = [] := by simp
  constructor
  · rintro ⟨h1, h2, h3, h4, h5, h6, h7⟩
    refine ⟨h2, h1, h3, h4, h5, ?_, fun g => ?_⟩
    · by_cases g : k = 1
      · exact .inl g
      · exact .inr (by omega)
    · rcases h7 with h7 | h7
      · omega
      · have h8 : ¬ k = 0 := fun e => h7 (.inl e)
        have h9 : cy = [] := Decidable.not_not.1 fun e => h7 (.inr (.inl e))
        have h10 : ¬ c ≤ t.now - t.keep := fun e => h7 (.inr (.inr e))
        exact ⟨by omega, hcl.2 h9, by omega⟩
  · rintro ⟨h1, h2, h3, h4, h5, h6, h7⟩
    refine ⟨h2, h1, h3, h4, h5, ?_, ?_⟩
    · rintro ⟨g1, g2⟩
      rcases h6 with h6 | h6 <;> omega
    · by_cases g : t.win ≤ t.now - c
      · obtain ⟨k1, k2, k3⟩ := h7 g
        refine .inr ?_
        rintro (g | g | g)
        · omega
        · exact g (hcl.1 k2)
        · omega
      · exact .inl (by omega)
theorem accRows_iff (t : Ts) : ∀ (xs : List (List Int)) (last : Int), (∀ x ∈ xs, ∀ n ∈ x, 0 ≤ n) → (accRows t last xs = true ↔ ∃ es, xs = es.map rowX ∧ Over last es ∧ ∀ p ∈ es, RowOk t p)
  | [], last, _ => by
    simp only [accRows, true_iff]
    exact ⟨[], rfl, ⟨trivial, fun p hp => by cases hp⟩, fun p hp => by cases hp⟩
  | x :: xs, last, h => by
    have hx := h x (List.mem_cons_self ..)
    have ih := fun l => accRows_iff t xs l fun y hy => h y (List.mem_cons_of_mem _ hy)
    unfold accRows
    rw [Bool.and_eq_true]
    constructor
    · rintro ⟨h1, h2⟩
      rcases x with _ | ⟨a, _ | ⟨k, _ | ⟨c, cy⟩⟩⟩
      · cases h1
      · cases h1
      · cases h1
      · have hk : 0 ≤ k := hx k (by simp)
        obtain ⟨g1, g2, g3, g4⟩ := (acc_chk t a k c cy last hk).1 h1
        obtain ⟨es, e1, e2, e3⟩ := (ih a).1 h2
        have hb : bitI (decide (k = 1)) = k := by
          have : k = 0 ∨ k = 1 := by omega
          rcases this with rfl | rfl <;> simp [bitI]
        refine ⟨(a, ⟨decide (k = 1), c :: cy⟩) :: es, ?_, ⟨⟨e2.2, e2.1⟩, fun p hp => ?_⟩, fun p hp => ?_⟩
        · rw [List.map_cons, ← e1]
          unfold rowX
          rw [hb]
        · rcases List.mem_cons.1 hp with rfl | hp
          · exact g1
          · have := e2.2 p hp; omega
        · rcases List.mem_cons.1 hp with rfl | hp
          · exact ⟨hx a (by simp), g2, by simp, fun d hd => hx d (List.mem_cons_of_mem _ (List.mem_cons_of_mem _ hd)), g4⟩
          · exact e3 p hp
    · rintro ⟨es, e1, ⟨e2, e2'⟩, e3⟩
      cases es with
      | nil => cases e1
      | cons p es =>
        rw [List.map_cons] at e1
        injection e1 with e4 e5
        have hp := e3 p (List.mem_cons_self ..)
        obtain ⟨a, kn, cy⟩ := p
        cases cy with
        | nil => exact absurd rfl hp.ne
        | cons c cy =>
          have e4' : x = a :: bitI kn :: c :: cy := e4
          rw [e4']
          refine ⟨(acc_chk t a _ c cy last (by unfold bitI; split <;> omega)).2 ⟨e2' _ (List.mem_cons_self ..), hp.a1, (bitI_le kn).1, ?_⟩, (ih a).2 ⟨es, e5, ⟨e2.2, e2.1⟩, fun q hq => e3 q (List.mem_cons_of_mem _ hq)⟩⟩
          rw [(bitI_le kn).2]; exact hp.ck
theorem accepts_load (s : Tx) : acceptsT s = (loadT s).isSome := by
  cases hl : loadT s with
  | some t =>
    obtain ⟨ht, rfl⟩ := load_ok hl
    have h0 := ht.t0
    have h1 := ht.t1
    have := ht.n1; have := ht.n8; have := ht.nw; have := ht.w64; have := ht.wk; have := ht.k1
    have hrow : ∀ p ∈ t.es, RowOk t p := fun p hp => (row_ok ht.wk).2 (ht.ent p hp)
    have hL : ∀ r ∈ saveL t, r ≠ [] ∧ ∀ n ∈ r, okN n := by
      intro r hr
      rcases List.mem_cons.1 hr with rfl | hr
      · refine ⟨by simp, fun n hn => ?_⟩
        simp only [List.mem_cons, List.not_mem_nil, or_false] at hn
        unfold okN
        omega
      · obtain ⟨p, hp, rfl⟩ := List.mem_map.1 hr
        exact ⟨by simp [rowX], (hrow p hp).okN h1⟩
    have hsc := scan_lines [] (saveL t) [] hL
    rw [List.append_nil, List.nil_append] at hsc
    unfold acceptsT
    rw [saveT_eq, hsc]
    show accL (saveL t) = true
    unfold saveL accL
    rw [Bool.and_eq_true]
    refine ⟨?_, (accRows_iff _ _ _ ?_).2 ⟨t.es, rfl, ⟨ht.asc, fun p hp => ?_⟩, fun p hp => ?_⟩⟩
    · rw [decide_eq_true_eq]
      exact ⟨by have := ht.len; simpa using this, ht.newE, h1⟩
    · intro x hx n hn
      exact ((hL x (List.mem_cons_of_mem _ hx)).2 n hn).1
    · have := (ht.ent p hp).a0; omega
    · have := hrow p hp
      exact ⟨this.a0, this.a1, this.ne, this.c0, this.ck⟩
  | none =>
    show acceptsT s = false
    unfold acceptsT
    cases hsc : scanR s [] [] 0 false with
    | none => rfl
    | some L =>
      obtain ⟨h1, h2⟩ := scan_text s [] [] 0 false L hsc (by omega) (fun _ => rfl) (fun m hm => by cases hm) (fun r hr => by cases hr)
      show accL L = false
      rw [← Bool.not_eq_true]
      intro ha
      unfold accL at ha
      split at ha
      · rename_i need win keep now xs
        rw [Bool.and_eq_true, decide_eq_true_eq] at ha
        obtain ⟨⟨a1, a2, a3⟩, a4⟩ := ha
        have hnn := newE_ok a2
        have hnow : 0 ≤ now := (h2 _ (List.mem_cons_self ..)).2 now (by simp)
        obtain ⟨es, rfl, e2, e3⟩ := (accRows_iff _ _ _ (fun x hx => (h2 x (List.mem_cons_of_mem _ hx)).2)).1 a4
        have hs : s = saveT ⟨need, win, keep, now, es⟩ := by
          rw [saveT_eq]
          have : (List.map lineX ([need, win, keep, now] :: es.map rowX)).flatten = s := by rw [h1]; simp [flatW, preW]
          exact this.symm
        have hok : Ok ⟨need, win, keep, now, es⟩ := ⟨hnn.1, hnn.2.1, hnn.2.2.1, hnn.2.2.2.1, hnn.2.2.2.2.1, hnn.2.2.2.2.2, hnow, a3, e2.1, by simpa using a1, fun p hp => (row_ok (t := ⟨need, win, keep, now, es⟩) hnn.2.2.2.2.1).1 ⟨(e3 p hp).a0, (e3 p hp).a1, (e3 p hp).ne, (e3 p hp).c0, (e3 p hp).ck⟩⟩
        have := load_save hok
        rw [← hs, hl] at this
        cases this
      · cases ha
end Go.Proofs.YtkikokldijccnaaGreatDoor
