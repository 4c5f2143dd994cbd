/- squitter in plain Lean: what the reference computes from the history is what the table says. -/
import Derived.Test.YtkikokldijccnaaDoorSqH
namespace Go.Proofs.YtkikokldijccnaaDoor
def cycStep (a lo hi : Int) (l : List Int) (h : Int × Int) : List Int := if h.1 = a ∧ lo ≤ h.2 ∧ h.2 ≤ hi ∧ (l = [] ∨ lastC l ≠ h.2) then l ++ [h.2] else l
def cycF (a lo hi : Int) (P : List (Int × Int)) : List Int := P.foldl (cycStep a lo hi) []
def heardF (P : List (Int × Int)) (a lo hi : Int) : Bool := P.any fun h => decide (h.1 = a ∧ lo ≤ h.2 ∧ h.2 ≤ hi)
/-- is it known right after the newest of these hearings, as the reference counts -/
def isW (P : List (Int × Int)) (a need win keep : Int) : List Int → Bool
  | [] => false
  | [c] => decide (need ≤ ((cycF a (c - win + 1) c P).length : Int))
  | c :: d :: l => decide (need ≤ ((cycF a (c - win + 1) c P).length : Int)) || (isW P a need win keep (d :: l) && !decide (keep ≤ c - d))
def knownF (P : List (Int × Int)) (need win keep now a : Int) : Bool := isW P a need win keep (cycF a 0 now P).reverse && decide (now - lastC (cycF a 0 now P) < keep)
def pendF (P : List (Int × Int)) (need win keep now a : Int) : Bool := !knownF P need win keep now a && heardF P a (now - win + 1) now
def knOf : Option Tk → Bool
  | none => false
  | some x => x.kn
def pnOf : Option Tk → Bool
  | none => false
  | some x => !x.kn
theorem cyc_step {a lo hi : Int} {r : List Int} (hd : Dn r) {h : Int × Int} (hr : ∀ c ∈ r, c ≤ h.2) : cycStep a lo hi (r.filter fun c => decide (lo ≤ c ∧ c ≤ hi)).reverse h = ((if h.1 = a then addR r h.2 else r).filter fun c => decide (lo ≤ c ∧ c ≤ hi)).reverse := by
  unfold cycStep
  by_cases ga : h.1 = a
  · rw [if_pos ga]
    by_cases gf : lo ≤ h.2 ∧ h.2 ≤ hi
    · by_cases gh : r.head? = some h.2
      · have e1 : addR r h.2 = r := by unfold addR; rw [if_pos gh]
        rw [e1, if_neg]
        rintro ⟨_, _, _, g⟩
        cases r with
        | nil => cases gh
        | cons c r =>
          have e2 : c = h.2 := Option.some.inj gh
          rw [e2] at g
          simp only [List.filter_cons, gf, and_self, decide_true, if_true] at g
          rcases g with g | g
          · simp at g
          · exact g (lastC_rev _ _)
      · have e1 : addR r h.2 = h.2 :: r := by unfold addR; rw [if_neg gh]
        rw [e1, if_pos]
        · simp [gf]
        · refine ⟨ga, gf.1, gf.2, ?_⟩
          by_cases ge : (r.filter fun c => decide (lo ≤ c ∧ c ≤ hi)).reverse = []
          · exact .inl ge
          · refine .inr fun e => gh ?_
            have hm := lastC_mem ge
            rw [e] at hm
            have hm2 : h.2 ∈ r := (List.mem_filter.1 (List.mem_reverse.1 hm)).1
            cases r with
            | nil => cases hm2
            | cons c r =>
              have := hr c (List.mem_cons_self ..)
              rcases List.mem_cons.1 hm2 with g | g
              · rw [g]; rfl
              · have : c > h.2 := (List.pairwise_cons.1 hd).1 _ g
                omega
    · rw [if_neg (fun g => gf ⟨g.2.1, g.2.2.1⟩)]
      unfold addR
      split
      · rfl
      · simp [gf]
  · rw [if_neg ga, if_neg (fun g => ga g.1)]
theorem cyc_fold (a lo hi : Int) : ∀ (P : List (Int × Int)) (r : List Int), Dn r → P.Pairwise (fun p q => p.2 ≤ q.2) → (∀ h ∈ P, ∀ c ∈ r, c ≤ h.2) → P.foldl (cycStep a lo hi) (r.filter fun c => decide (lo ≤ c ∧ c ≤ hi)).reverse = ((P.foldl (fun r h => if h.1 = a then addR r h.2 else r) r).filter fun c => decide (lo ≤ c ∧ c ≤ hi)).reverse
  | [], _, _, _, _ => rfl
  | h :: P, r, hd, hp, hr => by
    obtain ⟨h1, h2⟩ := List.pairwise_cons.1 hp
    have hr1 := hr h (List.mem_cons_self ..)
    rw [List.foldl_cons, List.foldl_cons, cyc_step hd hr1]
    refine cyc_fold a lo hi P _ ?_ h2 ?_
    · split
      · exact hd.add hr1
      · exact hd
    · intro g hg c hc
      split at hc
      · rcases mem_addR.1 hc with rfl | hc
        · exact h1 g hg
        · exact hr g (List.mem_cons_of_mem _ hg) c hc
      · exact hr g (List.mem_cons_of_mem _ hg) c hc
theorem cycF_eq {a lo hi : Int} {P : List (Int × Int)} (hp : P.Pairwise fun p q => p.2 ≤ q.2) : cycF a lo hi P = ((rcyc a P).filter fun c => decide (lo ≤ c ∧ c ≤ hi)).reverse :=
  cyc_fold a lo hi P [] List.Pairwise.nil hp (fun _ _ c hc => by cases hc)
theorem rcyc_mem (a : Int) : ∀ (P : List (Int × Int)) (r : List Int) (c : Int), c ∈ P.foldl (fun r h => if h.1 = a then addR r h.2 else r) r ↔ c ∈ r ∨ (a, c) ∈ P
  | [], r, c => by simp
  | h :: P, r, c => by
    rw [List.foldl_cons, rcyc_mem a P]
    by_cases g : h.1 = a
    · rw [if_pos g, mem_addR]
      obtain ⟨h1, h2⟩ := h
      obtain rfl : h1 = a := g
      simp only [List.mem_cons, Prod.mk.injEq, true_and]
      constructor
      · rintro ((h | h) | h)
        · exact .inr (.inl h)
        · exact .inl h
        · exact .inr (.inr h)
      · rintro (h | h | h)
        · exact .inl (.inr h)
        · exact .inl (.inl h)
        · exact .inr h
    · rw [if_neg g]
      have : (a, c) ≠ h := fun e => g (by rw [← e])
      simp [this]
theorem mem_rcyc {a : Int} {P : List (Int × Int)} {c : Int} : c ∈ rcyc a P ↔ (a, c) ∈ P := by
  have := rcyc_mem a P [] c
  unfold rcyc
  simpa using this
theorem InvT.all {t : Ts} {P : List (Int × Int)} (h : InvT t P) (a : Int) : cycF a 0 t.now P = (rcyc a P).reverse := by
  rw [cycF_eq h.srt, List.filter_eq_self.2]
  intro c hc
  have := h.bd _ (mem_rcyc.1 hc)
  simp only [decide_eq_true_eq]
  exact ⟨this.2.2.1, this.2.2.2⟩
/-- the cycles within the window before a cycle -/
theorem win_len {t : Ts} {P : List (Int × Int)} (h : InvT t P) (a win c : Int) : ∀ (q l : List Int), rcyc a P = q ++ c :: l → (cycF a (c - win + 1) c P).length = ((c :: l).filter fun e => decide (c - win < e)).length := by
  intro q l e
  have hd := (h.dn a).1
  rw [cycF_eq h.srt, List.length_reverse, e, List.filter_append]
  rw [e] at hd
  obtain ⟨h1, h2, h3⟩ := List.pairwise_append.1 hd
  have e1 : q.filter (fun d => decide (c - win + 1 ≤ d ∧ d ≤ c)) = [] := by
    refine List.filter_eq_nil_iff.2 fun d hd => ?_
    have : d > c := h3 d hd c (List.mem_cons_self ..)
    simp; omega
  rw [e1, List.nil_append]
  congr 1
  apply List.filter_congr
  intro d hd
  have : d ≤ c := by
    rcases List.mem_cons.1 hd with rfl | hd
    · exact Int.le_refl _
    · have : c > d := (List.pairwise_cons.1 h2).1 d hd
      omega
  by_cases g : c - win < d
  · have : c - win + 1 ≤ d ∧ d ≤ c := by omega
    simp [g, this]
  · have : ¬ (c - win + 1 ≤ d ∧ d ≤ c) := by omega
    simp [g, this]
theorem isW_eq {t : Ts} {P : List (Int × Int)} (h : InvT t P) (a need win keep : Int) : ∀ (r q : List Int), rcyc a P = q ++ r → isW P a need win keep r = isR need win keep r
  | [], _, _ => rfl
  | [c], q, e => by
    simp only [isW, isR]
    rw [win_len h a win c q [] e]
  | c :: d :: l, q, e => by
    have ih := isW_eq h a need win keep (d :: l) (q ++ [c]) (by rw [e]; simp)
    simp only [isW, isR]
    rw [win_len h a win c q (d :: l) e, ih]
theorem known_eq {t : Ts} {P : List (Int × Int)} (h : InvT t P) (ht : Ok t) (a : Int) : knownF P t.need t.win t.keep t.now a = knOf (lookT a t.es) := by
  have hwk := ht.wk
  unfold knownF knOf
  rw [h.all a, List.reverse_reverse, isW_eq h a _ _ _ (rcyc a P) [] (List.nil_append _).symm, h.view a]
  cases hr : rcyc a P with
  | nil => rfl
  | cons c l =>
    rw [lastC_rev, viewE_cons]
    by_cases g : t.keep ≤ t.now - c ∨ (isR t.need t.win t.keep (c :: l) = false ∧ t.win ≤ t.now - c)
    · rw [if_pos g]
      rcases g with g | g
      · have : ¬ t.now - c < t.keep := by omega
        simp [this]
      · simp [g.1]
    · rw [if_neg g]
      have : t.now - c < t.keep := by omega
      simp [this]
theorem heard_eq {t : Ts} {P : List (Int × Int)} (h : InvT t P) (a : Int) : heardF P a (t.now - t.win + 1) t.now = match rcyc a P with | [] => false | c :: _ => decide (t.now - c < t.win) := by
  have hh : heardF P a (t.now - t.win + 1) t.now = true ↔ ∃ c ∈ rcyc a P, t.now - t.win + 1 ≤ c := by
    unfold heardF
    rw [List.any_eq_true]
    constructor
    · rintro ⟨p, hp, e⟩
      simp only [decide_eq_true_eq] at e
      exact ⟨p.2, mem_rcyc.2 (by rw [← e.1]; exact hp), e.2.1⟩
    · rintro ⟨c, hc, e⟩
      have := (h.dn a).2 c hc
      refine ⟨(a, c), mem_rcyc.1 hc, ?_⟩
      simp only [decide_eq_true_eq, true_and]
      exact ⟨e, this⟩
  have hd := (h.dn a).1
  cases hr : rcyc a P with
  | nil =>
    rw [hr] at hh
    cases hb : heardF P a (t.now - t.win + 1) t.now with
    | false => rfl
    | true =>
      obtain ⟨c, hc, _⟩ := hh.1 hb
      cases hc
  | cons c l =>
    rw [hr] at hh hd
    show _ = decide (t.now - c < t.win)
    by_cases g : t.now - c < t.win
    · rw [hh.2 ⟨c, List.mem_cons_self .., by omega⟩]; simp [g]
    · cases hb : heardF P a (t.now - t.win + 1) t.now with
      | false => simp [g]
      | true =>
        obtain ⟨d, hd', hl⟩ := hh.1 hb
        rcases List.mem_cons.1 hd' with rfl | hd'
        · omega
        · have : c > d := (List.pairwise_cons.1 hd).1 d hd'
          omega
theorem pend_eq {t : Ts} {P : List (Int × Int)} (h : InvT t P) (ht : Ok t) (a : Int) : pendF P t.need t.win t.keep t.now a = pnOf (lookT a t.es) := by
  have hwk := ht.wk
  unfold pendF
  rw [known_eq h ht, heard_eq h, h.view a]
  unfold knOf pnOf
  cases hr : rcyc a P with
  | nil => rfl
  | cons c l =>
    rw [viewE_cons]
    show (!_ && decide (t.now - c < t.win)) = _
    by_cases g : t.keep ≤ t.now - c ∨ (isR t.need t.win t.keep (c :: l) = false ∧ t.win ≤ t.now - c)
    · rw [if_pos g]
      have : ¬ t.now - c < t.win := by omega
      simp [this]
    · rw [if_neg g]
      show (!isR t.need t.win t.keep (c :: l) && decide (t.now - c < t.win)) = !isR t.need t.win t.keep (c :: l)
      cases hb : isR t.need t.win t.keep (c :: l) with
      | true => rfl
      | false =>
        have : t.now - c < t.win := by
          rw [hb] at g
          simp at g
          omega
        simp [this]
/-! ### the addresses -/
def nextA (last : Int) (P : List (Int × Int)) : Int := P.foldl (fun n h => if last < h.1 ∧ (n < 0 ∨ h.1 < n) then h.1 else n) (-1)
def addrsF (f : Int → Bool) (P : List (Int × Int)) : Nat → Int → List Int
  | 0, _ => []
  | n + 1, last => if nextA last P < 0 then [] else (if f (nextA last P) then [nextA last P] else []) ++ addrsF f P n (nextA last P)
theorem next_fold (last : Int) : ∀ (P : List (Int × Int)) (n : Int), -1 ≤ n → (0 ≤ n → last < n) → -1 ≤ last → ∀ m, m = P.foldl (fun n h => if last < h.1 ∧ (n < 0 ∨ h.1 < n) then h.1 else n) n →
    (-1 ≤ m ∧ (m < 0 → n < 0 ∧ ∀ h ∈ P, h.1 ≤ last) ∧ (0 ≤ m → last < m ∧ (m = n ∨ ∃ h ∈ P, h.1 = m) ∧ (0 ≤ n → m ≤ n) ∧ ∀ h ∈ P, last < h.1 → m ≤ h.1))
  | [], n, h1, h2, _, m, e => by
    subst e
    exact ⟨h1, fun g => ⟨g, fun h hh => by cases hh⟩, fun g => ⟨h2 g, .inl rfl, fun _ => Int.le_refl _, fun h hh => by cases hh⟩⟩
  | h :: P, n, h1, h2, hl, m, e => by
    rw [List.foldl_cons] at e
    by_cases g : last < h.1 ∧ (n < 0 ∨ h.1 < n)
    · rw [if_pos g] at e
      obtain ⟨a1, a2, a3⟩ := next_fold last P h.1 (by omega) (fun _ => g.1) hl m e
      refine ⟨a1, fun hm => ?_, fun hm => ?_⟩
      · have := (a2 hm).1
        omega
      · obtain ⟨b1, b2, b3, b4⟩ := a3 hm
        have b5 := b3 (by omega)
        refine ⟨b1, ?_, fun hn => ?_, fun k hk hk2 => ?_⟩
        · rcases b2 with b2 | ⟨k, hk, b2⟩
          · exact .inr ⟨h, List.mem_cons_self .., b2.symm⟩
          · exact .inr ⟨k, List.mem_cons_of_mem _ hk, b2⟩
        · rcases g.2 with g2 | g2
          · omega
          · exact Int.le_trans b5 (Int.le_of_lt g2)
        · rcases List.mem_cons.1 hk with rfl | hk
          · exact b5
          · exact b4 k hk hk2
    · rw [if_neg g] at e
      obtain ⟨a1, a2, a3⟩ := next_fold last P n h1 h2 hl m e
      refine ⟨a1, fun hm => ⟨(a2 hm).1, fun k hk => ?_⟩, fun hm => ?_⟩
      · rcases List.mem_cons.1 hk with rfl | hk
        · have := (a2 hm).1; omega
        · exact (a2 hm).2 k hk
      · obtain ⟨b1, b2, b3, b4⟩ := a3 hm
        refine ⟨b1, ?_, b3, fun k hk hk2 => ?_⟩
        · rcases b2 with b2 | ⟨k, hk, b2⟩
          · exact .inl b2
          · exact .inr ⟨k, List.mem_cons_of_mem _ hk, b2⟩
        · rcases List.mem_cons.1 hk with rfl | hk
          · have : 0 ≤ n ∧ n ≤ k.1 := by omega
            have := b3 this.1
            omega
          · exact b4 k hk hk2
theorem nextA_none {last : Int} {P : List (Int × Int)} (hl : -1 ≤ last) (h : nextA last P < 0) : ∀ p ∈ P, p.1 ≤ last :=
  ((next_fold last P (-1) (by omega) (fun h => by omega) hl _ rfl).2.1 h).2
theorem nextA_some {last : Int} {P : List (Int × Int)} (hl : -1 ≤ last) (h : 0 ≤ nextA last P) : last < nextA last P ∧ (∃ p ∈ P, p.1 = nextA last P) ∧ ∀ p ∈ P, last < p.1 → nextA last P ≤ p.1 := by
  obtain ⟨b1, b2, _, b4⟩ := (next_fold last P (-1) (by omega) (fun h => by omega) hl _ rfl).2.2 h
  refine ⟨b1, ?_, b4⟩
  rcases b2 with b2 | b2
  · have : nextA last P = -1 := b2
    omega
  · exact b2
/-- how many are still to come -/
def restA (last : Int) (P : List (Int × Int)) : Nat := (P.filter fun p => decide (last < p.1)).length
theorem rest_lt {last : Int} {P : List (Int × Int)} (hl : -1 ≤ last) (h : 0 ≤ nextA last P) : restA (nextA last P) P < restA last P := by
  obtain ⟨b1, ⟨p, hp, e⟩, _⟩ := nextA_some hl h
  have key : ∀ Q : List (Int × Int), p ∈ Q → (Q.filter fun p => decide (nextA last P < p.1)).length < (Q.filter fun p => decide (last < p.1)).length := by
    intro Q
    induction Q with
    | nil => intro h; cases h
    | cons q Q ih =>
      intro hm
      have hle : (Q.filter fun p => decide (nextA last P < p.1)).length ≤ (Q.filter fun p => decide (last < p.1)).length := by
        rw [← List.countP_eq_length_filter, ← List.countP_eq_length_filter]
        exact List.countP_mono_left fun x _ hx => by simp at hx ⊢; omega
      rcases List.mem_cons.1 hm with rfl | hm
      · have g1 : ¬ nextA last P < p.1 := by omega
        have g2 : last < p.1 := by omega
        simp only [List.filter_cons, g1, decide_false, g2, decide_true, if_true, List.length_cons]
        simp; omega
      · have := ih hm
        by_cases g1 : nextA last P < q.1
        · have g2 : last < q.1 := by omega
          simp only [List.filter_cons, g1, decide_true, g2, if_true, List.length_cons]
          omega
        · by_cases g2 : last < q.1
          · simp only [List.filter_cons, g1, decide_false, g2, decide_true, if_true, List.length_cons]
            simp; omega
          · simp only [List.filter_cons, g1, decide_false, g2]
            simpa using this
  exact key P hp
theorem addrsF_mem (f : Int → Bool) (P : List (Int × Int)) : ∀ (n : Nat) (last : Int), -1 ≤ last → restA last P < n → (addrsF f P n last).Pairwise (· < ·) ∧ ∀ a, a ∈ addrsF f P n last ↔ last < a ∧ f a = true ∧ ∃ p ∈ P, p.1 = a
  | 0, _, _, h => by omega
  | n + 1, last, hl, hn => by
    unfold addrsF
    by_cases g : nextA last P < 0
    · rw [if_pos g]
      refine ⟨List.Pairwise.nil, fun a => ⟨fun h => (by cases h), ?_⟩⟩
      rintro ⟨h1, _, p, hp, rfl⟩
      have := nextA_none hl g p hp
      omega
    · rw [if_neg g]
      have g0 : 0 ≤ nextA last P := by omega
      obtain ⟨b1, b2, b3⟩ := nextA_some hl g0
      obtain ⟨c1, c2⟩ := addrsF_mem f P n (nextA last P) (by omega) (by have := rest_lt hl g0; omega)
      refine ⟨?_, fun a => ?_⟩
      · split
        · refine List.pairwise_append.2 ⟨by simp, c1, fun x hx y hy => ?_⟩
          simp at hx
          have := ((c2 y).1 hy).1
          omega
        · exact c1
      · rw [List.mem_append, c2 a]
        have hor : (a ∈ if f (nextA last P) = true then [nextA last P] else []) ↔ a = nextA last P ∧ f a = true := by
          split
          · rename_i hf
            simp only [List.mem_singleton]
            constructor
            · intro e; exact ⟨e, by rw [e]; exact hf⟩
            · exact fun e => e.1
          · rename_i hf
            constructor
            · intro h; cases h
            · rintro ⟨rfl, h⟩; exact absurd h hf
        rw [hor]
        constructor
        · rintro (⟨h1, h2⟩ | ⟨h1, h2, h3⟩)
          · exact ⟨by omega, h2, by rw [h1]; exact b2⟩
          · exact ⟨by omega, h2, h3⟩
        · rintro ⟨h1, h2, p, hp, rfl⟩
          have := b3 p hp h1
          by_cases e : p.1 = nextA last P
          · exact .inl ⟨e, h2⟩
          · exact .inr ⟨by omega, h2, p, hp, rfl⟩
/-- ascending lists with the same members are one -/
theorem up_ext : ∀ {l m : List Int}, l.Pairwise (· < ·) → m.Pairwise (· < ·) → (∀ a, a ∈ l ↔ a ∈ m) → l = m
  | [], [], _, _, _ => rfl
  | [], b :: m, _, _, h => by have := (h b).2 (List.mem_cons_self ..); cases this
  | a :: l, [], _, _, h => by have := (h a).1 (List.mem_cons_self ..); cases this
  | a :: l, b :: m, hl, hm, h => by
    obtain ⟨l1, l2⟩ := List.pairwise_cons.1 hl
    obtain ⟨m1, m2⟩ := List.pairwise_cons.1 hm
    have e : a = b := by
      rcases List.mem_cons.1 ((h a).1 (List.mem_cons_self ..)) with g | g
      · exact g
      · rcases List.mem_cons.1 ((h b).2 (List.mem_cons_self ..)) with k | k
        · exact k.symm
        · have := m1 a g; have := l1 b k; omega
    subst e
    rw [up_ext l2 m2 fun x => ?_]
    constructor
    · intro hx
      rcases List.mem_cons.1 ((h x).1 (List.mem_cons_of_mem _ hx)) with g | g
      · have := l1 x hx; omega
      · exact g
    · intro hx
      rcases List.mem_cons.1 ((h x).2 (List.mem_cons_of_mem _ hx)) with g | g
      · have := m1 x hx; omega
      · exact g
theorem Asc.keys : ∀ {l : List (Int × Tk)}, Asc l → (l.map Prod.fst).Pairwise (· < ·)
  | [], _ => List.Pairwise.nil
  | p :: l, h => by
    rw [List.map_cons]
    refine List.pairwise_cons.2 ⟨fun a ha => ?_, Asc.keys h.2⟩
    obtain ⟨q, hq, rfl⟩ := List.mem_map.1 ha
    exact h.1 q hq
theorem addrsT_mem {t : Ts} (ha : Asc t.es) (k : Bool) (a : Int) : a ∈ addrsT t k ↔ ∃ x, lookT a t.es = some x ∧ x.kn = k := by
  unfold addrsT
  rw [List.mem_map]
  constructor
  · rintro ⟨q, hq, rfl⟩
    obtain ⟨h1, h2⟩ := List.mem_filter.1 hq
    exact ⟨q.2, look_of_mem ha h1, by simpa using h2⟩
  · rintro ⟨x, h1, h2⟩
    exact ⟨(a, x), List.mem_filter.2 ⟨look_mem h1, by simpa using h2⟩, rfl⟩
def fitF (P : List (Int × Int)) (need win keep now : Int) (k : Bool) (a : Int) : Bool := if k then knownF P need win keep now a else pendF P need win keep now a
theorem addrs_eq {t : Ts} {P : List (Int × Int)} (h : InvT t P) (ht : Ok t) (k : Bool) {n : Nat} (hn : P.length < n) : addrsF (fitF P t.need t.win t.keep t.now k) P n (-1) = addrsT t k := by
  have hr : restA (-1) P < n := by
    have := List.length_filter_le (fun p : Int × Int => decide (-1 < p.1)) P
    unfold restA
    omega
  obtain ⟨c1, c2⟩ := addrsF_mem (fitF P t.need t.win t.keep t.now k) P n (-1) (by omega) hr
  have hasc : Asc (t.es.filter fun p => p.2.kn == k) := ht.asc.filter _
  refine up_ext c1 hasc.keys fun a => ?_
  rw [c2]
  show _ ↔ a ∈ addrsT t k
  rw [addrsT_mem ht.asc]
  have hf : fitF P t.need t.win t.keep t.now k a = true ↔ ∃ x, lookT a t.es = some x ∧ x.kn = k := by
    cases k with
    | true =>
      show knownF P t.need t.win t.keep t.now a = true ↔ _
      rw [known_eq h ht]
      cases hx : lookT a t.es with
      | none => simp [knOf]
      | some x => simp [knOf]
    | false =>
      show pendF P t.need t.win t.keep t.now a = true ↔ _
      rw [pend_eq h ht]
      cases hx : lookT a t.es with
      | none => simp [pnOf]
      | some x => simp [pnOf]
  rw [hf]
  constructor
  · rintro ⟨_, h2, _⟩; exact h2
  · rintro ⟨x, h1, h2⟩
    have hx := h1
    rw [h.view a] at h1
    cases hr : rcyc a P with
    | nil => rw [hr] at h1; cases h1
    | cons c l =>
      have hm : (a, c) ∈ P := mem_rcyc.1 (by rw [hr]; exact List.mem_cons_self ..)
      have := h.bd _ hm
      exact ⟨by have := this.1; show -1 < a; omega, ⟨x, hx, h2⟩, (a, c), hm, rfl⟩
theorem kn_count (l : List (Int × Tk)) : (l.filter fun p => p.2.kn == true).length + (l.filter fun p => p.2.kn == false).length = l.length := by
  induction l with
  | nil => rfl
  | cons p l ih =>
    cases hk : p.2.kn <;> simp only [List.filter_cons, hk, List.length_cons] <;> simp <;> simp at ih <;> omega
theorem addrs_count (t : Ts) : (addrsT t true).length + (addrsT t false).length = t.es.length := by
  have := kn_count t.es
  simpa [addrsT] using this
/-- the reference's error of Hear at the new time -/
theorem full_eq {t : Ts} {P : List (Int × Int)} (h : InvT t P) (ht : Ok t) (a : Int) : (knownF P t.need t.win t.keep t.now a = false ∧ pendF P t.need t.win t.keep t.now a = false) ↔ lookT a t.es = none := by
  rw [pend_eq h ht, known_eq h ht]
  cases lookT a t.es with
  | none => simp [knOf, pnOf]
  | some x => cases hk : x.kn <;> simp [knOf, pnOf, hk]
/-- the cycles that Save tells -/
theorem cy_eq {t : Ts} {P : List (Int × Int)} (h : InvT t P) (ht : Ok t) {a : Int} {x : Tk} (hx : lookT a t.es = some x) : x.cy = if cycF a (t.now - t.win + 1) t.now P = [] then [lastC (cycF a 0 t.now P)] else cycF a (t.now - t.win + 1) t.now P := by
  have hwk := ht.wk
  rw [h.view a] at hx
  have hd := h.dn a
  rw [h.all a, cycF_eq h.srt]
  cases hr : rcyc a P with
  | nil => rw [hr] at hx; cases hx
  | cons c l =>
    rw [hr] at hx hd
    rw [viewE_cons] at hx
    split at hx
    · cases hx
    · rw [← Option.some.inj hx, lastC_rev]
      have hcn := hd.2 c (List.mem_cons_self ..)
      have hfc : ((c :: l).filter fun e => decide (t.now - t.win + 1 ≤ e ∧ e ≤ t.now)) = (c :: l).filter fun e => decide (t.now - t.win < e) := by
        apply List.filter_congr
        intro e he
        have := hd.2 e he
        by_cases g : t.now - t.win < e
        · have : t.now - t.win + 1 ≤ e ∧ e ≤ t.now := by omega
          simp [g, this]
        · have : ¬ (t.now - t.win + 1 ≤ e ∧ e ≤ t.now) := by omega
          simp [g, this]
      rw [hfc]
      show (if t.now - c < t.win then _ else [c]) = _
      by_cases g : t.now - c < t.win
      · have g1 : t.now - t.win < c := by omega
        rw [if_pos g, if_neg (by simp [g1])]
      · rw [if_neg g, if_pos]
        simp only [List.reverse_eq_nil_iff]
        refine List.filter_eq_nil_iff.2 fun e he => ?_
        have : e ≤ c := by
          rcases List.mem_cons.1 he with rfl | he
          · exact Int.le_refl _
          · have : c > e := (List.pairwise_cons.1 hd.1).1 e he
            omega
        simp; omega
end Go.Proofs.YtkikokldijccnaaDoor
