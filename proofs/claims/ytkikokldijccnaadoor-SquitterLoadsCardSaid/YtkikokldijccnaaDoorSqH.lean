/- squitter in plain Lean: the table is what the whole history gives. -/
import Derived.Test.YtkikokldijccnaaDoorSqQ
namespace Go.Proofs.YtkikokldijccnaaDoor
/-! ### the cycles of an address, newest first -/
def addR (r : List Int) (s : Int) : List Int := if r.head? = some s then r else s :: r
def rcyc (a : Int) (P : List (Int × Int)) : List Int := P.foldl (fun r h => if h.1 = a then addR r h.2 else r) []
/-- is it known right after its newest hearing -/
def isR (need win keep : Int) : List Int → Bool
  | [] => false
  | [c] => decide (need ≤ (([c].filter fun d => decide (c - win < d)).length : Int))
  | c :: d :: l => decide (need ≤ (((c :: d :: l).filter fun e => decide (c - win < e)).length : Int)) || (isR need win keep (d :: l) && !decide (keep ≤ c - d))
def viewE (need win keep now : Int) : List Int → Option Tk
  | [] => none
  | c :: l => if keep ≤ now - c ∨ (isR need win keep (c :: l) = false ∧ win ≤ now - c) then none else some ⟨isR need win keep (c :: l), if now - c < win then ((c :: l).filter fun e => decide (now - win < e)).reverse else [c]⟩
theorem viewE_cons (need win keep now c : Int) (l : List Int) : viewE need win keep now (c :: l) = if keep ≤ now - c ∨ (isR need win keep (c :: l) = false ∧ win ≤ now - c) then none else some ⟨isR need win keep (c :: l), if now - c < win then ((c :: l).filter fun e => decide (now - win < e)).reverse else [c]⟩ := rfl
/-- newest first, descending -/
def Dn (r : List Int) : Prop := r.Pairwise (· > ·)
theorem Dn.add {r : List Int} (h : Dn r) {s : Int} (hs : ∀ c ∈ r, c ≤ s) : Dn (addR r s) := by
  unfold addR
  split
  · exact h
  · rename_i g
    refine List.pairwise_cons.2 ⟨fun c hc => ?_, h⟩
    cases r with
    | nil => cases hc
    | cons d r =>
      have hd : d ≠ s := fun e => g (by rw [e]; rfl)
      have hds := hs d (List.mem_cons_self ..)
      rcases List.mem_cons.1 hc with rfl | hc
      · show s > c; omega
      · have := (List.pairwise_cons.1 h).1 c hc
        show s > c; omega
theorem mem_addR {r : List Int} {s c : Int} : c ∈ addR r s ↔ c = s ∨ c ∈ r := by
  unfold addR
  split
  · rename_i g
    cases r with
    | nil => cases g
    | cons d r =>
      obtain rfl := Option.some.inj g
      simp
  · simp
theorem addR_ne (r : List Int) (s : Int) : addR r s ≠ [] := by
  unfold addR
  split
  · rename_i g; intro e; rw [e] at g; cases g
  · simp
theorem trimC_eq (win now : Int) : ∀ l : List Int, l ≠ [] → l.Pairwise (· < ·) → trimC win now l = if now - lastC l < win then l.filter (fun e => decide (now - win < e)) else [lastC l]
  | [], h, _ => absurd rfl h
  | [c], _, _ => by
    by_cases g : now - c < win
    · have : now - win < c := by omega
      simp [trimC, lastC, g, this]
    · simp [trimC, lastC, g]
  | c :: d :: l, _, hp => by
    have hp2 := (List.pairwise_cons.1 hp).2
    have ih := trimC_eq win now (d :: l) (by simp) hp2
    have e1 : lastC (c :: d :: l) = lastC (d :: l) := by simp [lastC, List.getLastD]
    have hcd := (List.pairwise_cons.1 hp).1 (lastC (d :: l)) (lastC_mem (by simp))
    unfold trimC
    rw [e1]
    split
    · rename_i g
      rw [ih]
      have e2 : ¬ now - win < c := by omega
      simp [e2]
    · rename_i g
      have g1 : now - lastC (d :: l) < win := by omega
      rw [if_pos g1]
      refine (List.filter_eq_self.2 fun x hx => ?_).symm
      rcases List.mem_cons.1 hx with rfl | hx
      · simp; omega
      · have := (List.pairwise_cons.1 hp).1 x hx
        simp; omega
theorem up_rev {r : List Int} (h : Dn r) : r.reverse.Pairwise (· < ·) := by
  rw [List.pairwise_reverse]
  exact h
theorem lastC_rev (c : Int) (l : List Int) : lastC (c :: l).reverse = c := by simp [lastC]
theorem view_last {need win keep now c : Int} {l : List Int} {x : Tk} (h : viewE need win keep now (c :: l) = some x) : lastC x.cy = c := by
  rw [viewE_cons] at h
  split at h
  · cases h
  · obtain rfl := Option.some.inj h
    show lastC (if _ then _ else _) = c
    split
    · rename_i g
      have : now - win < c := by omega
      simp only [List.filter_cons, this, decide_true, if_true]
      exact lastC_rev c _
    · simp [lastC]
/-- the time goes on -/
theorem view_adv {t : Ts} {now : Int} (hn : t.now ≤ now) {r : List Int} (hd : Dn r) : viewE t.need t.win t.keep now r = match viewE t.need t.win t.keep t.now r with | none => none | some x => if deadT t now x then none else some (trimT t now x) := by
  cases r with
  | nil => rfl
  | cons c l =>
    cases hx : viewE t.need t.win t.keep t.now (c :: l) with
    | none =>
      have hx' : t.keep ≤ t.now - c ∨ (isR t.need t.win t.keep (c :: l) = false ∧ t.win ≤ t.now - c) := by
        rw [viewE_cons] at hx
        split at hx
        · assumption
        · cases hx
      rw [viewE_cons]
      rw [if_pos]
      rcases hx' with g | ⟨g1, g2⟩
      · exact .inl (by omega)
      · exact .inr ⟨g1, by omega⟩
    | some x =>
      have hl := view_last hx
      have hx0 := hx
      rw [viewE_cons] at hx
      split at hx
      · cases hx
      rename_i g0
      have hk : x.kn = isR t.need t.win t.keep (c :: l) := by rw [← Option.some.inj hx]
      have hc : x.cy = if t.now - c < t.win then ((c :: l).filter fun e => decide (t.now - t.win < e)).reverse else [c] := by rw [← Option.some.inj hx]
      show viewE t.need t.win t.keep now (c :: l) = if deadT t now x then none else some (trimT t now x)
      unfold deadT
      rw [hl, hk]
      rw [viewE_cons]
      by_cases g : t.keep ≤ now - c ∨ (isR t.need t.win t.keep (c :: l) = false ∧ t.win ≤ now - c)
      · rw [if_pos g, if_pos]
        rcases g with g | ⟨g1, g2⟩
        · simp [g]
        · simp [g1, g2]
      · have hdd : (decide (t.keep ≤ now - c) || (!isR t.need t.win t.keep (c :: l) && decide (t.win ≤ now - c))) = false := by
          rw [← Bool.not_eq_true]
          simp only [Bool.or_eq_true, decide_eq_true_eq, Bool.and_eq_true, Bool.not_eq_true']
          exact g
        rw [if_neg g, hdd, if_neg Bool.false_ne_true]
        · unfold trimT
          rw [hk]
          congr 2
          have hne : x.cy ≠ [] := by
            rw [hc]; split
            · rename_i g3
              have : t.now - t.win < c := by omega
              simp [this]
            · simp
          have hup : x.cy.Pairwise (· < ·) := by
            rw [hc]; split
            · rw [List.pairwise_reverse]; exact List.Pairwise.filter _ hd
            · simp
          rw [trimC_eq _ _ _ hne hup, hl]
          by_cases g4 : now - c < t.win
          · rw [if_pos g4, if_pos g4, hc, if_pos (by omega)]
            rw [List.filter_reverse, List.filter_filter]
            congr 1
            apply List.filter_congr
            intro e _
            by_cases g5 : now - t.win < e
            · have : t.now - t.win < e := by omega
              simp [g5, this]
            · simp [g5]
          · rw [if_neg g4, if_neg g4]
/-- a hearing -/
theorem view_hit {t : Ts} {r : List Int} (hd : Dn r) (hr : ∀ c ∈ r, c ≤ t.now) (hwk : t.win ≤ t.keep) (hw : 1 ≤ t.win) : viewE t.need t.win t.keep t.now (addR r t.now) = some (hitT t t.now ((viewE t.need t.win t.keep t.now r).getD ⟨false, []⟩)) := by
  have fnil : ∀ (c : Int) (l : List Int), Dn (c :: l) → t.win ≤ t.now - c → ((c :: l).filter fun e => decide (t.now - t.win < e)) = [] := by
    intro c l h g
    refine List.filter_eq_nil_iff.2 fun e he => ?_
    have : e ≤ c := by
      rcases List.mem_cons.1 he with rfl | he
      · exact Int.le_refl _
      · have : c > e := (List.pairwise_cons.1 h).1 e he
        omega
    simp; omega
  have w0 : t.now - t.win < t.now := by omega
  have k0 : ¬ t.keep ≤ t.now - t.now := by omega
  have w1 : ¬ t.win ≤ t.now - t.now := by omega
  have w2 : t.now - t.now < t.win := by omega
  cases r with
  | nil =>
    show viewE _ _ _ _ [t.now] = _
    rw [viewE_cons]
    rw [if_neg (by omega), if_pos w2]
    have e0 : viewE t.need t.win t.keep t.now [] = none := rfl
    rw [e0]
    simp [isR, hitT, addC, w0]
  | cons c l =>
    by_cases hcs : c = t.now
    · have e1 : addR (c :: l) t.now = c :: l := by unfold addR; rw [if_pos]; rw [hcs]; rfl
      rw [e1, hcs]
      rw [viewE_cons]
      rw [if_neg (by omega), if_pos w2]
      congr 1
      have hfl : (List.filter (fun e => decide (t.now - t.win < e)) (t.now :: l)) ≠ [] := by simp [w0]
      have hla : lastC (List.filter (fun e => decide (t.now - t.win < e)) (t.now :: l)).reverse = t.now := by
        simp only [List.filter_cons, w0, decide_true, if_true]
        exact lastC_rev _ _
      show _ = hitT t t.now ⟨isR t.need t.win t.keep (t.now :: l), (List.filter (fun e => decide (t.now - t.win < e)) (t.now :: l)).reverse⟩
      unfold hitT addC
      rw [if_neg (by simpa using hfl), if_pos hla]
      congr 1
      cases l with
      | nil => simp [isR]
      | cons d l =>
        simp only [isR, List.length_reverse]
        cases decide (t.need ≤ ((List.filter (fun e => decide (t.now - t.win < e)) (t.now :: d :: l)).length : Int)) <;> simp
    · have e1 : addR (c :: l) t.now = t.now :: c :: l := by
        unfold addR; rw [if_neg]; intro e; exact hcs (Option.some.inj e)
      have hcn := hr c (List.mem_cons_self ..)
      rw [e1]
      have ev : viewE t.need t.win t.keep t.now (t.now :: c :: l) = some ⟨isR t.need t.win t.keep (t.now :: c :: l), ((t.now :: c :: l).filter fun e => decide (t.now - t.win < e)).reverse⟩ := by
        rw [viewE_cons]
        rw [if_neg (by omega), if_pos w2]
      rw [ev]
      congr 1
      have ef : ((t.now :: c :: l).filter fun e => decide (t.now - t.win < e)) = t.now :: ((c :: l).filter fun e => decide (t.now - t.win < e)) := by simp [w0]
      by_cases hk : t.keep ≤ t.now - c ∨ (isR t.need t.win t.keep (c :: l) = false ∧ t.win ≤ t.now - c)
      · have ex : viewE t.need t.win t.keep t.now (c :: l) = none := by rw [viewE_cons]; rw [if_pos hk]
        have hw2 : t.win ≤ t.now - c := by omega
        have en := fnil c l hd hw2
        rw [ex]
        show _ = hitT t t.now ⟨false, []⟩
        unfold hitT addC
        rw [if_pos rfl, ef, en]
        congr 1
        simp only [isR, ef, en]
        have : (isR t.need t.win t.keep (c :: l) && !decide (t.keep ≤ t.now - c)) = false := by
          rcases hk with hk | ⟨hk, _⟩
          · simp [hk]
          · simp [hk]
        rw [this]
        simp
      · have ex : viewE t.need t.win t.keep t.now (c :: l) = some ⟨isR t.need t.win t.keep (c :: l), if t.now - c < t.win then ((c :: l).filter fun e => decide (t.now - t.win < e)).reverse else [c]⟩ := by rw [viewE_cons]; rw [if_neg hk]
        have hkk : decide (t.keep ≤ t.now - c) = false := decide_eq_false (by omega)
        rw [ex]
        show _ = hitT t t.now ⟨isR t.need t.win t.keep (c :: l), if t.now - c < t.win then ((c :: l).filter fun e => decide (t.now - t.win < e)).reverse else [c]⟩
        by_cases g : t.now - c < t.win
        · rw [if_pos g]
          have g1 : t.now - t.win < c := by omega
          have hfl : (List.filter (fun e => decide (t.now - t.win < e)) (c :: l)).reverse ≠ [] := by simp [g1]
          have hla : lastC (List.filter (fun e => decide (t.now - t.win < e)) (c :: l)).reverse = c := by
            simp only [List.filter_cons, g1, decide_true, if_true]
            exact lastC_rev _ _
          unfold hitT addC
          rw [if_neg hfl, hla, if_neg hcs, if_neg (by omega), ef]
          simp only [List.reverse_cons, isR, ef, hkk, Bool.not_false, Bool.and_true, List.length_append, List.length_reverse, List.length_cons, List.length_nil]
          rw [Bool.or_comm]
        · have hw2 : t.win ≤ t.now - c := by omega
          have en := fnil c l hd hw2
          have hi : isR t.need t.win t.keep (c :: l) = true := by
            cases hb : isR t.need t.win t.keep (c :: l) with
            | true => rfl
            | false => exact absurd (.inr ⟨hb, hw2⟩) hk
          rw [if_neg g]
          unfold hitT addC
          rw [if_neg (by simp), show lastC [c] = c from rfl, if_neg hcs, if_pos hw2, ef, en]
          simp [isR, hi, hkk]
theorem Asc.one' {l : List (Int × Tk)} (h : Asc l) {p q : Int × Tk} (hp : p ∈ l) (hq : q ∈ l) (e : p.1 = q.1) : p = q := by
  obtain ⟨a, x⟩ := p
  obtain ⟨b, y⟩ := q
  obtain rfl : a = b := e
  have h1 := look_of_mem h hp
  have h2 := look_of_mem h hq
  rw [h1] at h2
  rw [Option.some.inj h2]
/-! ### the invariant -/
structure InvT (t : Ts) (P : List (Int × Int)) : Prop where
  srt : P.Pairwise fun p q => p.2 ≤ q.2
  bd : ∀ h ∈ P, 0 ≤ h.1 ∧ h.1 ≤ 16777215 ∧ 0 ≤ h.2 ∧ h.2 ≤ t.now
  view : ∀ a, lookT a t.es = viewE t.need t.win t.keep t.now (rcyc a P)
theorem rcyc_snoc (a : Int) (P : List (Int × Int)) (h : Int × Int) : rcyc a (P ++ [h]) = if h.1 = a then addR (rcyc a P) h.2 else rcyc a P := by simp [rcyc]
theorem rcyc_inv (a : Int) (n : Int) : ∀ (P : List (Int × Int)) (r : List Int), Dn r → P.Pairwise (fun p q => p.2 ≤ q.2) → (∀ h ∈ P, ∀ c ∈ r, c ≤ h.2) → (∀ h ∈ P, h.2 ≤ n) → (∀ c ∈ r, c ≤ n) → Dn (P.foldl (fun r h => if h.1 = a then addR r h.2 else r) r) ∧ ∀ c ∈ P.foldl (fun r h => if h.1 = a then addR r h.2 else r) r, c ≤ n
  | [], r, hd, _, _, _, hn => ⟨hd, hn⟩
  | h :: P, r, hd, hp, hr, hP, hn => by
    obtain ⟨h1, h2⟩ := List.pairwise_cons.1 hp
    have hr1 := hr h (List.mem_cons_self ..)
    refine rcyc_inv a n P _ ?_ h2 ?_ (fun g hg => hP g (List.mem_cons_of_mem _ hg)) ?_
    · show Dn (if h.1 = a then addR r h.2 else r)
      split
      · exact hd.add hr1
      · exact hd
    · intro g hg c hc
      replace hc : c ∈ (if h.1 = a then addR r h.2 else r) := hc
      split at hc
      · rcases mem_addR.1 hc with rfl | hc
        · exact h1 g hg
        · exact hr g (List.mem_cons_of_mem _ hg) c hc
      · exact hr g (List.mem_cons_of_mem _ hg) c hc
    · intro c hc
      replace hc : c ∈ (if h.1 = a then addR r h.2 else r) := hc
      split at hc
      · rcases mem_addR.1 hc with rfl | hc
        · exact hP h (List.mem_cons_self ..)
        · exact hn c hc
      · exact hn c hc
theorem InvT.dn {t : Ts} {P : List (Int × Int)} (h : InvT t P) (a : Int) : Dn (rcyc a P) ∧ ∀ c ∈ rcyc a P, c ≤ t.now :=
  rcyc_inv a t.now P [] List.Pairwise.nil h.srt (fun _ _ c hc => by cases hc) (fun g hg => (h.bd g hg).2.2.2) (fun c hc => by cases hc)
theorem look_adv {t : Ts} (ha : Asc t.es) (now a : Int) : lookT a (advT t now).es = match lookT a t.es with | none => none | some x => if deadT t now x then none else some (trimT t now x) := by
  have hadv := adv_asc (now := now) ha
  cases hx : lookT a t.es with
  | some x =>
    have hm := look_mem hx
    show _ = if deadT t now x then none else some (trimT t now x)
    by_cases g : deadT t now x = true
    · rw [if_pos g]
      cases hy : lookT a (advT t now).es with
      | none => rfl
      | some y =>
        have hm2 := look_mem hy
        obtain ⟨q, hq, e⟩ := List.mem_map.1 hm2
        obtain ⟨hq, hdq⟩ := List.mem_filter.1 hq
        have e1 : q.1 = a := congrArg Prod.fst e
        have : q = (a, x) := Asc.one' ha hq hm e1
        rw [this] at hdq
        simp [g] at hdq
    · rw [if_neg g]
      refine look_of_mem hadv (List.mem_map.2 ⟨(a, x), List.mem_filter.2 ⟨hm, by simpa using g⟩, rfl⟩)
  | none =>
    cases hy : lookT a (advT t now).es with
    | none => rfl
    | some y =>
      have hm2 := look_mem hy
      obtain ⟨q, hq, e⟩ := List.mem_map.1 hm2
      obtain ⟨hq, hdq⟩ := List.mem_filter.1 hq
      have e1 : q.1 = a := congrArg Prod.fst e
      have := look_of_mem (a := a) (x := q.2) ha (by rw [← e1]; exact hq)
      rw [hx] at this
      cases this
theorem InvT.new {need win keep : Int} : InvT ⟨need, win, keep, 0, []⟩ [] := ⟨List.Pairwise.nil, fun h hh => (by cases hh), fun _ => rfl⟩
theorem InvT.adv {t : Ts} {P : List (Int × Int)} (h : InvT t P) (ht : Ok t) {now : Int} (hn : t.now ≤ now) : InvT (advT t now) P := by
  refine ⟨h.srt, fun g hg => ?_, fun a => ?_⟩
  · have := h.bd g hg
    refine ⟨this.1, this.2.1, this.2.2.1, ?_⟩
    show g.2 ≤ now
    omega
  · rw [look_adv ht.asc, h.view a]
    exact (view_adv hn (h.dn a).1).symm
theorem InvT.tick {t : Ts} {P : List (Int × Int)} (h : InvT t P) (ht : Ok t) (now : Int) : InvT (tickT t now) P := by
  unfold tickT
  split
  · rename_i g
    exact h.adv ht (tickE_ok g).1
  · exact h
theorem InvT.heard {t : Ts} {P : List (Int × Int)} (h : InvT t P) (ht : Ok t) {a : Int} (h0 : 0 ≤ a) (h1 : a ≤ 16777215) : InvT (heardT t a t.now) (P ++ [(a, t.now)]) := by
  have t0 := ht.t0
  have w1 : 1 ≤ t.win := by have := ht.n1; have := ht.nw; omega
  refine ⟨List.pairwise_append.2 ⟨h.srt, by simp, fun p hp q hq => ?_⟩, fun g hg => ?_, fun b => ?_⟩
  · simp at hq; subst hq
    exact (h.bd p hp).2.2.2
  · rcases List.mem_append.1 hg with hg | hg
    · exact h.bd g hg
    · simp at hg; subst hg
      exact ⟨h0, h1, t0, Int.le_refl _⟩
  · rw [rcyc_snoc]
    show lookT b (putT a _ t.es) = viewE t.need t.win t.keep t.now _
    by_cases g : a = b
    · subst g
      rw [if_pos rfl, look_put_same _ _ _ ht.asc, h.view a]
      exact (view_hit (h.dn a).1 (h.dn a).2 ht.wk w1).symm
    · rw [if_neg g, look_put_other _ (Ne.symm g), h.view b]
/-- what Hear records -/
def histP (t : Ts) (a s : Int) (P : List (Int × Int)) : List (Int × Int) := if hearE t a s = 0 then P ++ [(a, s)] else P
theorem InvT.hear {t : Ts} {P : List (Int × Int)} (h : InvT t P) (ht : Ok t) (a s : Int) : InvT (hearT t a s) (histP t a s P) := by
  unfold hearT histP hearE
  by_cases g1 : a < 0 ∨ 16777215 < a
  · rw [if_pos g1, if_pos g1, if_neg (by decide)]; exact h
  · rw [if_neg g1, if_neg g1]
    by_cases g2 : tickE t s ≠ 0
    · rw [if_pos g2, if_pos g2, if_neg g2]; exact h
    · rw [if_neg g2, if_neg g2]
      obtain ⟨q1, q2, q3⟩ := tickE_ok (Decidable.not_not.1 g2)
      have h' := h.adv ht q1
      have ht' := ht.adv q1 q3
      by_cases g3 : lookT a (advT t s).es = none ∧ 64 ≤ (advT t s).es.length
      · rw [if_pos g3, if_pos g3, if_neg (by decide)]; exact h'
      · rw [if_neg g3, if_neg g3, if_pos rfl]
        exact InvT.heard (t := advT t s) h' ht' (by omega) (by omega)
end Go.Proofs.YtkikokldijccnaaDoor
