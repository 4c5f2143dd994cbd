/- squitter in plain Lean: going through all cycles (History); hearings in another order (Order). -/
import Derived.Test.YtkikokldijccnaaGreatDoorSqI
namespace Go.Proofs.YtkikokldijccnaaGreatDoor
/-! ### going through all cycles -/
def cntH (H : Int → Bool) (lo : Int) : Nat → Int
  | 0 => 0
  | n + 1 => cntH H lo n + (if H (lo + n) then 1 else 0)
def thrStep (H : Int → Bool) (need win keep s : Int) (st : Int × Bool) : Int × Bool :=
  if H s then (s, (st.2 && !(decide (0 ≤ st.1) && decide (keep ≤ s - st.1))) || decide (need ≤ cntH H (max 0 (s - win + 1)) (s + 1 - max 0 (s - win + 1)).toNat))
  else (st.1, st.2 && !(decide (0 ≤ st.1) && decide (keep ≤ s - st.1)))
def thrN (H : Int → Bool) (need win keep : Int) : Nat → Int × Bool
  | 0 => (-1, false)
  | m + 1 => thrStep H need win keep m (thrN H need win keep m)
theorem count_eq1 {r : List Int} (hd : Dn r) (x : Int) : (r.filter fun c => decide (c = x)).length = if x ∈ r then 1 else 0 := by
  induction r with
  | nil => simp
  | cons c r ih =>
    obtain ⟨h1, h2⟩ := List.pairwise_cons.1 hd
    rw [List.filter_cons]
    by_cases g : c = x
    · subst g
      have : (r.filter fun d => decide (d = c)) = [] := by
        refine List.filter_eq_nil_iff.2 fun d hd => ?_
        have : c > d := h1 d hd
        simp; omega
      simp [this]
    · have e : x ∈ c :: r ↔ x ∈ r := by simp [Ne.symm g]
      simp only [g, decide_false, Bool.false_eq_true, if_false, ih h2, e]
theorem cntH_eq {H : Int → Bool} {r : List Int} (hd : Dn r) (hH : ∀ c, H c = true ↔ c ∈ r) (lo : Int) : ∀ n : Nat, cntH H lo n = ((r.filter fun c => decide (lo ≤ c ∧ c < lo + n)).length : Int)
  | 0 => by
    have : (r.filter fun c => decide (lo ≤ c ∧ c < lo + (0 : Nat))) = [] := List.filter_eq_nil_iff.2 fun d _ => by simp
    rw [this]; rfl
  | n + 1 => by
    have ih := cntH_eq hd hH lo n
    have h1 := count_eq1 hd (lo + n)
    have key : ∀ l : List Int, (l.filter fun c => decide (lo ≤ c ∧ c < lo + (n + 1 : Nat))).length = (l.filter fun c => decide (lo ≤ c ∧ c < lo + n)).length + (l.filter fun c => decide (c = lo + n)).length := by
      intro l
      induction l with
      | nil => rfl
      | cons c l ih =>
        rw [List.filter_cons, List.filter_cons, List.filter_cons]
        by_cases g1 : c = lo + n
        · have d1 : decide (lo ≤ c ∧ c < lo + (n + 1 : Nat)) = true := decide_eq_true (by omega)
          have d2 : decide (lo ≤ c ∧ c < lo + n) = false := decide_eq_false (by omega)
          rw [d1, d2, decide_eq_true g1, if_pos rfl, if_neg Bool.false_ne_true, if_pos rfl, List.length_cons, List.length_cons, ih]
          omega
        · by_cases g2 : lo ≤ c ∧ c < lo + n
          · have d1 : decide (lo ≤ c ∧ c < lo + (n + 1 : Nat)) = true := decide_eq_true (by omega)
            rw [d1, decide_eq_true g2, decide_eq_false g1, if_pos rfl, if_pos rfl, if_neg Bool.false_ne_true, List.length_cons, List.length_cons, ih]
            omega
          · have d1 : decide (lo ≤ c ∧ c < lo + (n + 1 : Nat)) = false := decide_eq_false (by omega)
            rw [d1, decide_eq_false g2, decide_eq_false g1, if_neg Bool.false_ne_true, if_neg Bool.false_ne_true, if_neg Bool.false_ne_true, ih]
    unfold cntH
    rw [ih, key, h1]
    by_cases g : lo + (n : Int) ∈ r
    · rw [if_pos g, if_pos ((hH _).2 g)]; omega
    · have : ¬ H (lo + n) = true := fun e => g ((hH _).1 e)
      rw [if_neg g, if_neg this]; omega
def goneR (need win keep m : Int) : List Int → Int × Bool
  | [] => (-1, false)
  | c :: l => (c, isR need win keep (c :: l) && decide (m - 1 - c < keep))
theorem filter_lt {r : List Int} (hd : Dn r) (m : Int) : (r.filter fun c => decide (c < m + 1)) = if m ∈ r then m :: r.filter (fun c => decide (c < m)) else r.filter fun c => decide (c < m) := by
  induction r with
  | nil => simp
  | cons c r ih =>
    obtain ⟨h1, h2⟩ := List.pairwise_cons.1 hd
    rw [List.filter_cons, List.filter_cons, ih h2]
    by_cases g : c = m
    · subst g
      have hn : c ∉ r := fun h => by have : c > c := h1 c h; omega
      have g1 : c < c + 1 := by omega
      simp [hn, g1]
    · have e : m ∈ c :: r ↔ m ∈ r := by simp [Ne.symm g]
      by_cases g2 : c < m
      · have hn : m ∉ r := fun h => by have : c > m := h1 m h; omega
        have g1 : c < m + 1 := by omega
        simp only [e, hn, g1, g2, decide_true, if_true, if_false]
      · have g1 : ¬ c < m + 1 := by omega
        simp only [e, g1, g2, decide_false, Bool.false_eq_true, if_false]
theorem thr_eq {H : Int → Bool} {r : List Int} (hd : Dn r) (h0 : ∀ c ∈ r, 0 ≤ c) (hH : ∀ c, H c = true ↔ c ∈ r) {need win keep : Int} (hk : 1 ≤ keep) (hw : 1 ≤ win) : ∀ m : Nat, thrN H need win keep m = goneR need win keep m (r.filter fun c => decide (c < (m : Int)))
  | 0 => by
    have : (r.filter fun c => decide (c < ((0 : Nat) : Int))) = [] := List.filter_eq_nil_iff.2 fun d hd => by have := h0 d hd; simp; omega
    rw [this]; rfl
  | m + 1 => by
    have ih := thr_eq (need := need) hd h0 hH hk hw m
    have hf := filter_lt hd (m : Int)
    have e1 : ((m + 1 : Nat) : Int) = (m : Int) + 1 := by omega
    unfold thrN thrStep
    rw [ih, e1, hf]
    have hdm : Dn (r.filter fun c => decide (c < (m : Int))) := List.Pairwise.filter _ hd
    have hmem : ∀ c ∈ (r.filter fun c => decide (c < (m : Int))), 0 ≤ c ∧ c < m := fun c hc => by
      obtain ⟨h1, h2⟩ := List.mem_filter.1 hc
      exact ⟨h0 c h1, by simpa using h2⟩
    have hcnt : H m = true → cntH H (max 0 ((m : Int) - win + 1)) ((m : Int) + 1 - max 0 ((m : Int) - win + 1)).toNat = (((m : Int) :: r.filter fun c => decide (c < (m : Int))).filter fun e => decide ((m : Int) - win < e)).length := by
      intro hm
      rw [cntH_eq hd hH]
      have : (m : Int) :: (r.filter fun c => decide (c < (m : Int))) = r.filter fun c => decide (c < (m : Int) + 1) := by rw [hf, if_pos ((hH _).1 hm)]
      rw [this, List.filter_filter]
      congr 2
      apply List.filter_congr
      intro c hc
      have := h0 c hc
      by_cases g : (m : Int) - win < c ∧ c < (m : Int) + 1
      · have g2 : max 0 ((m : Int) - win + 1) ≤ c ∧ c < max 0 ((m : Int) - win + 1) + (((m : Int) + 1 - max 0 ((m : Int) - win + 1)).toNat : Int) := by omega
        rw [decide_eq_true g2]; simp [g]
      · have g2 : ¬ (max 0 ((m : Int) - win + 1) ≤ c ∧ c < max 0 ((m : Int) - win + 1) + (((m : Int) + 1 - max 0 ((m : Int) - win + 1)).toNat : Int)) := by omega
        simp only [g2, decide_false]
        by_cases g3 : (m : Int) - win < c
        · have : ¬ c < (m : Int) + 1 := fun h => g ⟨g3, h⟩
          simp [this]
        · simp [g3]
    by_cases gm : (m : Int) ∈ r
    · rw [if_pos ((hH _).2 gm), if_pos gm, hcnt ((hH _).2 gm)]
      cases hr : (r.filter fun c => decide (c < (m : Int))) with
      | nil =>
        have k0 : (0 : Int) < keep := by omega
        simp [goneR, isR, k0]
      | cons c l =>
        have hc := hmem c (by rw [hr]; exact List.mem_cons_self ..)
        have c0 : decide (0 ≤ c) = true := decide_eq_true hc.1
        have k0 : (0 : Int) < keep := by omega
        unfold goneR
        have e2 : (m : Int) + 1 - 1 - m = 0 := by omega
        simp only [c0, Bool.true_and, isR, e2, k0, decide_true, Bool.and_true, Prod.mk.injEq, true_and]
        rw [Bool.or_comm]
        congr 1
        rw [Bool.and_assoc]
        congr 1
        by_cases g : keep ≤ (m : Int) - c
        · simp [g]
        · have : (m : Int) - 1 - c < keep := by omega
          simp [g, this]
    · have : ¬ H m = true := fun e => gm ((hH _).1 e)
      rw [if_neg this, if_neg gm]
      cases hr : (r.filter fun c => decide (c < (m : Int))) with
      | nil => rfl
      | cons c l =>
        have hc := hmem c (by rw [hr]; exact List.mem_cons_self ..)
        have c0 : decide (0 ≤ c) = true := decide_eq_true hc.1
        unfold goneR
        simp only [c0, Bool.true_and, Prod.mk.injEq, true_and]
        rw [Bool.and_assoc]
        congr 1
        by_cases g : keep ≤ (m : Int) - c
        · rw [decide_eq_true g, decide_eq_false (show ¬ (m : Int) + 1 - 1 - c < keep by omega)]; simp
        · rw [decide_eq_false g, decide_eq_true (show (m : Int) - 1 - c < keep by omega), decide_eq_true (show (m : Int) + 1 - 1 - c < keep by omega)]; rfl
/-- what going through the cycles of an address says is what the table says -/
theorem thr_view {t : Ts} {P : List (Int × Int)} (h : InvT t P) (ht : Ok t) (a : Int) {H : Int → Bool} (hH : ∀ c, H c = true ↔ (a, c) ∈ P) {m : Nat} (hm : (m : Int) = t.now + 1) :
    (thrN H t.need t.win t.keep m).2 = knOf (lookT a t.es) ∧
    ((decide (0 ≤ (thrN H t.need t.win t.keep m).1) && decide (t.now - t.win < (thrN H t.need t.win t.keep m).1)) && !(thrN H t.need t.win t.keep m).2) = pnOf (lookT a t.es) := by
  have hk : 1 ≤ t.keep := by have := ht.n1; have := ht.nw; have := ht.wk; omega
  have hw : 1 ≤ t.win := by have := ht.n1; have := ht.nw; omega
  have hd := h.dn a
  have h0 : ∀ c ∈ rcyc a P, 0 ≤ c := fun c hc => (h.bd _ (mem_rcyc.1 hc)).2.2.1
  have ht := thr_eq hd.1 h0 (fun c => (hH c).trans mem_rcyc.symm) (need := t.need) hk hw m
  have hall : ((rcyc a P).filter fun c => decide (c < (m : Int))) = rcyc a P := List.filter_eq_self.2 fun c hc => by have := hd.2 c hc; simp; omega
  rw [hall] at ht
  rw [ht, ← known_eq h ‹Ok t› a, ← pend_eq h ‹Ok t› a]
  unfold pendF knownF
  rw [h.all a, List.reverse_reverse, isW_eq h a _ _ _ (rcyc a P) [] (List.nil_append _).symm, heard_eq h]
  cases hr : rcyc a P with
  | nil => simp [goneR, isR]
  | cons c l =>
    have hc0 := h0 c (by rw [hr]; exact List.mem_cons_self ..)
    have e1 : (m : Int) - 1 - c = t.now - c := by omega
    have e2 : decide (t.now - t.win < c) = decide (t.now - c < t.win) := by
      by_cases g : t.now - c < t.win
      · have : t.now - t.win < c := by omega
        simp [g, this]
      · have : ¬ t.now - t.win < c := by omega
        simp [g, this]
    simp only [goneR, e1, lastC_rev, true_and, hc0, decide_true, Bool.true_and, e2]
    rw [Bool.and_comm]
/-! ### hearings in another order -/
theorem look_ext : ∀ {l m : List (Int × Tk)}, Asc l → Asc m → (∀ a, lookT a l = lookT a m) → l = m
  | [], [], _, _, _ => rfl
  | [], q :: m, _, _, h => by have := h q.1; simp [lookT] at this
  | p :: l, [], _, _, h => by have := h p.1; simp [lookT] at this
  | p :: l, q :: m, hl, hm, h => by
    have hp := look_mem (a := p.1) (x := p.2) (l := q :: m) (by rw [← h p.1]; simp [lookT])
    have hq := look_mem (a := q.1) (x := q.2) (l := p :: l) (by rw [h q.1]; simp [lookT])
    have e : p = q := by
      rcases List.mem_cons.1 hp with g | g
      · exact g
      · rcases List.mem_cons.1 hq with k | k
        · exact k.symm
        · have k1 : p.1 < q.1 := hl.1 _ k
          have k2 : q.1 < p.1 := hm.1 _ g
          omega
    subst e
    congr 1
    refine look_ext hl.2 hm.2 fun a => ?_
    have ha := h a
    unfold lookT at ha
    by_cases g : p.1 = a
    · have n1 : ∀ l : List (Int × Tk), (∀ q ∈ l, p.1 < q.1) → lookT a l = none := by
        intro l hl
        cases hx : lookT a l with
        | none => rfl
        | some x => have := hl _ (look_mem hx); have : p.1 < a := this; omega
      rw [n1 l hl.1, n1 m hm.1]
    · rw [if_neg g, if_neg g] at ha; exact ha
theorem adv_adv {t : Ts} (ht : Asc t.es) {n1 n2 : Int} (h2 : n1 ≤ n2) (hne : ∀ p ∈ t.es, p.2.cy ≠ [] ∧ p.2.cy.Pairwise (· < ·)) : advT (advT t n1) n2 = advT t n2 := by
  have e : (advT (advT t n1) n2).es = (advT t n2).es := by
    refine look_ext (adv_asc (adv_asc ht)) (adv_asc ht) fun a => ?_
    rw [look_adv (adv_asc ht), look_adv ht, look_adv ht]
    cases hx : lookT a t.es with
    | none => rfl
    | some x =>
      obtain ⟨hx1, hx2⟩ : x.cy ≠ [] ∧ x.cy.Pairwise (· < ·) := hne _ (look_mem hx)
      show (match (if deadT t n1 x then none else some (trimT t n1 x)) with | none => none | some x => if deadT (advT t n1) n2 x then none else some (trimT (advT t n1) n2 x)) = if deadT t n2 x then none else some (trimT t n2 x)
      by_cases g : deadT t n1 x = true
      · have g2 : deadT t n2 x = true := by
          unfold deadT at g ⊢
          simp only [Bool.or_eq_true, decide_eq_true_eq, Bool.and_eq_true, Bool.not_eq_true'] at g ⊢
          rcases g with g | g
          · exact .inl (by omega)
          · exact .inr ⟨g.1, by omega⟩
        rw [if_pos g, if_pos g2]
      · rw [if_neg g]
        have e1 : deadT (advT t n1) n2 (trimT t n1 x) = deadT t n2 x := deadT_trim t n2 n1 x
        have e2 : trimT (advT t n1) n2 (trimT t n1 x) = trimT t n2 x := by
          unfold trimT
          congr 1
          show trimC t.win n2 (trimC t.win n1 x.cy) = trimC t.win n2 x.cy
          rw [trimC_eq t.win n2 _ (trimC_ne _ _ _ hx1) (trimC_up hx2), trimC_last, trimC_eq t.win n2 _ hx1 hx2]
          by_cases g2 : n2 - lastC x.cy < t.win
          · rw [if_pos g2, if_pos g2, trimC_eq t.win n1 _ hx1 hx2, if_pos (by omega), List.filter_filter]
            apply List.filter_congr
            intro c _
            by_cases g3 : n2 - t.win < c
            · have : n1 - t.win < c := by omega
              simp [g3, this]
            · simp [g3]
          · rw [if_neg g2, if_neg g2]
        show (if deadT (advT t n1) n2 (trimT t n1 x) then none else some (trimT (advT t n1) n2 (trimT t n1 x))) = _
        rw [e1, e2]
  have : ∀ a b : Ts, a.need = b.need → a.win = b.win → a.keep = b.keep → a.now = b.now → a.es = b.es → a = b := by
    rintro ⟨_, _, _, _, _⟩ ⟨_, _, _, _, _⟩ rfl rfl rfl rfl rfl; rfl
  exact this _ _ rfl rfl rfl rfl e
/-- a table is as its time makes it -/
theorem adv_self {t : Ts} (ht : Ok t) : advT t t.now = t := by
  have e : (advT t t.now).es = t.es := by
    refine look_ext (adv_asc ht.asc) ht.asc fun a => ?_
    rw [look_adv ht.asc]
    cases hx : lookT a t.es with
    | none => rfl
    | some x =>
      have ho := ht.ent _ (look_mem hx)
      show (if deadT t t.now x then none else some (trimT t t.now x)) = some x
      have hl : deadT t t.now x = false := ho.lv
      rw [hl, if_neg Bool.false_ne_true]
      have : trimC t.win t.now x.cy = x.cy := by
        rw [trimC_eq _ _ _ ho.ne ho.up]
        rcases ho.fr with g | g
        · obtain ⟨d, hd⟩ := List.length_eq_one_iff.1 g
          have hd' : x.cy = [d] := hd
          rw [hd']
          by_cases g2 : t.now - d < t.win
          · have : t.now - t.win < d := by omega
            simp [lastC, this]
          · simp [lastC, g2]
        · have g' : ∀ c ∈ x.cy, t.now - c < t.win := g
          rw [if_pos (g' _ (lastC_mem ho.ne)), List.filter_eq_self.2]
          intro c hc
          have := g' c hc
          simp; omega
      unfold trimT
      rw [this]
  have : ∀ a b : Ts, a.need = b.need → a.win = b.win → a.keep = b.keep → a.now = b.now → a.es = b.es → a = b := by
    rintro ⟨_, _, _, _, _⟩ ⟨_, _, _, _, _⟩ rfl rfl rfl rfl rfl; rfl
  exact this _ _ rfl rfl rfl rfl e
theorem hit_hit (t : Ts) (s : Int) (x : Tk) : hitT t s (hitT t s x) = hitT t s x := by
  have hl : lastC (addC t.win s x.cy) = s := by
    unfold addC
    split
    · simp [lastC]
    · split
      · assumption
      · split
        · simp [lastC]
        · exact lastC_snoc _ _
  have hne : addC t.win s x.cy ≠ [] := by
    unfold addC
    split
    · simp
    · split
      · assumption
      · split <;> simp
  have e : addC t.win s (addC t.win s x.cy) = addC t.win s x.cy := by
    generalize addC t.win s x.cy = q at hl hne ⊢
    unfold addC
    rw [if_neg hne, if_pos hl]
  unfold hitT
  simp only [e, Bool.or_assoc, Bool.or_self]
/-- all of these are heard, at the table's time -/
def heardL (t : Ts) (s : Int) (l : List Int) : Ts := l.foldl (fun t a => heardT t a s) t
theorem heardL_par (s : Int) : ∀ (l : List Int) (t : Ts), (heardL t s l).need = t.need ∧ (heardL t s l).win = t.win ∧ (heardL t s l).keep = t.keep ∧ (heardL t s l).now = t.now ∧ (Asc t.es → Asc (heardL t s l).es)
  | [], _ => ⟨rfl, rfl, rfl, rfl, id⟩
  | a :: l, t => by
    obtain ⟨h1, h2, h3, h4, h5⟩ := heardL_par s l (heardT t a s)
    exact ⟨h1, h2, h3, h4, fun h => h5 (Asc.put a _ h)⟩
theorem hitT_cong {t t' : Ts} (h1 : t.need = t'.need) (h2 : t.win = t'.win) (s : Int) (x : Tk) : hitT t s x = hitT t' s x := by
  unfold hitT; rw [h1, h2]
theorem heardL_look (s : Int) (b : Int) : ∀ (l : List Int) (t : Ts), Asc t.es → lookT b (heardL t s l).es = if b ∈ l then some (hitT t s ((lookT b t.es).getD ⟨false, []⟩)) else lookT b t.es
  | [], _, _ => by simp [heardL]
  | a :: l, t, h => by
    have hp : Asc (heardT t a s).es := Asc.put a _ h
    have ih := heardL_look s b l (heardT t a s) hp
    show lookT b (heardL (heardT t a s) s l).es = _
    rw [ih]
    have hc : ∀ x, hitT (heardT t a s) s x = hitT t s x := fun x => hitT_cong rfl rfl s x
    have hlook : lookT b (heardT t a s).es = if b = a then some (hitT t s ((lookT a t.es).getD ⟨false, []⟩)) else lookT b t.es := by
      by_cases g : b = a
      · subst g; rw [if_pos rfl]; exact look_put_same _ _ _ h
      · rw [if_neg g]; exact look_put_other _ g _
    rw [hlook, hc]
    by_cases g : b = a
    · subst g
      rw [if_pos rfl]
      by_cases g2 : b ∈ l
      · simp [g2, hit_hit]
      · simp [g2]
    · rw [if_neg g]
      have e : b ∈ a :: l ↔ b ∈ l := by simp [g]
      simp only [e]
theorem heardL_set {t : Ts} (h : Asc t.es) (s : Int) {l m : List Int} (hlm : ∀ a, a ∈ l ↔ a ∈ m) : heardL t s l = heardL t s m := by
  obtain ⟨a1, a2, a3, a4, a5⟩ := heardL_par s l t
  obtain ⟨b1, b2, b3, b4, b5⟩ := heardL_par s m t
  have e : (heardL t s l).es = (heardL t s m).es := look_ext (a5 h) (b5 h) fun b => by
    rw [heardL_look s b l t h, heardL_look s b m t h]
    simp only [hlm b]
  have : ∀ a b : Ts, a.need = b.need → a.win = b.win → a.keep = b.keep → a.now = b.now → a.es = b.es → a = b := by
    rintro ⟨_, _, _, _, _⟩ ⟨_, _, _, _, _⟩ rfl rfl rfl rfl rfl; rfl
  exact this _ _ (a1.trans b1.symm) (a2.trans b2.symm) (a3.trans b3.symm) (a4.trans b4.symm) e
/-- ascending numbers out of a list are not more than it has -/
theorem up_sub : ∀ {l L : List Int}, l.Pairwise (· < ·) → (∀ a ∈ l, a ∈ L) → l.length ≤ L.length
  | [], _, _, _ => Nat.zero_le _
  | a :: l, L, hl, h => by
    obtain ⟨h1, h2⟩ := List.pairwise_cons.1 hl
    have ha := h a (List.mem_cons_self ..)
    have := up_sub (L := L.erase a) h2 fun b hb => by
      have hab := h1 b hb
      exact (List.mem_erase_of_ne (by omega)).2 (h b (List.mem_cons_of_mem _ hb))
    have hlen := List.length_erase_of_mem ha
    have : 0 < L.length := List.length_pos_of_mem ha
    rw [List.length_cons]; omega
end Go.Proofs.YtkikokldijccnaaGreatDoor
