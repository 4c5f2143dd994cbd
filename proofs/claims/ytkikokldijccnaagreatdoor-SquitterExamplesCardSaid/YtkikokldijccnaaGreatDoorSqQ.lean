/- squitter in plain Lean: what holds of every table; the map's datum. -/
import Derived.Test.YtkikokldijccnaaGreatDoorSqP
import Derived.Maps.RangeWalk
import Derived.Maps.OwnSet
namespace Go.Proofs.YtkikokldijccnaaGreatDoor
open Go.Maps (Keyed)
/-! ### what holds of every table -/
structure OkE (t : Ts) (p : Int × Tk) : Prop where
  a0 : 0 ≤ p.1
  a1 : p.1 ≤ 16777215
  ne : p.2.cy ≠ []
  up : p.2.cy.Pairwise (· < ·)
  c0 : ∀ c ∈ p.2.cy, 0 ≤ c ∧ c ≤ t.now
  fr : p.2.cy.length = 1 ∨ ∀ c ∈ p.2.cy, t.now - c < t.win
  lv : deadT t t.now p.2 = false
  pd : p.2.kn = true ∨ p.2.cy.length < t.need
structure Ok (t : Ts) : Prop where
  n1 : 1 ≤ t.need
  n8 : t.need ≤ 8
  nw : t.need ≤ t.win
  w64 : t.win ≤ 64
  wk : t.win ≤ t.keep
  k1 : t.keep ≤ 1024
  t0 : 0 ≤ t.now
  t1 : t.now ≤ 1073741824
  asc : Asc t.es
  len : t.es.length ≤ 64
  ent : ∀ p ∈ t.es, OkE t p
theorem Ok.new {need win keep : Int} (h : newE need win keep = 0) : Ok ⟨need, win, keep, 0, []⟩ := by
  unfold newE at h
  split at h
  · exact absurd h (by decide)
  · exact ⟨by show 1 ≤ need; omega, by show need ≤ 8; omega, by show need ≤ win; omega, by show win ≤ 64; omega, by show win ≤ keep; omega, by show keep ≤ 1024; omega, Int.le_refl 0, (show (0 : Int) ≤ 1073741824 by decide), trivial, by simp, fun p hp => by cases hp⟩
theorem trimC_drop (win now : Int) : ∀ l : List Int, ∃ k, trimC win now l = l.drop k
  | [] => ⟨0, rfl⟩
  | [c] => ⟨0, rfl⟩
  | c :: d :: l => by
    unfold trimC
    split
    · obtain ⟨k, hk⟩ := trimC_drop win now (d :: l)
      exact ⟨k + 1, by rw [hk]; rfl⟩
    · exact ⟨0, rfl⟩
theorem trimC_fresh (win now : Int) : ∀ l : List Int, l ≠ [] → l.Pairwise (· < ·) → (trimC win now l).length = 1 ∨ ∀ c ∈ trimC win now l, now - c < win
  | [], h, _ => absurd rfl h
  | [c], _, _ => .inl rfl
  | c :: d :: l, _, hp => by
    unfold trimC
    split
    · exact trimC_fresh win now (d :: l) (by simp) (List.pairwise_cons.1 hp).2
    · rename_i g
      refine .inr fun x hx => ?_
      rcases List.mem_cons.1 hx with rfl | hx
      · omega
      · have := (List.pairwise_cons.1 hp).1 x hx
        omega
theorem trimC_len (win now : Int) (l : List Int) : (trimC win now l).length ≤ l.length := by
  obtain ⟨k, hk⟩ := trimC_drop win now l
  rw [hk]; simp
theorem trimC_mem {win now c : Int} {l : List Int} (h : c ∈ trimC win now l) : c ∈ l := by
  obtain ⟨k, hk⟩ := trimC_drop win now l
  rw [hk] at h
  exact List.mem_of_mem_drop h
theorem trimC_up {win now : Int} {l : List Int} (h : l.Pairwise (· < ·)) : (trimC win now l).Pairwise (· < ·) := by
  obtain ⟨k, hk⟩ := trimC_drop win now l
  rw [hk]
  exact h.sublist (List.drop_sublist k l)
theorem deadT_trim (t : Ts) (now now' : Int) (x : Tk) : deadT t now (trimT t now' x) = deadT t now x := by
  unfold deadT trimT
  rw [trimC_last]
theorem Ok.adv {t : Ts} (h : Ok t) {now : Int} (h0 : t.now ≤ now) (h1 : now ≤ 1073741824) : Ok (advT t now) := by
  have t0 := h.t0
  refine ⟨h.n1, h.n8, h.nw, h.w64, h.wk, h.k1, by show 0 ≤ now; omega, h1, adv_asc h.asc, ?_, fun p hp => ?_⟩
  · have := h.len
    have g := List.length_filter_le (fun p => !deadT t now p.2) t.es
    simp only [advT, List.length_map]
    omega
  · obtain ⟨q, hq, rfl⟩ := List.mem_map.1 hp
    obtain ⟨hq, hd⟩ := List.mem_filter.1 hq
    have e := h.ent q hq
    refine ⟨e.a0, e.a1, trimC_ne _ _ _ e.ne, trimC_up e.up, fun c hc => ?_, trimC_fresh _ _ _ e.ne e.up, ?_, ?_⟩
    · have := e.c0 c (trimC_mem hc)
      refine ⟨this.1, ?_⟩
      show c ≤ now
      omega
    · show deadT t now (trimT t now q.2) = false
      rw [deadT_trim]
      simpa using hd
    · rcases e.pd with g | g
      · exact .inl g
      · refine .inr ?_
        have := trimC_len t.win now q.2.cy
        show ((trimC t.win now q.2.cy).length : Int) < t.need
        omega
theorem tickE_ok {t : Ts} {now : Int} (h : tickE t now = 0) : t.now ≤ now ∧ 0 ≤ now ∧ now ≤ 1073741824 := by
  unfold tickE at h
  split at h
  · exact absurd h (by decide)
  · split at h
    · exact absurd h (by decide)
    · omega
theorem Ok.tick {t : Ts} (h : Ok t) (now : Int) : Ok (tickT t now) := by
  unfold tickT
  split
  · rename_i g
    obtain ⟨g1, g2, g3⟩ := tickE_ok g
    exact h.adv g1 g3
  · exact h
/-- so many numbers that ascend there are not between two bounds -/
theorem up_len {a b : Int} : ∀ {l : List Int}, l.Pairwise (· < ·) → (∀ c ∈ l, a < c ∧ c ≤ b) → a ≤ b → (l.length : Int) ≤ b - a
  | [], _, _, h => by simp; omega
  | c :: l, hp, hc, h => by
    obtain ⟨h1, h2⟩ := List.pairwise_cons.1 hp
    have hcc := hc c (List.mem_cons_self ..)
    have := up_len (a := c) (b := b) h2 (fun d hd => ⟨h1 d hd, (hc d (List.mem_cons_of_mem _ hd)).2⟩) hcc.2
    simp only [List.length_cons, Int.natCast_add, Int.cast_ofNat_Int]
    omega
theorem OkE.len {t : Ts} {p : Int × Tk} (h : OkE t p) (hw : 1 ≤ t.win) : (p.2.cy.length : Int) ≤ t.win := by
  rcases h.fr with g | g
  · omega
  · have := up_len (a := t.now - t.win) (b := t.now) h.up (fun c hc => by have := g c hc; have := h.c0 c hc; omega) (by omega)
    omega
theorem lastC_mem : ∀ {l : List Int}, l ≠ [] → lastC l ∈ l
  | [], h => absurd rfl h
  | [c], _ => by simp [lastC]
  | c :: d :: l, _ => by
    have := lastC_mem (l := d :: l) (by simp)
    exact List.mem_cons_of_mem _ (by simp [lastC, List.getLastD])
theorem up_last : ∀ {l : List Int}, l.Pairwise (· < ·) → ∀ c ∈ l, c ≤ lastC l
  | [], _, c, h => by cases h
  | [d], _, c, h => by simp at h; subst h; simp [lastC]
  | d :: e :: l, hp, c, h => by
    have e1 : lastC (d :: e :: l) = lastC (e :: l) := by simp [lastC, List.getLastD]
    rw [e1]
    rcases List.mem_cons.1 h with rfl | h
    · have := (List.pairwise_cons.1 hp).1 e (List.mem_cons_self ..)
      have := up_last (List.pairwise_cons.1 hp).2 e (List.mem_cons_self ..)
      omega
    · exact up_last (List.pairwise_cons.1 hp).2 c h
theorem lastC_snoc (l : List Int) (s : Int) : lastC (l ++ [s]) = s := by simp [lastC]
/-- an entry that was hit at the table's time -/
theorem OkE.hit {t : Ts} (ht : Ok t) {a : Int} (h0 : 0 ≤ a) (h1 : a ≤ 16777215) {x : Tk} (hx : (x = ⟨false, []⟩) ∨ OkE t (a, x)) : OkE t (a, hitT t t.now x) := by
  have w1 : 1 ≤ t.win := by have := ht.n1; have := ht.nw; omega
  have k0 : 1 ≤ t.keep := by have := ht.wk; omega
  have t0 := ht.t0
  have hlast : lastC (addC t.win t.now x.cy) = t.now := by
    unfold addC
    split
    · simp [lastC]
    · split
      · assumption
      · split
        · simp [lastC]
        · exact lastC_snoc _ _
  have hup : (addC t.win t.now x.cy).Pairwise (· < ·) ∧ (∀ c ∈ addC t.win t.now x.cy, 0 ≤ c ∧ c ≤ t.now) ∧ ((addC t.win t.now x.cy).length = 1 ∨ ∀ c ∈ addC t.win t.now x.cy, t.now - c < t.win) ∧ addC t.win t.now x.cy ≠ [] := by
    unfold addC
    split
    · exact ⟨by simp, by simp; omega, .inl rfl, by simp⟩
    · rename_i hne
      rcases hx with rfl | hx
      · exact absurd rfl hne
      split
      · exact ⟨hx.up, hx.c0, hx.fr, hne⟩
      · rename_i g1
        split
        · exact ⟨by simp, by simp; omega, .inl rfl, by simp⟩
        · rename_i g2
          have hl := lastC_mem hne
          have hl0 := hx.c0 _ hl
          refine ⟨List.pairwise_append.2 ⟨hx.up, by simp, fun c hc d hd => ?_⟩, fun c hc => ?_, .inr fun c hc => ?_, by simp⟩
          · simp at hd; subst hd
            have : c ≤ lastC x.cy := up_last hx.up c hc
            have := hl0.2
            omega
          · rcases List.mem_append.1 hc with hc | hc
            · exact hx.c0 c hc
            · simp at hc; omega
          · rcases List.mem_append.1 hc with hc | hc
            · rcases hx.fr with g | g
              · have e1 : x.cy.length = 1 := g
                obtain ⟨d, hd⟩ := List.length_eq_one_iff.1 e1
                rw [hd] at hc g2
                simp at hc; subst hc
                simp [lastC] at g2
                exact g2
              · exact g c hc
            · simp at hc; omega
  refine ⟨h0, h1, hup.2.2.2, hup.1, hup.2.1, hup.2.2.1, ?_, ?_⟩
  · unfold deadT
    have e1 : lastC (hitT t t.now x).cy = t.now := hlast
    simp only [e1, Int.sub_self]
    have g1 : decide (t.keep ≤ 0) = false := decide_eq_false (by omega)
    have g2 : decide (t.win ≤ 0) = false := decide_eq_false (by omega)
    simp [g1, g2]
  · show (x.kn || decide (t.need ≤ ((addC t.win t.now x.cy).length : Int))) = true ∨ ((addC t.win t.now x.cy).length : Int) < t.need
    by_cases g : t.need ≤ ((addC t.win t.now x.cy).length : Int)
    · exact .inl (by simp [g])
    · exact .inr (by omega)
theorem putT_same_len {a : Int} {x y : Tk} : ∀ {l : List (Int × Tk)}, (a, x) ∈ l → Asc l → (putT a y l).length = l.length
  | [], h, _ => by cases h
  | p :: l, h, ha => by
    unfold putT
    rcases List.mem_cons.1 h with rfl | h
    · rw [if_neg (by show ¬ a < a; omega), if_pos (show a = a from rfl)]; simp
    · have := ha.1 _ h
      have g : p.1 < a := this
      rw [if_neg (by omega), if_neg (by omega)]
      simp [putT_same_len h ha.2]
theorem Ok.heard {t : Ts} (h : Ok t) {a : Int} (h0 : 0 ≤ a) (h1 : a ≤ 16777215) (hf : ¬ (lookT a t.es = none ∧ 64 ≤ t.es.length)) : Ok (heardT t a t.now) := by
  refine ⟨h.n1, h.n8, h.nw, h.w64, h.wk, h.k1, h.t0, h.t1, Asc.put a _ h.asc, ?_, fun p hp => ?_⟩
  · have := putT_len a (hitT t t.now ((lookT a t.es).getD ⟨false, []⟩)) t.es
    show (putT a _ t.es).length ≤ 64
    have hl := h.len
    by_cases g : t.es.length = 64
    · cases hx : lookT a t.es with
      | none => exact absurd ⟨hx, by omega⟩ hf
      | some x => rw [putT_same_len (look_mem hx) h.asc]; exact hl
    · omega
  · rcases mem_putT hp with rfl | hp
    · have hh : OkE t (a, hitT t t.now ((lookT a t.es).getD ⟨false, []⟩)) := by
        refine OkE.hit h h0 h1 ?_
        cases hx : lookT a t.es with
        | none => exact .inl rfl
        | some x => exact .inr (h.ent _ (look_mem hx))
      exact ⟨hh.a0, hh.a1, hh.ne, hh.up, hh.c0, hh.fr, hh.lv, hh.pd⟩
    · exact ⟨(h.ent p hp).a0, (h.ent p hp).a1, (h.ent p hp).ne, (h.ent p hp).up, (h.ent p hp).c0, (h.ent p hp).fr, (h.ent p hp).lv, (h.ent p hp).pd⟩
theorem Ok.hear {t : Ts} (h : Ok t) (a s : Int) : Ok (hearT t a s) := by
  unfold hearT
  split
  · exact h
  · rename_i ga
    split
    · exact h
    · rename_i gt
      obtain ⟨g1, g2, g3⟩ := tickE_ok (Decidable.not_not.1 gt)
      have h' := h.adv g1 g3
      split
      · exact h'
      · rename_i gf
        exact Ok.heard (t := advT t s) h' (by omega) (by omega) gf
end Go.Proofs.YtkikokldijccnaaGreatDoor
