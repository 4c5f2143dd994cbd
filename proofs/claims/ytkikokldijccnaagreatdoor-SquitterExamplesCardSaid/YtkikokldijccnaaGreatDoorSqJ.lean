/- squitter in plain Lean: the text of a table; what Load takes. -/
import Derived.Test.YtkikokldijccnaaGreatDoorSqI
import Derived.Test.YtkikokldijccnaaGreatDoorEnT
namespace Go.Proofs.YtkikokldijccnaaGreatDoor
def lineJ (ns : List Int) : Tx := Lib.join (ns.map Lib.itoa) [32]
def lineX (ns : List Int) : Tx := lineJ ns ++ [10]
def bitI (b : Bool) : Int := if b then 1 else 0
def rowX (p : Int × Tk) : List Int := p.1 :: bitI p.2.kn :: p.2.cy
def saveT (t : Ts) : Tx := lineX [t.need, t.win, t.keep, t.now] ++ (t.es.map fun p => lineX (rowX p)).flatten
/-! ### a line's numbers -/
def okN (n : Int) : Prop := 0 ≤ n ∧ n ≤ 1073741824
def numM (w : Tx) : Option Int :=
  match Lib.atoiAll w with
  | .ok n => if 0 ≤ n ∧ n ≤ 1073741824 ∧ Lib.itoa n = w then some n else none
  | _ => none
def allO : List (Option Int) → Option (List Int)
  | [] => some []
  | none :: _ => none
  | some n :: l => (allO l).map (n :: ·)
def numsM (l : Tx) : Option (List Int) := allO ((splitC 32 l).map numM)
theorem numM_iff (w : Tx) (n : Int) : numM w = some n ↔ Lib.itoa n = w ∧ okN n := by
  unfold numM okN
  constructor
  · intro h
    split at h
    · split at h
      · rename_i hh
        obtain rfl := Option.some.inj h
        exact ⟨hh.2.2, hh.1, hh.2.1⟩
      · cases h
    · cases h
  · rintro ⟨rfl, h⟩
    rw [atoi_itoa n (by omega) (by omega)]
    simp only
    rw [if_pos ⟨h.1, h.2, trivial⟩]
theorem allO_iff : ∀ (l : List (Option Int)) (ns : List Int), allO l = some ns ↔ l = ns.map some
  | [], ns => by cases ns <;> simp [allO]
  | none :: l, ns => by cases ns <;> simp [allO]
  | some n :: l, ns => by
    simp only [allO, Option.map_eq_some_iff]
    cases ns with
    | nil => simp
    | cons m ns =>
      have := allO_iff l ns
      constructor
      · rintro ⟨a, h1, h2⟩
        injection h2 with h2 h3
        rw [(allO_iff l a).1 h1, h2, h3]; rfl
      · intro h
        rw [List.map_cons] at h
        injection h with h1 h2
        injection h1 with h1
        exact ⟨ns, (allO_iff l ns).2 h2, by rw [h1]⟩
theorem map_numM : ∀ (ws : List Tx) (ns : List Int), ws.map numM = ns.map some ↔ ws = ns.map Lib.itoa ∧ ∀ n ∈ ns, okN n
  | [], ns => by cases ns <;> simp
  | w :: ws, [] => by simp
  | w :: ws, n :: ns => by
    rw [List.map_cons, List.map_cons, List.map_cons, List.cons.injEq, List.cons.injEq, numM_iff, map_numM ws ns]
    simp only [List.forall_mem_cons]
    constructor
    · rintro ⟨⟨h1, h2⟩, h3, h4⟩
      exact ⟨⟨h1.symm, h3⟩, h2, h4⟩
    · rintro ⟨⟨h1, h3⟩, h2, h4⟩
      exact ⟨⟨h1.symm, h2⟩, h3, h4⟩
theorem numsM_iff (l : Tx) (ns : List Int) : numsM l = some ns ↔ l = lineJ ns ∧ ns ≠ [] ∧ ∀ n ∈ ns, okN n := by
  unfold numsM
  rw [allO_iff, map_numM]
  constructor
  · rintro ⟨h1, h2⟩
    refine ⟨?_, ?_, h2⟩
    · rw [← splitC_join 32 l, h1]; rfl
    · rintro rfl
      exact splitC_ne 32 l h1
  · rintro ⟨rfl, h1, h2⟩
    refine ⟨?_, h2⟩
    unfold lineJ
    refine splitC_of_join (by simpa using h1) fun x hx => ?_
    obtain ⟨n, _, rfl⟩ := List.mem_map.1 hx
    exact itoa_no (by decide) (.inl (by decide))
/-! ### Load -/
def ChkT (t : Ts) (x : Tk) : Prop := (∀ c ∈ x.cy, c ≤ t.now) ∧ x.cy.Pairwise (· < ·) ∧ (x.kn = true ∨ (x.cy.length : Int) < t.need) ∧ (t.win ≤ t.now - x.cy.headD 0 → x.kn = true ∧ x.cy.length = 1 ∧ t.now - x.cy.headD 0 < t.keep)
instance (t : Ts) (x : Tk) : Decidable (ChkT t x) := by unfold ChkT; infer_instance
def addT (t : Ts) (p : Int × Tk) : Ts := ⟨t.need, t.win, t.keep, t.now, t.es ++ [p]⟩
def loadR (t : Ts) (last : Int) : List Tx → Option Ts
  | [] => some t
  | line :: rest =>
    match numsM line with
    | some (a :: k :: c :: cy) => if last < a ∧ a ≤ 16777215 ∧ k ≤ 1 ∧ ChkT t ⟨decide (k = 1), c :: cy⟩ then loadR (addT t (a, ⟨decide (k = 1), c :: cy⟩)) a rest else none
    | _ => none
def loadT (s : Tx) : Option Ts :=
  if 2 ≤ (splitC 10 s).length ∧ (splitC 10 s).length ≤ 66 ∧ (splitC 10 s).getLast (splitC_ne 10 s) = [] then
    match numsM ((splitC 10 s).headD []) with
    | some [need, win, keep, now] => if newE need win keep = 0 then loadR ⟨need, win, keep, now, []⟩ (-1) (splitC 10 s).tail.dropLast else none
    | _ => none
  else none
structure RowOk (t : Ts) (p : Int × Tk) : Prop where
  a0 : 0 ≤ p.1
  a1 : p.1 ≤ 16777215
  ne : p.2.cy ≠ []
  c0 : ∀ c ∈ p.2.cy, 0 ≤ c
  ck : ChkT t p.2
theorem RowOk.okN {t : Ts} {p : Int × Tk} (h : RowOk t p) (ht : t.now ≤ 1073741824) : ∀ n ∈ rowX p, okN n := by
  intro n hn
  have a0 := h.a0
  have a1 := h.a1
  unfold rowX at hn
  rcases List.mem_cons.1 hn with rfl | hn
  · exact ⟨a0, by omega⟩
  rcases List.mem_cons.1 hn with rfl | hn
  · unfold bitI; split
    · exact ⟨by decide, by decide⟩
    · exact ⟨by decide, by decide⟩
  · exact ⟨h.c0 n hn, Int.le_trans (h.ck.1 n hn) ht⟩
theorem bitI_le (b : Bool) : bitI b ≤ 1 ∧ decide (bitI b = 1) = b := by cases b <;> simp [bitI]
def Over (last : Int) (es : List (Int × Tk)) : Prop := Asc es ∧ ∀ p ∈ es, last < p.1
theorem loadR_iff : ∀ (ls : List Tx) (t : Ts) (last : Int) (t' : Ts), t.now ≤ 1073741824 → (loadR t last ls = some t' ↔ ∃ es, t' = ⟨t.need, t.win, t.keep, t.now, t.es ++ es⟩ ∧ ls = es.map (fun p => lineJ (rowX p)) ∧ Over last es ∧ ∀ p ∈ es, RowOk t p)
  | [], t, last, t', _ => by
    constructor
    · intro h
      obtain rfl := Option.some.inj h
      exact ⟨[], by simp, rfl, ⟨trivial, fun p hp => by cases hp⟩, fun p hp => by cases hp⟩
    · rintro ⟨es, rfl, h, _, _⟩
      cases es with
      | nil => simp [loadR]
      | cons p es => cases h
  | line :: ls, t, last, t', ht => by
    constructor
    · intro h
      unfold loadR at h
      split at h
      · rename_i a k c cy hn
        split at h
        · rename_i g
          obtain ⟨hl, _, hN⟩ := (numsM_iff _ _).1 hn
          have hk := hN k (by simp)
          have ha := hN a (by simp)
          unfold Go.Proofs.YtkikokldijccnaaGreatDoor.okN at hk ha
          obtain ⟨es, e1, e2, e3, e4⟩ := (loadR_iff ls (addT t (a, ⟨decide (k = 1), c :: cy⟩)) a t' ht).1 h
          have hb : bitI (decide (k = 1)) = k := by
            have : k = 0 ∨ k = 1 := by omega
            rcases this with rfl | rfl <;> simp [bitI]
          refine ⟨(a, ⟨decide (k = 1), c :: cy⟩) :: es, ?_, ?_, ⟨⟨e3.2, e3.1⟩, ?_⟩, ?_⟩
          · rw [e1]; simp [addT]
          · rw [List.map_cons, ← e2]
            congr 1
            unfold rowX
            rw [hb]; exact hl
          · intro p hp
            rcases List.mem_cons.1 hp with rfl | hp
            · exact g.1
            · have := e3.2 p hp; omega
          · intro p hp
            rcases List.mem_cons.1 hp with rfl | hp
            · exact ⟨ha.1, g.2.1, by simp, fun d hd => (hN d (List.mem_cons_of_mem _ (List.mem_cons_of_mem _ hd))).1, g.2.2.2⟩
            · have := e4 p hp
              exact ⟨this.a0, this.a1, this.ne, this.c0, this.ck⟩
        · cases h
      · cases h
    · rintro ⟨es, rfl, h, ⟨h1, h2⟩, h3⟩
      cases es with
      | nil => cases h
      | cons p es =>
        rw [List.map_cons] at h
        injection h with h4 h5
        have hp := h3 p (List.mem_cons_self ..)
        obtain ⟨a, kn, cy⟩ := p
        cases cy with
        | nil => exact absurd rfl hp.ne
        | cons c cy =>
          have hn : numsM line = some (a :: bitI kn :: c :: cy) := (numsM_iff _ _).2 ⟨h4, by simp, hp.okN ht⟩
          unfold loadR
          rw [hn]
          simp only
          rw [(bitI_le kn).2, if_pos ⟨h2 _ (List.mem_cons_self ..), hp.a1, (bitI_le kn).1, hp.ck⟩]
          refine (loadR_iff ls (addT t (a, ⟨kn, c :: cy⟩)) a _ ht).2 ⟨es, by simp [addT], h5, ⟨h1.2, h1.1⟩, fun q hq => ?_⟩
          have := h3 q (List.mem_cons_of_mem _ hq)
          exact ⟨this.a0, this.a1, this.ne, this.c0, this.ck⟩
theorem row_ok {t : Ts} (hwk : t.win ≤ t.keep) {p : Int × Tk} : RowOk t p ↔ OkE t p := by
  constructor
  · intro h
    obtain ⟨c1, c2, c3, c4⟩ := h.ck
    have hne := h.ne
    have hup := h.ck.2.1
    have key : (p.2.cy.length = 1 ∨ ∀ c ∈ p.2.cy, t.now - c < t.win) ∧ deadT t t.now p.2 = false := by
      by_cases g : t.win ≤ t.now - p.2.cy.headD 0
      · obtain ⟨k1, k2, k3⟩ := c4 g
        refine ⟨.inl k2, ?_⟩
        obtain ⟨d, hd⟩ := List.length_eq_one_iff.1 k2
        rw [hd] at k3
        unfold deadT
        rw [hd, k1]
        have : ¬ t.keep ≤ t.now - d := by have : t.now - d < t.keep := k3; omega
        simp [lastC, this]
      · have hall : ∀ c ∈ p.2.cy, t.now - c < t.win := by
          intro c hc
          cases hcy : p.2.cy with
          | nil => exact absurd hcy hne
          | cons d l =>
            rw [hcy] at g hc hup
            have g' : ¬ t.win ≤ t.now - d := g
            rcases List.mem_cons.1 hc with rfl | hc
            · omega
            · have := (List.pairwise_cons.1 hup).1 c hc; omega
        refine ⟨.inr hall, ?_⟩
        have := hall _ (lastC_mem hne)
        unfold deadT
        have k1 : decide (t.keep ≤ t.now - lastC p.2.cy) = false := decide_eq_false (by omega)
        have k2 : decide (t.win ≤ t.now - lastC p.2.cy) = false := decide_eq_false (by omega)
        rw [k1, k2]; simp
    exact ⟨h.a0, h.a1, h.ne, c2, fun c hc => ⟨h.c0 c hc, c1 c hc⟩, key.1, key.2, c3⟩
  · intro h
    refine ⟨h.a0, h.a1, h.ne, fun c hc => (h.c0 c hc).1, fun c hc => (h.c0 c hc).2, h.up, h.pd, fun g => ?_⟩
    have hl := h.lv
    have h1 : p.2.cy.length = 1 := by
      rcases h.fr with k | k
      · exact k
      · cases hcy : p.2.cy with
        | nil => exact absurd hcy h.ne
        | cons d l =>
          rw [hcy] at g k
          have g' : t.win ≤ t.now - d := g
          have := k d (List.mem_cons_self ..)
          omega
    obtain ⟨d, hd⟩ := List.length_eq_one_iff.1 h1
    rw [hd] at g
    have g' : t.win ≤ t.now - d := g
    unfold deadT at hl
    rw [hd] at hl
    simp only [lastC, List.getLastD_cons, List.getLastD_nil, Bool.or_eq_false_iff, decide_eq_false_iff_not, Bool.and_eq_false_iff, Bool.not_eq_false'] at hl
    refine ⟨?_, h1, ?_⟩
    · rcases hl.2 with k | k
      · exact k
      · exact absurd g' k
    · rw [hd]
      show t.now - d < t.keep
      omega
theorem newE_ok {need win keep : Int} (h : newE need win keep = 0) : 1 ≤ need ∧ need ≤ 8 ∧ need ≤ win ∧ win ≤ 64 ∧ win ≤ keep ∧ keep ≤ 1024 := by
  unfold newE at h
  split at h
  · exact absurd h (by decide)
  · omega
theorem Ok.newE {t : Ts} (h : Ok t) : newE t.need t.win t.keep = 0 := by
  have := h.n1; have := h.n8; have := h.nw; have := h.w64; have := h.wk; have := h.k1
  unfold Go.Proofs.YtkikokldijccnaaGreatDoor.newE
  rw [if_neg (by omega)]
theorem join_two (x y : Tx) (r : List Tx) : Lib.join (x :: y :: r) [32] = x ++ [32] ++ Lib.join (y :: r) [32] := by
  rw [Lib.join_cons, Lib.join_cons]
  simp [Lib.joinTail]
theorem lineJ_no (ns : List Int) : (10 : UInt8) ∉ lineJ ns := by
  unfold lineJ
  induction ns with
  | nil => simp [Lib.join]
  | cons n ns ih =>
    have h1 : (10 : UInt8) ∉ Lib.itoa n := itoa_no (by decide) (.inl (by decide))
    cases ns with
    | nil => simpa [Lib.join] using h1
    | cons m ns =>
      intro h
      rw [List.map_cons, List.map_cons, join_two] at h
      rcases List.mem_append.1 h with h | h
      · rcases List.mem_append.1 h with h | h
        · exact h1 h
        · simp at h
      · exact ih h
theorem split_lines (ls : List (List Int)) : splitC 10 ((ls.map lineX).flatten) = ls.map lineJ ++ [[]] := by
  have := splitC_lines (c := 10) (ls := ls.map lineJ) fun x hx => by
    obtain ⟨n, _, rfl⟩ := List.mem_map.1 hx
    exact lineJ_no n
  rw [List.map_map] at this
  exact this
def saveL (t : Ts) : List (List Int) := [t.need, t.win, t.keep, t.now] :: t.es.map rowX
theorem saveT_eq (t : Ts) : saveT t = ((saveL t).map lineX).flatten := by simp [saveT, saveL, Function.comp_def]
theorem load_of {s : Tx} {ls : List Tx} (h : splitC 10 s = ls ++ [[]]) : loadT s = if 1 ≤ ls.length ∧ ls.length ≤ 65 then (match numsM (ls.headD []) with | some [need, win, keep, now] => if newE need win keep = 0 then loadR ⟨need, win, keep, now, []⟩ (-1) ls.tail else none | _ => none) else none := by
  have e1 : (splitC 10 s).getLast (splitC_ne 10 s) = [] := by simp [h]
  unfold loadT
  by_cases g : 1 ≤ ls.length ∧ ls.length ≤ 65
  · rw [if_pos g, if_pos ⟨by rw [h]; simp; omega, by rw [h]; simp; omega, e1⟩]
    cases ls with
    | nil => simp at g
    | cons l ls =>
      rw [h]
      simp only [List.cons_append, List.headD_cons, List.tail_cons, List.dropLast_concat]
  · rw [if_neg g, if_neg]
    have hl : (splitC 10 s).length = ls.length + 1 := by rw [h]; simp
    rintro ⟨g1, g2, _⟩
    omega
/-- what was saved is loaded -/
theorem load_save {t : Ts} (h : Ok t) : loadT (saveT t) = some t := by
  have h0 := h.t0
  have h1 := h.t1
  have := h.n1; have := h.n8; have := h.nw; have := h.w64; have := h.wk; have := h.k1
  rw [saveT_eq, load_of (split_lines _)]
  have hn : numsM (lineJ [t.need, t.win, t.keep, t.now]) = some [t.need, t.win, t.keep, t.now] := (numsM_iff _ _).2 ⟨rfl, by simp, fun n hn => by
    simp only [List.mem_cons, List.not_mem_nil, or_false] at hn
    unfold okN
    omega⟩
  rw [if_pos (by have := h.len; simp [saveL]; omega)]
  show (match numsM (lineJ [t.need, t.win, t.keep, t.now]) with | some [need, win, keep, now] => if newE need win keep = 0 then loadR ⟨need, win, keep, now, []⟩ (-1) ((t.es.map rowX).map lineJ) else none | _ => none) = _
  rw [hn]
  simp only
  rw [if_pos h.newE]
  refine (loadR_iff _ ⟨t.need, t.win, t.keep, t.now, []⟩ (-1) t h1).2 ⟨t.es, by simp, by simp [Function.comp_def], ⟨h.asc, fun p hp => ?_⟩, fun p hp => ?_⟩
  · have := (h.ent p hp).a0; omega
  · have := (row_ok h.wk).2 (h.ent p hp)
    exact ⟨this.a0, this.a1, this.ne, this.c0, this.ck⟩
/-- what is loaded is a table, and the text is its own -/
theorem load_ok {s : Tx} {t : Ts} (h : loadT s = some t) : Ok t ∧ saveT t = s := by
  have hs := h
  unfold loadT at hs
  split at hs
  · rename_i g
    have hsp : splitC 10 s = (splitC 10 s).dropLast ++ [[]] := by
      conv => lhs; rw [← List.dropLast_concat_getLast (splitC_ne 10 s)]
      rw [g.2.2]
    have hcat := splitC_concat 10 s g.2.2
    rw [load_of hsp] at h
    generalize (splitC 10 s).dropLast = ls at h hcat
    split at h
    · rename_i g2
      split at h
      · rename_i need win keep now hn
        split at h
        · rename_i g3
          have hnn := newE_ok g3
          obtain ⟨hl, _, hN⟩ := (numsM_iff _ _).1 hn
          have hnow := hN now (by simp)
          unfold okN at hnow
          obtain ⟨es, rfl, e2, e3, e4⟩ := (loadR_iff _ _ _ _ (by exact hnow.2)).1 h
          cases ls with
          | nil => simp at g2
          | cons l ls =>
            have hl' : l = lineJ [need, win, keep, now] := hl
            have e2' : ls = es.map fun p => lineJ (rowX p) := e2
            refine ⟨⟨hnn.1, hnn.2.1, hnn.2.2.1, hnn.2.2.2.1, hnn.2.2.2.2.1, hnn.2.2.2.2.2, hnow.1, hnow.2, ?_, ?_, fun p hp => ?_⟩, ?_⟩
            · simpa using e3.1
            · have : ls.length = es.length := by rw [e2']; simp
              simp at g2 ⊢; omega
            · have hp' : p ∈ es := by simpa using hp
              refine (row_ok (t := ⟨need, win, keep, now, [] ++ es⟩) hnn.2.2.2.2.1).1 ?_
              have := e4 p hp'
              exact ⟨this.a0, this.a1, this.ne, this.c0, this.ck⟩
            · rw [← hcat, hl', e2']
              simp [saveT, lineX, List.map_map, Function.comp_def]
        · cases h
      · cases h
    · cases h
  · cases hs
theorem itoa_len10 {n : Int} (h : okN n) : (Lib.itoa n).length ≤ 10 := by
  unfold okN at h
  unfold Lib.itoa
  rw [if_neg (by omega), Lib.decDigits_length]
  exact nD_le 10 _ (by omega) (by omega)
theorem lineX_len : ∀ (ns : List Int), ns ≠ [] → (∀ n ∈ ns, okN n) → (lineX ns).length ≤ 11 * ns.length
  | [], h, _ => absurd rfl h
  | [n], _, h => by
    have := itoa_len10 (h n (List.mem_cons_self ..))
    simp [lineX, lineJ, Lib.join]; omega
  | n :: m :: ns, _, h => by
    have h1 := itoa_len10 (h n (List.mem_cons_self ..))
    have h2 := lineX_len (m :: ns) (by simp) fun k hk => h k (List.mem_cons_of_mem _ hk)
    have e : lineX (n :: m :: ns) = Lib.itoa n ++ [32] ++ lineX (m :: ns) := by unfold lineX lineJ; rw [List.map_cons, List.map_cons, join_two]; simp
    rw [e, List.length_append, List.length_append, List.length_cons]
    simp only [List.length_cons, List.length_nil] at h2 ⊢
    omega
theorem save_len {t : Ts} (h : Ok t) : (saveT t).length ≤ 60000 := by
  have h0 := h.t0
  have h1 := h.t1
  have := h.n1; have := h.n8; have := h.nw; have := h.w64; have := h.wk; have := h.k1
  have ha : (lineX [t.need, t.win, t.keep, t.now]).length ≤ 44 := lineX_len _ (by simp) fun n hn => by
    simp only [List.mem_cons, List.not_mem_nil, or_false] at hn
    unfold okN
    omega
  have hb : ∀ l : List (Int × Tk), (∀ p ∈ l, OkE t p) → ((l.map fun p => lineX (rowX p)).flatten).length ≤ 726 * l.length := by
    intro l
    induction l with
    | nil => intro _; simp
    | cons p l ih =>
      intro hl
      have := ih fun q hq => hl q (List.mem_cons_of_mem _ hq)
      have hp := hl p (List.mem_cons_self ..)
      have e1 := lineX_len (rowX p) (by simp [rowX]) (((row_ok h.wk).2 hp).okN h1)
      have e2 := hp.len (by omega)
      have e3 : (rowX p).length = p.2.cy.length + 2 := by simp [rowX]
      rw [List.map_cons, List.flatten_cons, List.length_append, List.length_cons]
      omega
  have := hb t.es h.ent
  have := h.len
  unfold saveT
  rw [List.length_append]
  omega
end Go.Proofs.YtkikokldijccnaaGreatDoor
