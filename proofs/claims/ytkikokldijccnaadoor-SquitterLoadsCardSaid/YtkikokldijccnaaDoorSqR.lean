/- squitter: the map's datum. -/
import Derived.Test.YtkikokldijccnaaDoorSqQ
import Derived.Maps.RangeWalk
import Derived.Maps.OwnSet
namespace Go.Proofs.YtkikokldijccnaaDoor
open Go.Maps (Keyed)
/-- what an element of the map reads as: its block -/
def Rp : Value → Option (DataW Unit × List MemPlace)
  | .pointer (some ⟨b, 0, none⟩) => some (.lit (.int .i64 b), [])
  | _ => none
theorem Rp_mk (b : Nat) : Rp (.pointer (some ⟨b, 0, none⟩)) = some (.lit (.int .i64 b), []) := rfl
theorem Rp_inv {v : Value} {y : DataW Unit × List MemPlace} (h : Rp v = some y) : ∃ b : Nat, v = .pointer (some ⟨b, 0, none⟩) ∧ y = (.lit (.int .i64 b), []) := by
  unfold Rp at h
  split at h
  · cases h; exact ⟨_, rfl, rfl⟩
  · cases h
def enc1 (bk : Int → Nat) (p : Int × Tk) : Lit × DataW Unit := (.int .i64 p.1, .lit (.int .i64 (bk p.1)))
def encE (bk : Int → Nat) (es : List (Int × Tk)) : List (Lit × DataW Unit) := es.map (enc1 bk)
theorem enc1_key (bk : Int → Nat) (p : Int × Tk) (x : Int) : (enc1 bk p).1.sameKey (.int .i64 x) = decide (p.1 = x) := by simp [enc1, Lit.sameKey]
theorem enc_has (bk : Int → Nat) (x : Int) : ∀ es : List (Int × Tk), Maps.has (.map (encE bk es)) (.int .i64 x) = es.any fun p => decide (p.1 = x)
  | [] => rfl
  | p :: es => by
    have := enc_has bk x es
    rw [Maps.has_eq] at this ⊢
    simp only [encE, List.map_cons, List.any_cons, enc1_key] at this ⊢
    rw [this]
theorem enc_size (bk : Int → Nat) (es : List (Int × Tk)) : Maps.size (.map (encE bk es)) = es.length := by simp [Maps.size, encE]
theorem enc_at {bk : Int → Nat} {x : Int} : ∀ {es : List (Int × Tk)} {z : DataW Unit}, (∃ p ∈ es, p.1 = x) → (DataW.map (encE bk es)).atKey (.int .i64 x) z = .lit (.int .i64 (bk x))
  | [], _, h => by obtain ⟨p, hp, _⟩ := h; cases hp
  | q :: es, z, h => by
    by_cases g : q.1 = x
    · simp [DataW.atKey, encE, g, enc1, Lit.sameKey]
    · have ih := enc_at (bk := bk) (x := x) (es := es) (z := z) (by
        obtain ⟨p, hp, e⟩ := h
        rcases List.mem_cons.1 hp with rfl | hp
        · exact absurd e g
        · exact ⟨p, hp, e⟩)
      simp only [DataW.atKey, encE, List.map_cons, List.find?_cons, enc1_key, g] at ih ⊢
      exact ih
theorem enc_no {bk : Int → Nat} {x : Int} {es : List (Int × Tk)} (z : DataW Unit) (h : ∀ p ∈ es, p.1 ≠ x) : (DataW.map (encE bk es)).atKey (.int .i64 x) z = z := by
  refine Maps.atKey_of_not_has ?_ z
  rw [enc_has]
  simpa using h
theorem enc_found {bk : Int → Nat} {x : Int} {es : List (Int × Tk)} {y : DataW Unit} (h : ∀ z, (DataW.map (encE bk es)).atKey (.int .i64 x) z = y) : ∃ p ∈ es, p.1 = x := by
  have := Maps.has_true_of_atKey h
  rw [enc_has] at this
  obtain ⟨p, hp, e⟩ := List.any_eq_true.1 this
  exact ⟨p, hp, by simpa using e⟩
theorem enc_cong {bk bk' : Int → Nat} {es : List (Int × Tk)} (h : ∀ p ∈ es, bk p.1 = bk' p.1) : encE bk es = encE bk' es := List.map_congr_left fun p hp => by simp [enc1, h p hp]
theorem enc_del (bk : Int → Nat) (x : Int) (es : List (Int × Tk)) : (DataW.map (encE bk es)).del (.int .i64 x) = .map (encE bk (es.filter fun p => !decide (p.1 = x))) := by
  rw [DataW.del_eq]
  congr 1
  unfold ChangeMaps.delKey encE
  rw [List.filter_map]
  congr 1
  apply List.filter_congr
  intro p _
  simp [ChangeMaps.notKey, enc1_key]
theorem enc_ins (bk : Int → Nat) (a : Int) (x : Tk) : ∀ es : List (Int × Tk), (∀ p ∈ es, p.1 ≠ a) → DataW.insert (enc1 bk (a, x)) (encE bk es) = encE bk (putT a x es)
  | [], _ => rfl
  | p :: es, h => by
    have hp := h p (List.mem_cons_self ..)
    have ih := enc_ins bk a x es fun q hq => h q (List.mem_cons_of_mem _ hq)
    unfold putT
    simp only [encE, List.map_cons] at ih ⊢
    unfold DataW.insert
    have e : (enc1 bk (a, x)).1.before (enc1 bk p).1 = decide (a < p.1) := rfl
    rw [e]
    by_cases g : a < p.1
    · simp [g]
    · have g2 : ¬ a = p.1 := fun h => hp h.symm
      simp [g, g2, ih]
theorem enc_put_new {bk : Int → Nat} {a : Int} {b : Nat} {x : Tk} {es : List (Int × Tk)} (h : ∀ p ∈ es, p.1 ≠ a) (hb : bk a = b) : (DataW.map (encE bk es)).put (.int .i64 a) (.lit (.int .i64 b)) = .map (encE bk (putT a x es)) := by
  rw [DataW.put_eq]
  congr 1
  unfold ChangeMaps.putKey
  have e : (encE bk es).filter (ChangeMaps.notKey (.int .i64 a)) = encE bk es := by
    rw [List.filter_eq_self]
    intro q hq
    obtain ⟨p, hp, rfl⟩ := List.mem_map.1 hq
    simp [ChangeMaps.notKey, enc1_key, h p hp]
  rw [e, ← enc_ins bk a x es h, enc1, hb]
theorem enc_keys {bk : Int → Nat} {es es' : List (Int × Tk)} (h : es.map Prod.fst = es'.map Prod.fst) : encE bk es = encE bk es' := by
  have : ∀ l : List (Int × Tk), encE bk l = (l.map Prod.fst).map fun a => ((.int .i64 a, .lit (.int .i64 (bk a))) : Lit × DataW Unit) := fun l => by simp [encE, enc1]
  rw [this, this, h]
/-! ### the loop of advance under way -/
def midE (t : Ts) (now : Int) (left : Lit → Bool) : List (Int × Tk) := (t.es.filter fun p => left (.int .i64 p.1) || !deadT t now p.2).map fun p => (p.1, if left (.int .i64 p.1) then p.2 else trimT t now p.2)
def midT (t : Ts) (now : Int) (left : Lit → Bool) : Ts := ⟨t.need, t.win, t.keep, now, midE t now left⟩
theorem mid_keys (t : Ts) (now : Int) (left : Lit → Bool) : (midE t now left).map Prod.fst = (t.es.filter fun p => left (.int .i64 p.1) || !deadT t now p.2).map Prod.fst := by simp [midE, Function.comp_def]
theorem mid_mem {t : Ts} {now : Int} {left : Lit → Bool} {p : Int × Tk} : p ∈ midE t now left ↔ ∃ q ∈ t.es, (left (.int .i64 q.1) = true ∨ deadT t now q.2 = false) ∧ p = (q.1, if left (.int .i64 q.1) then q.2 else trimT t now q.2) := by
  unfold midE
  constructor
  · intro h
    obtain ⟨q, hq, rfl⟩ := List.mem_map.1 h
    obtain ⟨h1, h2⟩ := List.mem_filter.1 hq
    exact ⟨q, h1, by simpa using h2, rfl⟩
  · rintro ⟨q, hq, h1, rfl⟩
    exact List.mem_map.2 ⟨q, List.mem_filter.2 ⟨hq, by simpa using h1⟩, rfl⟩
theorem mid_start {t : Ts} {now : Int} (bk : Int → Nat) : midE t now (Maps.has (.map (encE bk t.es))) = t.es := by
  have hl : ∀ p ∈ t.es, Maps.has (.map (encE bk t.es)) (.int .i64 p.1) = true := fun p hp => by
    rw [enc_has]; exact List.any_eq_true.2 ⟨p, hp, by simp⟩
  unfold midE
  rw [List.filter_eq_self.2 fun p hp => by simp [hl p hp]]
  have : ∀ l : List (Int × Tk), (∀ p ∈ l, p ∈ t.es) → l.map (fun p => (p.1, if Maps.has (.map (encE bk t.es)) (.int .i64 p.1) then p.2 else trimT t now p.2)) = l := by
    intro l
    induction l with
    | nil => intro _; rfl
    | cons p l ih =>
      intro h
      rw [List.map_cons, ih fun q hq => h q (List.mem_cons_of_mem _ hq), hl p (h p (List.mem_cons_self ..))]
      rfl
  exact this t.es fun _ h => h
theorem mid_end {t : Ts} {now : Int} {left : Lit → Bool} (h : ∀ k, left k = false) : midT t now left = advT t now := by
  unfold midT midE advT
  simp only [h]
  rfl
theorem strike_eq {left : Lit → Bool} {x a : Int} : (fun z : Lit => left z && !z.sameKey (.int .i64 x)) (.int .i64 a) = (left (.int .i64 a) && !decide (a = x)) := by simp [Lit.sameKey]
theorem Asc.one {l : List (Int × Tk)} (h : Asc l) {p q : Int × Tk} (hp : p ∈ l) (hq : q ∈ l) (e : p.1 = q.1) : p = q := by
  obtain ⟨a, x⟩ := p
  obtain ⟨b, y⟩ := q
  obtain rfl : a = b := e
  have h1 := look_of_mem h hp
  have h2 := look_of_mem h hq
  rw [h1] at h2
  rw [Option.some.inj h2]
theorem mid_dead {t : Ts} (h : Asc t.es) {now : Int} {left : Lit → Bool} {x : Int} {e : Tk} (he : (x, e) ∈ t.es) (hd : deadT t now e = true) (bk : Int → Nat) : (DataW.map (encE bk (midE t now left))).del (.int .i64 x) = .map (encE bk (midE t now fun z => left z && !z.sameKey (.int .i64 x))) := by
  rw [enc_del]
  congr 1
  apply enc_keys
  have e1 : (List.filter (fun p => !decide (p.1 = x)) (midE t now left)).map Prod.fst = ((midE t now left).map Prod.fst).filter fun a => !decide (a = x) := by rw [List.filter_map]; rfl
  rw [e1, mid_keys, mid_keys, List.filter_map, List.filter_filter]
  congr 1
  apply List.filter_congr
  intro q hq
  simp only [Function.comp_apply, strike_eq]
  by_cases g : q.1 = x
  · obtain rfl := h.one hq he g
    simp [hd]
  · simp [g]
theorem mid_live {t : Ts} (h : Asc t.es) {now : Int} {left : Lit → Bool} {x : Int} {e : Tk} (he : (x, e) ∈ t.es) (hd : deadT t now e = false) (bk : Int → Nat) : encE bk (midE t now left) = encE bk (midE t now fun z => left z && !z.sameKey (.int .i64 x)) := by
  apply enc_keys
  rw [mid_keys, mid_keys]
  congr 1
  apply List.filter_congr
  intro q hq
  simp only [strike_eq]
  by_cases g : q.1 = x
  · obtain rfl := h.one hq he g
    simp [hd]
  · simp [g]
/-- behind a round: an entry is as it was, or it is the round's, trimmed -/
theorem mid_next {t : Ts} (h : Asc t.es) {now : Int} {left : Lit → Bool} {x : Int} {e : Tk} (he : (x, e) ∈ t.es) {p : Int × Tk} (hp : p ∈ midE t now fun z => left z && !z.sameKey (.int .i64 x)) : (p.1 ≠ x ∧ p ∈ midE t now left) ∨ (p = (x, trimT t now e) ∧ deadT t now e = false) := by
  obtain ⟨q, hq, h1, rfl⟩ := mid_mem.1 hp
  simp only [strike_eq] at h1 ⊢
  by_cases g : q.1 = x
  · obtain rfl := h.one hq he g
    simp at h1
    exact .inr ⟨by simp, h1⟩
  · simp only [g, decide_false, Bool.not_false, Bool.and_true] at h1 ⊢
    exact .inl ⟨g, mid_mem.2 ⟨q, hq, h1, rfl⟩⟩
theorem mid_has {t : Ts} {now : Int} {left : Lit → Bool} {x : Int} {e : Tk} (he : (x, e) ∈ t.es) (hl : left (.int .i64 x) = true) : (x, e) ∈ midE t now left := mid_mem.2 ⟨(x, e), he, .inl hl, by simp [hl]⟩
end Go.Proofs.YtkikokldijccnaaDoor
