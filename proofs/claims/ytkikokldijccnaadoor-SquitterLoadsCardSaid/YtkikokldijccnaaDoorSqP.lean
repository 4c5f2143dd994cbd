/- squitter in plain Lean: the table as a list of addresses. -/
import Derived.Test.YtkikokldijccnaaDoorRows
import Derived.WalkKit
namespace Go.Proofs.YtkikokldijccnaaDoor
/-- an address: is it known; the cycles in which it was heard -/
structure Tk where
  kn : Bool
  cy : List Int
/-- a table; its addresses ascend -/
structure Ts where
  need : Int
  win : Int
  keep : Int
  now : Int
  es : List (Int × Tk)
def lastC (l : List Int) : Int := l.getLastD 0
def trimC (win now : Int) : List Int → List Int
  | [] => []
  | [c] => [c]
  | c :: d :: l => if win ≤ now - c then trimC win now (d :: l) else c :: d :: l
def deadT (t : Ts) (now : Int) (x : Tk) : Bool := decide (t.keep ≤ now - lastC x.cy) || (!x.kn && decide (t.win ≤ now - lastC x.cy))
def trimT (t : Ts) (now : Int) (x : Tk) : Tk := ⟨x.kn, trimC t.win now x.cy⟩
def advT (t : Ts) (now : Int) : Ts := ⟨t.need, t.win, t.keep, now, (t.es.filter fun p => !deadT t now p.2).map fun p => (p.1, trimT t now p.2)⟩
def tickE (t : Ts) (now : Int) : Int := if now < 0 ∨ 1073741824 < now then 1 else if now < t.now then 12 else 0
def tickT (t : Ts) (now : Int) : Ts := if tickE t now = 0 then advT t now else t
def lookT (a : Int) : List (Int × Tk) → Option Tk
  | [] => none
  | p :: l => if p.1 = a then some p.2 else lookT a l
def putT (a : Int) (x : Tk) : List (Int × Tk) → List (Int × Tk)
  | [] => [(a, x)]
  | p :: l => if a < p.1 then (a, x) :: p :: l else if a = p.1 then (a, x) :: l else p :: putT a x l
def addC (win s : Int) (cy : List Int) : List Int := if cy = [] then [s] else if lastC cy = s then cy else if win ≤ s - lastC cy then [s] else cy ++ [s]
def hitT (t : Ts) (s : Int) (x : Tk) : Tk := ⟨x.kn || decide (t.need ≤ (addC t.win s x.cy).length), addC t.win s x.cy⟩
/-- a hearing in a table that is at its time -/
def heardT (t : Ts) (a s : Int) : Ts := ⟨t.need, t.win, t.keep, t.now, putT a (hitT t s ((lookT a t.es).getD ⟨false, []⟩)) t.es⟩
def hearE (t : Ts) (a s : Int) : Int := if a < 0 ∨ 16777215 < a then 1 else if tickE t s ≠ 0 then tickE t s else if lookT a (advT t s).es = none ∧ 64 ≤ (advT t s).es.length then 17 else 0
def hearT (t : Ts) (a s : Int) : Ts := if a < 0 ∨ 16777215 < a then t else if tickE t s ≠ 0 then t else if lookT a (advT t s).es = none ∧ 64 ≤ (advT t s).es.length then advT t s else heardT (advT t s) a s
def addrsT (t : Ts) (k : Bool) : List Int := (t.es.filter fun p => p.2.kn == k).map Prod.fst
def newE (need win keep : Int) : Int := if need < 1 ∨ 8 < need ∨ win < need ∨ 64 < win ∨ keep < win ∨ 1024 < keep then 1 else 0
/-! ### first laws -/
theorem trimC_ne (win now : Int) : ∀ l : List Int, l ≠ [] → trimC win now l ≠ []
  | [], h => absurd rfl h
  | [c], _ => by simp [trimC]
  | c :: d :: l, _ => by
    unfold trimC
    split
    · exact trimC_ne win now (d :: l) (by simp)
    · simp
theorem trimC_last (win now : Int) : ∀ l : List Int, lastC (trimC win now l) = lastC l
  | [] => rfl
  | [c] => rfl
  | c :: d :: l => by
    unfold trimC
    split
    · rw [trimC_last win now (d :: l)]
      simp [lastC, List.getLastD]
    · rfl
theorem putT_len (a : Int) (x : Tk) : ∀ l : List (Int × Tk), (putT a x l).length ≤ l.length + 1
  | [] => by simp [putT]
  | p :: l => by
    unfold putT
    split
    · simp
    · split
      · simp
      · have := putT_len a x l
        simp; omega
/-- ascending addresses -/
def Asc : List (Int × Tk) → Prop
  | [] => True
  | p :: l => (∀ q ∈ l, p.1 < q.1) ∧ Asc l
theorem Asc.filter (f : Int × Tk → Bool) : ∀ {l : List (Int × Tk)}, Asc l → Asc (l.filter f)
  | [], h => h
  | p :: l, h => by
    obtain ⟨h1, h2⟩ := h
    rw [List.filter_cons]
    split
    · exact ⟨fun q hq => h1 q ((List.mem_filter.1 hq).1), Asc.filter f h2⟩
    · exact Asc.filter f h2
theorem Asc.map (f : Tk → Tk) : ∀ {l : List (Int × Tk)}, Asc l → Asc (l.map fun p => (p.1, f p.2))
  | [], h => h
  | p :: l, h => by
    obtain ⟨h1, h2⟩ := h
    refine ⟨fun q hq => ?_, Asc.map f h2⟩
    obtain ⟨r, hr, rfl⟩ := List.mem_map.1 hq
    exact h1 r hr
theorem mem_putT {a : Int} {x : Tk} : ∀ {l : List (Int × Tk)} {q : Int × Tk}, q ∈ putT a x l → q = (a, x) ∨ q ∈ l
  | [], q, h => by simp [putT] at h; exact .inl h
  | p :: l, q, h => by
    unfold putT at h
    split at h
    · rcases List.mem_cons.1 h with h | h
      · exact .inl h
      · exact .inr h
    · split at h
      · rcases List.mem_cons.1 h with h | h
        · exact .inl h
        · exact .inr (List.mem_cons_of_mem _ h)
      · rcases List.mem_cons.1 h with h | h
        · exact .inr (by rw [h]; exact List.mem_cons_self ..)
        · rcases mem_putT h with h | h
          · exact .inl h
          · exact .inr (List.mem_cons_of_mem _ h)
theorem Asc.put (a : Int) (x : Tk) : ∀ {l : List (Int × Tk)}, Asc l → Asc (putT a x l)
  | [], _ => ⟨fun q hq => (by cases hq), trivial⟩
  | p :: l, h => by
    obtain ⟨h1, h2⟩ := h
    unfold putT
    split
    · rename_i g
      refine ⟨fun q hq => ?_, h1, h2⟩
      rcases List.mem_cons.1 hq with rfl | hq
      · exact g
      · have := h1 q hq; show a < q.1; omega
    · split
      · rename_i g1 g2
        exact ⟨fun q hq => by have := h1 q hq; show a < q.1; omega, h2⟩
      · rename_i g1 g2
        refine ⟨fun q hq => ?_, Asc.put a x h2⟩
        rcases mem_putT hq with rfl | hq
        · show p.1 < a; omega
        · exact h1 q hq
theorem adv_asc {t : Ts} {now : Int} (h : Asc t.es) : Asc (advT t now).es := Asc.map (trimT t now) (h.filter _)
theorem hear_asc {t : Ts} {a s : Int} (h : Asc t.es) : Asc (hearT t a s).es := by
  unfold hearT
  split
  · exact h
  · split
    · exact h
    · split
      · exact adv_asc h
      · exact Asc.put a _ (adv_asc h)
theorem look_put_same (a : Int) (x : Tk) : ∀ l : List (Int × Tk), Asc l → lookT a (putT a x l) = some x
  | [], _ => by simp [putT, lookT]
  | p :: l, h => by
    unfold putT
    split
    · simp [lookT]
    · split
      · simp [lookT]
      · rename_i g1 g2
        unfold lookT
        rw [if_neg (by omega)]
        exact look_put_same a x l h.2
theorem look_put_other {a b : Int} (x : Tk) (hab : b ≠ a) : ∀ l : List (Int × Tk), lookT b (putT a x l) = lookT b l
  | [] => by simp [putT, lookT, Ne.symm hab]
  | p :: l => by
    unfold putT
    split
    · simp [lookT, Ne.symm hab]
    · split
      · rename_i g1 g2
        have : ¬ p.1 = b := by omega
        simp [lookT, Ne.symm hab, this]
      · unfold lookT
        rw [look_put_other x hab l]
theorem look_mem {a : Int} {x : Tk} : ∀ {l : List (Int × Tk)}, lookT a l = some x → (a, x) ∈ l
  | [], h => by cases h
  | p :: l, h => by
    unfold lookT at h
    split at h
    · rename_i g
      obtain rfl := Option.some.inj h
      rw [← g]; exact List.mem_cons_self ..
    · exact List.mem_cons_of_mem _ (look_mem h)
theorem look_of_mem {a : Int} {x : Tk} : ∀ {l : List (Int × Tk)}, Asc l → (a, x) ∈ l → lookT a l = some x
  | [], _, h => by cases h
  | p :: l, ha, h => by
    unfold lookT
    rcases List.mem_cons.1 h with rfl | h
    · rw [if_pos rfl]
    · have := ha.1 _ h
      rw [if_neg (by show ¬ p.1 = a; omega)]
      exact look_of_mem ha.2 h
end Go.Proofs.YtkikokldijccnaaDoor
