/- Plain laws of encounters: their checks and their texts. -/
import Derived.Test.YtnnnpliigdfipaaGreatDoorEnT
import Derived.Test.YtnnnpliigdfipaaGreatDoorEnV
import Derived.Test.YtnnnpliigdfipaaGreatDoorEnA
namespace Go.Proofs.YtnnnpliigdfipaaGreatDoor
open Go
def w_encounter : Tx := [101, 110, 99, 111, 117, 110, 116, 101, 114]
def w_craft : Tx := [99, 114, 97, 102, 116]
def w_at : Tx := [97, 116]
def w_moving : Tx := [109, 111, 118, 105, 110, 103]
def w_pull : Tx := [112, 117, 108, 108]
def w_mode : Tx := [109, 111, 100, 101]
def w_pilot : Tx := [112, 105, 108, 111, 116]
def w_leg : Tx := [108, 101, 103]
def w_none : Tx := [110, 111, 110, 101]
def w_tables : Tx := [116, 97, 98, 108, 101, 115]
def w_rules : Tx := [114, 117, 108, 101, 115]
theorem of_nf {b : Bool} (h : ¬ b = false) : b = true := by cases b <;> simp_all
/-- an aircraft -/
structure Cr where
  ad : Int
  p : V3
  v : V3
  pu : Int
  lg : List (Int × Int)
  mo : Int
  de : Int
  pp : Int
  mi : Int
/-- an encounter -/
structure En where
  cy : Int
  gr : Int
  cs : List Cr
def En.zero : En := ⟨0, 0, []⟩
/-! ### checks -/
def legE (cy least : Int) : List (Int × Int) → Int
  | [] => 0
  | x :: l => if inB x.1 least (cy - 1) = false then 2 else if inB x.2 (-100) 100 = false then 1 else legE cy (x.1 + 1) l
def pilE (de pp mi : Int) : Int := if inB de 0 16 = true ∧ inB pp 1 32 = true ∧ inB mi 0 100 = true then 0 else 1
def Cr.at (c : Cr) (k z : Int) : V3 := ⟨c.p.x + k * c.v.x, c.p.y + k * c.v.y, z⟩
def crE (c : Cr) (cy : Int) : Int :=
  if ckP c.p ≠ 0 then ckP c.p else if ckV c.v ≠ 0 then ckV c.v else if ckP (c.at cy c.p.z) ≠ 0 then 7 else if inB c.pu 1 32 = false then 1 else if 2 < c.mo then 6 else
  if pilE c.de c.pp c.mi ≠ 0 then pilE c.de c.pp c.mi else if 16 < c.lg.length then 4 else legE cy 0 c.lg
def allE (cy : Int) (prev : List Int) : List Cr → Int
  | [] => 0
  | c :: l => if inB c.ad 0 16777215 = false then 1 else if c.ad ∈ prev then 16 else if crE c cy ≠ 0 then crE c cy else allE cy (prev ++ [c.ad]) l
def chE (x : En) : Int := if inB x.cy 1 120 = false ∨ inB x.gr 0 10000 = false then 1 else if x.cs.length = 0 then 3 else if 6 < x.cs.length then 4 else allE x.cy [] x.cs
/-! ### lines -/
def readP : List (Option Tx) → List Tx → Option (List Int)
  | [], [] => some []
  | some p :: ps, w :: ws => if w = p then readP ps ws else none
  | none :: ps, w :: ws => (match numO w with | some n => (match readP ps ws with | some ns => some (n :: ns) | none => none) | none => none)
  | _, _ => none
def writeP : List (Option Tx) → List Int → List Tx
  | [], _ => []
  | some p :: ps, ns => p :: writeP ps ns
  | none :: ps, ns => Lib.itoa (ns.headD 0) :: writeP ps ns.tail
def cntN : List (Option Tx) → Nat
  | [] => 0
  | some _ :: ps => cntN ps
  | none :: ps => cntN ps + 1
theorem readP_iff : ∀ (ps : List (Option Tx)) (ws : List Tx) (ns : List Int), readP ps ws = some ns ↔ ws = writeP ps ns ∧ ns.length = cntN ps ∧ ∀ n ∈ ns, small n
  | [], [], ns => by
    simp only [readP, writeP, cntN, Option.some.injEq, true_and]
    constructor
    · rintro rfl; simp
    · rintro ⟨h, -⟩; exact (List.length_eq_zero_iff.1 h).symm
  | [], w :: ws, ns => by simp [readP, writeP]
  | some p :: ps, [], ns => by simp [readP, writeP]
  | none :: ps, [], ns => by simp [readP, writeP]
  | some p :: ps, w :: ws, ns => by
    simp only [readP, writeP, cntN]
    by_cases h : w = p
    · rw [if_pos h, readP_iff ps ws ns, h]; simp
    · rw [if_neg h]
      simp [h]
  | none :: ps, w :: ws, ns => by
    simp only [readP, writeP, cntN]
    constructor
    · intro h
      cases hn : numO w with
      | none => rw [hn] at h; simp at h
      | some n =>
        rw [hn] at h
        cases hr : readP ps ws with
        | none => rw [hr] at h; simp at h
        | some ms =>
          rw [hr] at h
          simp only [Option.some.injEq] at h
          subst h
          obtain ⟨h1, h2⟩ := (numO_iff w n).1 hn
          obtain ⟨g1, g2, g3⟩ := (readP_iff ps ws ms).1 hr
          refine ⟨by simp [h1, g1], by simp [g2], ?_⟩
          intro k hk
          rcases List.mem_cons.1 hk with rfl | hk
          · exact h2
          · exact g3 k hk
    · rintro ⟨h1, h2, h3⟩
      cases ns with
      | nil => simp at h2
      | cons n ms =>
        obtain ⟨e1, e2⟩ := List.cons.inj h1
        rw [(numO_iff w n).2 ⟨e1.symm, h3 n (by simp)⟩, (readP_iff ps ws ms).2 ⟨e2, by simpa using h2, fun k hk => h3 k (by simp [hk])⟩]
def encP : List (Option Tx) := [some w_encounter, none, none]
def legP : List (Option Tx) := [some w_leg, none, none]
def crP (m : Tx) : List (Option Tx) := [some w_craft, none, some w_at, none, none, none, some w_moving, none, none, none, some w_pull, none, some w_mode, some m, some w_pilot, none, none, none]
def moW (m : Int) : Tx := if m = 0 then w_none else if m = 1 then w_tables else w_rules
def mkCr (m : Int) (ns : List Int) : Cr := ⟨ns.getD 0 0, ⟨ns.getD 1 0, ns.getD 2 0, ns.getD 3 0⟩, ⟨ns.getD 4 0, ns.getD 5 0, ns.getD 6 0⟩, ns.getD 7 0, [], m, ns.getD 8 0, ns.getD 9 0, ns.getD 10 0⟩
def Cr.nums (c : Cr) : List Int := [c.ad, c.p.x, c.p.y, c.p.z, c.v.x, c.v.y, c.v.z, c.pu, c.de, c.pp, c.mi]
def crO (ws : List Tx) : Option Cr :=
  match readP (crP w_none) ws with
  | some ns => some (mkCr 0 ns)
  | none => match readP (crP w_tables) ws with
    | some ns => some (mkCr 1 ns)
    | none => match readP (crP w_rules) ws with
      | some ns => some (mkCr 2 ns)
      | none => none
theorem list11 {ns : List Int} (h : ns.length = 11) : ∃ a b c d e f g h i j k, ns = [a, b, c, d, e, f, g, h, i, j, k] := by
  rcases ns with _ | ⟨a, _ | ⟨b, _ | ⟨c, _ | ⟨d, _ | ⟨e, _ | ⟨f, _ | ⟨g, _ | ⟨h', _ | ⟨i, _ | ⟨j, _ | ⟨k, _ | ⟨z, l⟩⟩⟩⟩⟩⟩⟩⟩⟩⟩⟩⟩ <;> simp at h
  exact ⟨_, _, _, _, _, _, _, _, _, _, _, rfl⟩
theorem cntCr (m : Tx) : cntN (crP m) = 11 := rfl
theorem mk_nums {m : Int} {ns : List Int} (h : ns.length = 11) : (mkCr m ns).nums = ns ∧ (mkCr m ns).mo = m ∧ (mkCr m ns).lg = [] := by
  obtain ⟨a, b, c, d, e, f, g, h, i, j, k, rfl⟩ := list11 h
  exact ⟨rfl, rfl, rfl⟩
theorem mk_of (c : Cr) (h : c.lg = []) : mkCr c.mo c.nums = c := by
  obtain ⟨ad, ⟨_, _, _⟩, ⟨_, _, _⟩, pu, lg, mo, de, pp, mi⟩ := c
  simp only at h
  subst h
  rfl
theorem crP_word {m m' : Tx} {ns ns' : List Int} (h : writeP (crP m) ns = writeP (crP m') ns') : m = m' := by
  have := congrArg (fun l => l.getD 13 []) h
  simpa [crP, writeP] using this
/-- the words of an aircraft's line -/
def crL (c : Cr) : List Tx := writeP (crP (moW c.mo)) c.nums
theorem crO_iff (ws : List Tx) (c : Cr) : crO ws = some c ↔ ws = crL c ∧ c.lg = [] ∧ (0 ≤ c.mo ∧ c.mo ≤ 2) ∧ ∀ n ∈ c.nums, small n := by
  have key : ∀ (m : Int) (ns : List Int), readP (crP (moW m)) ws = some ns → 0 ≤ m ∧ m ≤ 2 → (ws = crL (mkCr m ns) ∧ (mkCr m ns).lg = [] ∧ (0 ≤ (mkCr m ns).mo ∧ (mkCr m ns).mo ≤ 2) ∧ ∀ n ∈ (mkCr m ns).nums, small n) := by
    intro m ns h hm
    obtain ⟨h1, h2, h3⟩ := (readP_iff _ _ _).1 h
    obtain ⟨g1, g2, g3⟩ := mk_nums (m := m) h2
    exact ⟨by unfold crL; rw [g1, g2]; exact h1, g3, by rw [g2]; exact hm, by rw [g1]; exact h3⟩
  constructor
  · intro h
    unfold crO at h
    split at h
    · rename_i ns hr
      obtain rfl := Option.some.inj h
      exact key 0 ns hr (by omega)
    · split at h
      · rename_i ns hr
        obtain rfl := Option.some.inj h
        exact key 1 ns hr (by omega)
      · split at h
        · rename_i ns hr
          obtain rfl := Option.some.inj h
          exact key 2 ns hr (by omega)
        · cases h
  · rintro ⟨h1, h2, ⟨m0, m2⟩, h3⟩
    have hr : readP (crP (moW c.mo)) ws = some c.nums := (readP_iff _ _ _).2 ⟨h1, rfl, h3⟩
    have no : ∀ m : Tx, m ≠ moW c.mo → readP (crP m) ws = none := by
      intro m hm
      cases e : readP (crP m) ws with
      | none => rfl
      | some ns => exact absurd (crP_word (((readP_iff _ _ _).1 e).1.symm.trans h1)) hm
    unfold crO
    rcases (by omega : c.mo = 0 ∨ c.mo = 1 ∨ c.mo = 2) with e | e | e
    · have e' : moW c.mo = w_none := by rw [e]; rfl
      rw [e'] at hr
      rw [hr]
      simp only
      rw [← e, mk_of c h2]
    · have e' : moW c.mo = w_tables := by rw [e]; rfl
      rw [e'] at hr no
      rw [no w_none (by decide), hr]
      simp only
      rw [← e, mk_of c h2]
    · have e' : moW c.mo = w_rules := by rw [e]; rfl
      rw [e'] at hr no
      rw [no w_none (by decide), no w_tables (by decide), hr]
      simp only
      rw [← e, mk_of c h2]
def encL (cy gr : Int) : List Tx := writeP encP [cy, gr]
def legL (l : Int × Int) : List Tx := writeP legP [l.1, l.2]
theorem read2 {p : Tx} {ws : List Tx} {ns : List Int} (h : readP [some p, none, none] ws = some ns) : ∃ a b, ns = [a, b] ∧ ws = writeP [some p, none, none] [a, b] ∧ small a ∧ small b := by
  obtain ⟨h1, h2, h3⟩ := (readP_iff _ _ _).1 h
  rcases ns with _ | ⟨a, _ | ⟨b, _ | ⟨z, l⟩⟩⟩ <;> simp [cntN] at h2
  exact ⟨a, b, rfl, h1, h3 a (by simp), h3 b (by simp)⟩
def rd2 (p : Tx) (ws : List Tx) : Option (Int × Int) := match readP [some p, none, none] ws with | some [a, b] => some (a, b) | _ => none
theorem rd2_iff (p : Tx) (ws : List Tx) (a b : Int) : rd2 p ws = some (a, b) ↔ ws = writeP [some p, none, none] [a, b] ∧ small a ∧ small b := by
  unfold rd2
  constructor
  · intro h
    cases e : readP [some p, none, none] ws with
    | none => rw [e] at h; simp at h
    | some ns =>
      obtain ⟨c, d, rfl, h1, h2⟩ := read2 e
      rw [e] at h
      simp only [Option.some.injEq, Prod.mk.injEq] at h
      obtain ⟨rfl, rfl⟩ := h
      exact ⟨h1, h2⟩
  · rintro ⟨h1, h2, h3⟩
    rw [(readP_iff [some p, none, none] ws [a, b]).2 ⟨h1, rfl, by simp [h2, h3]⟩]
/-- a leg more at the last aircraft -/
def addL : List Cr → Int × Int → List Cr
  | [], _ => []
  | [c], l => [{ c with lg := c.lg ++ [l] }]
  | c :: d :: r, l => c :: addL (d :: r) l
def stepE (x : En) (first : Bool) (ws : List Tx) : Option En :=
  if first = true then (match rd2 w_encounter ws with | some (a, b) => some { x with cy := a, gr := b } | none => none)
  else match crO ws with
    | some c => some { x with cs := x.cs ++ [c] }
    | none => if x.cs.length = 0 then none else (match rd2 w_leg ws with | some l => some { x with cs := addL x.cs l } | none => none)
def goL (x : En) (n : Nat) : List Tx → Sum Nat (En × Nat)
  | [] => .inl n
  | [last] => if last = [] then .inr (x, n - 1) else .inl n
  | l :: m :: r => match stepE x (n == 1) (splitC 32 l) with | some y => goL y (n + 1) (m :: r) | none => .inl n
/-- what Parse returns: the encounter, the line, the error -/
def paE (s : Tx) : En × Int × Int :=
  if 4096 < s.length then (En.zero, 0, 4) else
  match goL En.zero 1 (splitC 10 s) with
  | .inl n => (En.zero, n, 2)
  | .inr (x, last) => if last < 2 then (En.zero, last + 1, 2) else if chE x ≠ 0 then (En.zero, 0, chE x) else (x, 0, 0)
/-! ### the text -/
def linesC (c : Cr) : List (List Tx) := crL c :: c.lg.map legL
def linesE (x : En) : List (List Tx) := encL x.cy x.gr :: (x.cs.map linesC).flatten
def lineT (ws : List Tx) : Tx := Lib.join ws [32] ++ [10]
def txE (x : En) : Tx := ((linesE x).map lineT).flatten
def foE (x : En) : Tx × Int := if chE x ≠ 0 then ([], chE x) else (txE x, 0)
/-! ### Format inverts Parse -/
theorem addL_lines : ∀ (cs : List Cr) (l : Int × Int), cs ≠ [] → ((addL cs l).map linesC).flatten = (cs.map linesC).flatten ++ [legL l]
  | [], _, h => absurd rfl h
  | [c], l, _ => by simp [addL, linesC, crL, Cr.nums]
  | c :: d :: r, l, _ => by
    have := addL_lines (d :: r) l (by simp)
    rw [addL, List.map_cons, List.flatten_cons, this]
    simp
theorem stepE_lines {x y : En} {ws : List Tx} (h : stepE x false ws = some y) : linesE y = linesE x ++ [ws] := by
  unfold stepE at h
  rw [if_neg (by decide)] at h
  cases hc : crO ws with
  | some c =>
    rw [hc] at h
    obtain rfl := Option.some.inj h
    obtain ⟨h1, h2, -⟩ := (crO_iff _ _).1 hc
    have e : linesC c = [ws] := by unfold linesC; rw [h2, h1]; rfl
    simp [linesE, e]
  | none =>
    rw [hc] at h
    simp only at h
    split at h
    · cases h
    · rename_i hn
      cases hr : rd2 w_leg ws with
      | none => rw [hr] at h; simp at h
      | some l =>
        rw [hr] at h
        obtain rfl := Option.some.inj h
        obtain ⟨a, b⟩ := l
        obtain ⟨h1, -⟩ := (rd2_iff _ _ _ _).1 hr
        have h1' : ws = legL (a, b) := h1
        simp only [linesE]
        rw [addL_lines _ _ (fun e => hn (by rw [e]; rfl)), h1']
        rfl
theorem stepE_first {x y : En} {ws : List Tx} (hx : x.cs = []) (h : stepE x true ws = some y) : linesE y = [ws] := by
  unfold stepE at h
  rw [if_pos rfl] at h
  cases hr : rd2 w_encounter ws with
  | none => rw [hr] at h; simp at h
  | some l =>
    obtain ⟨a, b⟩ := l
    rw [hr] at h
    obtain rfl := Option.some.inj h
    obtain ⟨h1, -⟩ := (rd2_iff _ _ _ _).1 hr
    simp [linesE, hx, encL, encP, h1]
theorem goL_lines : ∀ (ls : List Tx) (x y : En) (n last : Nat), 2 ≤ n → goL x n ls = .inr (y, last) → linesE y = linesE x ++ ls.dropLast.map (splitC 32) ∧ ls.getLast? = some [] ∧ last + 1 = n - 1 + ls.length
  | [], x, y, n, last, _, h => by simp [goL] at h
  | [l], x, y, n, last, hn, h => by
    unfold goL at h
    split at h
    · rename_i hl
      injection h with h
      obtain ⟨rfl, rfl⟩ := Prod.mk.inj h
      simp [hl]
    · cases h
  | l :: m :: r, x, y, n, last, hn, h => by
    unfold goL at h
    have h1 : (n == 1) = false := by rw [beq_eq_false_iff_ne]; omega
    rw [h1] at h
    cases hs : stepE x false (splitC 32 l) with
    | none => rw [hs] at h; simp at h
    | some z =>
      rw [hs] at h
      obtain ⟨e1, e2, e3⟩ := goL_lines (m :: r) z y (n + 1) last (by omega) h
      refine ⟨?_, by rw [List.getLast?_cons_cons]; exact e2, by simp at e3 ⊢; omega⟩
      have e : (l :: m :: r).dropLast = l :: (m :: r).dropLast := rfl
      rw [e1, stepE_lines hs, e, List.map_cons, List.append_assoc]
      rfl
theorem lineT_split (l : Tx) : lineT (splitC 32 l) = l ++ [10] := by unfold lineT; rw [splitC_join]
theorem paE_ok {s : Tx} {y : En} {n : Int} (h : paE s = (y, n, 0)) : n = 0 ∧ chE y = 0 ∧ txE y = s := by
  unfold paE at h
  split at h
  · simp at h
  · split at h
    · simp at h
    · rename_i x last hg
      split at h
      · simp at h
      · rename_i hl
        split at h
        · rename_i hc
          obtain ⟨-, -, h⟩ := (Prod.mk.injEq _ _ _ _).mp h |>.imp id (fun g => (Prod.mk.injEq _ _ _ _).mp g)
          exact absurd h hc
        · rename_i hc
          simp only [Prod.mk.injEq, and_true] at h
          obtain ⟨rfl, rfl⟩ := h
          have hc' : chE x = 0 := by simpa using hc
          refine ⟨rfl, hc', ?_⟩
          cases hs : splitC 10 s with
          | nil => exact absurd hs (splitC_ne 10 s)
          | cons l r =>
            cases r with
            | nil =>
              rw [hs] at hg
              unfold goL at hg
              split at hg
              · injection hg with hg
                have := (Prod.mk.inj hg).2
                omega
              · cases hg
            | cons m r =>
              rw [hs] at hg
              unfold goL at hg
              cases hst : stepE En.zero (1 == 1) (splitC 32 l) with
              | none => rw [hst] at hg; simp at hg
              | some z =>
                rw [hst] at hg
                obtain ⟨e1, e2, -⟩ := goL_lines (m :: r) z x (1 + 1) last (by omega) hg
                have e0 := stepE_first (x := En.zero) rfl hst
                have hlast : (splitC 10 s).getLast (splitC_ne 10 s) = [] := by
                  have : (splitC 10 s).getLast? = some [] := by rw [hs, List.getLast?_cons_cons]; exact e2
                  rw [List.getLast?_eq_some_getLast (splitC_ne 10 s)] at this
                  exact Option.some.inj this
                have := splitC_concat 10 s hlast
                unfold txE
                rw [e1, e0]
                rw [hs, List.dropLast_cons_of_ne_nil (by simp)] at this
                conv => rhs; rw [← this]
                simp only [List.map_cons, List.map_map, List.singleton_append]
                rw [lineT_split]
                congr 2
                apply List.map_congr_left
                intro a _
                exact lineT_split a
theorem paE_bad {s : Tx} {y : En} {n e : Int} (h : paE s = (y, n, e)) (he : e ≠ 0) : y = En.zero := by
  unfold paE at h
  split at h
  · exact ((Prod.mk.inj h).1).symm
  · split at h
    · exact ((Prod.mk.inj h).1).symm
    · split at h
      · exact ((Prod.mk.inj h).1).symm
      · split at h
        · exact ((Prod.mk.inj h).1).symm
        · simp only [Prod.mk.injEq] at h
          exact absurd h.2.2.symm he
/-! ### Parse inverts Format -/
theorem w_noC : ∀ w ∈ [w_encounter, w_craft, w_at, w_moving, w_pull, w_mode, w_pilot, w_leg, w_none, w_tables, w_rules], (32 : UInt8) ∉ w ∧ (10 : UInt8) ∉ w ∧ w.length ≤ 9 := by decide
/-- what a word of a pattern is: without blank and line feed, short -/
def okPat (ps : List (Option Tx)) : Prop := ∀ w, some w ∈ ps → (32 : UInt8) ∉ w ∧ (10 : UInt8) ∉ w ∧ w.length ≤ 9
theorem okW (w : Tx) (h : w ∈ [w_encounter, w_craft, w_at, w_moving, w_pull, w_mode, w_pilot, w_leg, w_none, w_tables, w_rules]) : (32 : UInt8) ∉ w ∧ (10 : UInt8) ∉ w ∧ w.length ≤ 9 := w_noC w h
theorem moW_mem (m : Int) : moW m ∈ [w_encounter, w_craft, w_at, w_moving, w_pull, w_mode, w_pilot, w_leg, w_none, w_tables, w_rules] := by
  unfold moW; split
  · simp
  · split <;> simp
theorem ok_enc : okPat encP := fun w h => w_noC w (by simp [encP] at h; simp [h])
theorem ok_leg : okPat legP := fun w h => w_noC w (by simp [legP] at h; simp [h])
theorem ok_cr (m : Int) : okPat (crP (moW m)) := fun w h => by
  simp [crP] at h
  rcases h with rfl | rfl | rfl | rfl | rfl | rfl | rfl
  · exact w_noC _ (by simp)
  · exact w_noC _ (by simp)
  · exact w_noC _ (by simp)
  · exact w_noC _ (by simp)
  · exact w_noC _ (by simp)
  · exact w_noC _ (moW_mem m)
  · exact w_noC _ (by simp)
theorem writeP_no : ∀ (ps : List (Option Tx)) (ns : List Int), okPat ps → ∀ w ∈ writeP ps ns, (32 : UInt8) ∉ w ∧ (10 : UInt8) ∉ w
  | [], ns, _, w, h => by simp [writeP] at h
  | some p :: ps, ns, hp, w, h => by
    simp only [writeP, List.mem_cons] at h
    rcases h with rfl | h
    · exact ⟨(hp w (by simp)).1, (hp w (by simp)).2.1⟩
    · exact writeP_no ps ns (fun v hv => hp v (by simp [hv])) w h
  | none :: ps, ns, hp, w, h => by
    simp only [writeP, List.mem_cons] at h
    rcases h with rfl | h
    · exact ⟨itoa_no (by decide) (by decide), itoa_no (by decide) (by decide)⟩
    · exact writeP_no ps ns.tail (fun v hv => hp v (by simp [hv])) w h
theorem join_no {c : UInt8} : ∀ (ws : List Tx) (sep : Tx), c ∉ sep → (∀ w ∈ ws, c ∉ w) → c ∉ Lib.join ws sep
  | [], sep, _, _ => by simp [Lib.join_nil]
  | [w], sep, _, h => by rw [Lib.join_one]; exact h w (by simp)
  | w :: v :: r, sep, hs, h => by
    rw [Lib.join_cons]
    rw [List.mem_append, not_or]
    refine ⟨h w (by simp), ?_⟩
    unfold Lib.joinTail
    intro hm
    obtain ⟨l, hl, hc⟩ := List.mem_flatten.1 hm
    obtain ⟨u, hu, rfl⟩ := List.mem_map.1 hl
    rcases List.mem_append.1 hc with g | g
    · exact hs g
    · exact h u (List.mem_cons_of_mem _ hu) g
theorem bd_legs {cy : Int} (h1 : 1 ≤ cy) (h2 : cy ≤ 120) : ∀ (l : List (Int × Int)) (least : Int), 0 ≤ least → legE cy least l = 0 → ∀ x ∈ l, (0 ≤ x.1 ∧ x.1 ≤ 119) ∧ (-100 ≤ x.2 ∧ x.2 ≤ 100)
  | [], _, _, _, x, hx => by simp at hx
  | y :: l, least, h0, h, x, hx => by
    unfold legE at h
    split at h
    · simp at h
    · rename_i g1
      split at h
      · simp at h
      · rename_i g2
        have g1' := inB_iff (of_nf g1)
        have g2' := inB_iff (of_nf g2)
        rcases List.mem_cons.1 hx with rfl | hx
        · omega
        · exact bd_legs h1 h2 l (y.1 + 1) (by omega) h x hx
theorem small_legs {cy : Int} (h1 : 1 ≤ cy) (h2 : cy ≤ 120) (l : List (Int × Int)) (least : Int) (h0 : 0 ≤ least) (h : legE cy least l = 0) : ∀ x ∈ l, small x.1 ∧ small x.2 := fun x hx => by
  have := bd_legs h1 h2 l least h0 h x hx
  unfold small
  omega
theorem crE_ok {c : Cr} {cy : Int} (h : crE c cy = 0) : okP c.p ∧ okV c.v ∧ okP (c.at cy c.p.z) ∧ inB c.pu 1 32 = true ∧ c.mo ≤ 2 ∧ (inB c.de 0 16 = true ∧ inB c.pp 1 32 = true ∧ inB c.mi 0 100 = true) ∧ c.lg.length ≤ 16 ∧ legE cy 0 c.lg = 0 := by
  unfold crE at h
  split at h
  · rename_i g; exact absurd h g
  rename_i g1
  split at h
  · rename_i g; exact absurd h g
  rename_i g2
  split at h
  · simp at h
  rename_i g3
  split at h
  · simp at h
  rename_i g4
  split at h
  · simp at h
  rename_i g5
  split at h
  · rename_i g; exact absurd h g
  rename_i g6
  split at h
  · simp at h
  rename_i g7
  refine ⟨?_, ?_, ?_, of_nf g4, by omega, ?_, by omega, h⟩
  · apply Decidable.byContradiction; intro hn; unfold ckP at g1; rw [if_neg hn] at g1; simp at g1
  · apply Decidable.byContradiction; intro hn; unfold ckV at g2; rw [if_neg hn] at g2; simp at g2
  · apply Decidable.byContradiction; intro hn; unfold ckP at g3; rw [if_neg hn] at g3; simp at g3
  · apply Decidable.byContradiction; intro hn; unfold pilE at g6; rw [if_neg hn] at g6; simp at g6
theorem allE_ok {cy : Int} : ∀ (cs : List Cr) (prev : List Int), allE cy prev cs = 0 → ∀ c ∈ cs, inB c.ad 0 16777215 = true ∧ crE c cy = 0
  | [], _, _, c, h => by simp at h
  | d :: l, prev, h, c, hc => by
    unfold allE at h
    split at h
    · simp at h
    rename_i g1
    split at h
    · simp at h
    split at h
    · rename_i g; exact absurd h g
    rename_i g3
    rcases List.mem_cons.1 hc with rfl | hc
    · exact ⟨of_nf g1, by simpa using g3⟩
    · exact allE_ok l _ h c hc
theorem chE_ok {x : En} (h : chE x = 0) : (1 ≤ x.cy ∧ x.cy ≤ 120) ∧ (0 ≤ x.gr ∧ x.gr ≤ 10000) ∧ 0 < x.cs.length ∧ x.cs.length ≤ 6 ∧ allE x.cy [] x.cs = 0 := by
  unfold chE at h
  split at h
  · simp at h
  rename_i g1
  rw [not_or] at g1
  split at h
  · simp at h
  rename_i g2
  split at h
  · simp at h
  rename_i g3
  exact ⟨inB_iff (of_nf g1.1), inB_iff (of_nf g1.2), by omega, by omega, h⟩
theorem nums_small {c : Cr} {cy : Int} (ha : inB c.ad 0 16777215 = true) (h : crE c cy = 0) : ∀ n ∈ c.nums, small n := by
  obtain ⟨hp, hv, -, hpu, -, ⟨h1, h2, h3⟩, -⟩ := crE_ok h
  have ha := inB_iff ha
  have hpu := inB_iff hpu
  have h1 := inB_iff h1
  have h2 := inB_iff h2
  have h3 := inB_iff h3
  unfold okP at hp
  unfold okV at hv
  intro n hn
  unfold Cr.nums at hn
  unfold small
  simp only [List.mem_cons, List.not_mem_nil, or_false] at hn
  rcases hn with rfl | rfl | rfl | rfl | rfl | rfl | rfl | rfl | rfl | rfl | rfl <;> omega
theorem writeP_ne {p : Option Tx} {ps : List (Option Tx)} {ns : List Int} : writeP (p :: ps) ns ≠ [] := by cases p <;> simp [writeP]
theorem split_line {ps : List (Option Tx)} {ns : List Int} (h : okPat ps) (hn : ps ≠ []) : splitC 32 (Lib.join (writeP ps ns) [32]) = writeP ps ns :=
  splitC_of_join (by cases ps with | nil => exact absurd rfl hn | cons p r => exact writeP_ne) (fun w hw => (writeP_no ps ns h w hw).1)
theorem line_no {ps : List (Option Tx)} {ns : List Int} (h : okPat ps) : (10 : UInt8) ∉ Lib.join (writeP ps ns) [32] := join_no _ _ (by decide) (fun w hw => (writeP_no ps ns h w hw).2)
/-- the texts of the lines -/
def jn (ws : List Tx) : Tx := Lib.join ws [32]
theorem addL_snoc : ∀ (cs : List Cr) (c : Cr) (l : Int × Int), addL (cs ++ [c]) l = cs ++ [{ c with lg := c.lg ++ [l] }]
  | [], c, l => rfl
  | [d], c, l => rfl
  | d :: e :: r, c, l => by
    have := addL_snoc (e :: r) c l
    simp only [List.cons_append] at this ⊢
    rw [addL, this]
theorem go_legs (cy gr : Int) (done : List Cr) : ∀ (ls : List (Int × Int)) (c : Cr) (n : Nat) (rest : List Tx), 2 ≤ n → rest ≠ [] → (∀ x ∈ ls, small x.1 ∧ small x.2) →
    goL ⟨cy, gr, done ++ [c]⟩ n (ls.map (fun l => jn (legL l)) ++ rest) = goL ⟨cy, gr, done ++ [{ c with lg := c.lg ++ ls }]⟩ (n + ls.length) rest
  | [], c, n, rest, _, _, _ => by simp
  | x :: ls, c, n, rest, hn, hr, hs => by
    have ih := go_legs cy gr done ls { c with lg := c.lg ++ [x] } (n + 1) rest (by omega) hr (fun y hy => hs y (by simp [hy]))
    obtain ⟨m, r, e⟩ : ∃ m r, ls.map (fun l => jn (legL l)) ++ rest = m :: r := by
      cases h : ls.map (fun l => jn (legL l)) ++ rest with
      | nil => exact absurd (List.append_eq_nil_iff.1 h).2 hr
      | cons m r => exact ⟨m, r, rfl⟩
    rw [List.map_cons, List.cons_append, e]
    conv => lhs; unfold goL
    have h1 : (n == 1) = false := by rw [beq_eq_false_iff_ne]; omega
    have h2 : splitC 32 (jn (legL x)) = legL x := split_line ok_leg (by simp [legP])
    have h3 : crO (legL x) = none := by
      cases e : crO (legL x) with
      | none => rfl
      | some d =>
        have := congrArg List.length ((crO_iff _ _).1 e).1
        simp [legL, crL, writeP, legP, crP] at this
    have h4 : rd2 w_leg (legL x) = some x := (rd2_iff _ _ _ _).2 ⟨rfl, hs x (by simp)⟩
    have h5 : stepE ⟨cy, gr, done ++ [c]⟩ false (legL x) = some ⟨cy, gr, done ++ [{ c with lg := c.lg ++ [x] }]⟩ := by
      unfold stepE
      rw [if_neg (by decide), h3]
      simp only
      rw [if_neg (by simp), h4]
      simp only
      rw [addL_snoc]
    rw [h1, h2, h5]
    simp only
    rw [← e, ih]
    have e6 : n + 1 + ls.length = n + (x :: ls).length := by simp; omega
    rw [e6]
    simp
theorem go_crafts (cy gr : Int) (h1 : 1 ≤ cy) (h2 : cy ≤ 120) : ∀ (cs done : List Cr) (n : Nat) (rest : List Tx), 2 ≤ n → rest ≠ [] → (∀ c ∈ cs, inB c.ad 0 16777215 = true ∧ crE c cy = 0 ∧ 0 ≤ c.mo) →
    goL ⟨cy, gr, done⟩ n (((cs.map linesC).flatten).map jn ++ rest) = goL ⟨cy, gr, done ++ cs⟩ (n + ((cs.map linesC).flatten).length) rest
  | [], done, n, rest, _, _, _ => by simp
  | c :: cs, done, n, rest, hn, hr, hs => by
    obtain ⟨ha, hc, hm⟩ := hs c (by simp)
    obtain ⟨-, -, -, -, hm2, -, -, hl⟩ := crE_ok hc
    have ih := go_crafts cy gr h1 h2 cs (done ++ [c]) (n + 1 + c.lg.length) rest (by omega) hr (fun d hd => hs d (by simp [hd]))
    have e0 : (((c :: cs).map linesC).flatten).map jn ++ rest = jn (crL c) :: (c.lg.map (fun l => jn (legL l)) ++ (((cs.map linesC).flatten).map jn ++ rest)) := by
      simp [linesC]
    have hr' : (((cs.map linesC).flatten).map jn ++ rest) ≠ [] := fun h => hr (List.append_eq_nil_iff.1 h).2
    obtain ⟨m, r, e⟩ : ∃ m r, c.lg.map (fun l => jn (legL l)) ++ (((cs.map linesC).flatten).map jn ++ rest) = m :: r := by
      cases h : c.lg.map (fun l => jn (legL l)) ++ (((cs.map linesC).flatten).map jn ++ rest) with
      | nil => exact absurd (List.append_eq_nil_iff.1 h).2 hr'
      | cons m r => exact ⟨m, r, rfl⟩
    rw [e0, e]
    conv => lhs; unfold goL
    have g1 : (n == 1) = false := by rw [beq_eq_false_iff_ne]; omega
    have g2 : splitC 32 (jn (crL c)) = crL c := split_line (ok_cr c.mo) (by simp [crP])
    have g3 : crO (crL c) = some { c with lg := [] } := (crO_iff _ _).2 ⟨rfl, rfl, ⟨hm, hm2⟩, fun n hn => nums_small (c := c) ha hc n hn⟩
    have g4 : stepE ⟨cy, gr, done⟩ false (crL c) = some ⟨cy, gr, done ++ [{ c with lg := [] }]⟩ := by
      unfold stepE
      rw [if_neg (by decide), g3]
    rw [g1, g2, g4]
    simp only
    rw [← e, go_legs cy gr done c.lg { c with lg := [] } (n + 1) _ (by omega) hr' (small_legs h1 h2 c.lg 0 (by omega) hl)]
    have e3 : ({ c with lg := ([] : List (Int × Int)) ++ c.lg } : Cr) = c := rfl
    have e4 : ({ ({ c with lg := [] } : Cr) with lg := ({ c with lg := [] } : Cr).lg ++ c.lg } : Cr) = c := e3
    rw [e4, ih]
    simp only [List.map_cons, List.flatten_cons, List.append_assoc, List.singleton_append, List.length_append, linesC, List.length_cons, List.length_map]
    congr 1
    omega
theorem flat_len {α : Type} (M : Nat) : ∀ (ls : List (List α)), (∀ l ∈ ls, l.length ≤ M) → ls.flatten.length ≤ M * ls.length
  | [], _ => by simp
  | l :: ls, h => by
    have h1 := flat_len M ls (fun x hx => h x (by simp [hx]))
    have h2 := h l (by simp)
    rw [List.flatten_cons, List.length_append, List.length_cons, Nat.mul_add]
    omega
theorem itoa_lenJ {n : Int} (j : Nat) (hj : 1 ≤ j) (h : n.natAbs < 10 ^ j) : (Lib.itoa n).length ≤ j + 1 := by
  unfold Lib.itoa
  split
  · have := nD_le j n.natAbs hj h
    rw [List.length_cons, Lib.decDigits_length]; omega
  · have := nD_le j n.toNat hj (by omega)
    rw [Lib.decDigits_length]; omega
theorem write_len (M : Nat) (hM : 2 ≤ M) : ∀ (ps : List (Option Tx)) (ns : List Int), (∀ w, some w ∈ ps → w.length ≤ M) → (∀ n ∈ ns, (Lib.itoa n).length ≤ M) → ∀ w ∈ writeP ps ns, w.length ≤ M
  | [], ns, _, _, w, h => by simp [writeP] at h
  | some p :: ps, ns, hp, hn, w, h => by
    simp only [writeP, List.mem_cons] at h
    rcases h with rfl | h
    · exact hp w (by simp)
    · exact write_len M hM ps ns (fun v hv => hp v (by simp [hv])) hn w h
  | none :: ps, ns, hp, hn, w, h => by
    simp only [writeP, List.mem_cons] at h
    rcases h with rfl | h
    · cases ns with
      | nil => have := itoa_lenJ (n := 0) 1 (by omega) (by simp); simp only [List.headD_nil]; omega
      | cons n r => exact hn n (by simp)
    · exact write_len M hM ps ns.tail (fun v hv => hp v (by simp [hv])) (fun n hm => hn n (List.mem_of_mem_tail hm)) w h
theorem write_length : ∀ (ps : List (Option Tx)) (ns : List Int), (writeP ps ns).length = ps.length
  | [], ns => rfl
  | some p :: ps, ns => by simp [writeP, write_length ps ns]
  | none :: ps, ns => by simp [writeP, write_length ps ns.tail]
theorem join_lenM (M : Nat) : ∀ (ws : List Tx), (∀ w ∈ ws, w.length ≤ M) → (Lib.join ws [32]).length ≤ (M + 1) * ws.length
  | [], _ => by simp [Lib.join_nil]
  | [w], h => by rw [Lib.join_one]; have := h w (by simp); simp; omega
  | w :: v :: r, h => by
    have ih := join_lenM M (v :: r) (fun x hx => h x (by simp [hx]))
    have h1 := h w (by simp)
    rw [Lib.join_cons] at ih ⊢
    have e : Lib.joinTail [32] (v :: r) = 32 :: (v ++ Lib.joinTail [32] r) := by simp [Lib.joinTail]
    rw [e]
    simp only [List.length_append, List.length_cons, Nat.mul_add] at ih ⊢
    omega
theorem lineT_len (M : Nat) (hM : 2 ≤ M) (ps : List (Option Tx)) (ns : List Int) (hp : ∀ w, some w ∈ ps → w.length ≤ M) (hn : ∀ n ∈ ns, (Lib.itoa n).length ≤ M) : (lineT (writeP ps ns)).length ≤ (M + 1) * ps.length + 1 := by
  unfold lineT
  have := join_lenM M _ (write_len M hM ps ns hp hn)
  rw [write_length] at this
  simp only [List.length_append, List.length_singleton]
  omega
theorem linesC_len {c : Cr} {cy : Int} (h1 : 1 ≤ cy) (h2 : cy ≤ 120) (ha : inB c.ad 0 16777215 = true) (h : crE c cy = 0) : (((linesC c).map lineT).flatten).length ≤ 460 := by
  obtain ⟨-, -, -, -, -, -, hl, hle⟩ := crE_ok h
  have hs := bd_legs h1 h2 c.lg 0 (by omega) hle
  unfold linesC
  rw [List.map_cons, List.flatten_cons, List.length_append]
  have e1 := lineT_len 10 (by omega) (crP (moW c.mo)) c.nums (fun w hw => by have := (ok_cr c.mo w hw).2.2; omega) (fun n hn => itoa_len (nums_small ha h n hn))
  have e2 := flat_len 16 ((c.lg.map legL).map lineT) (by
    intro l hl
    obtain ⟨ws, hw, rfl⟩ := List.mem_map.1 hl
    obtain ⟨x, hx, rfl⟩ := List.mem_map.1 hw
    have hb := hs x hx
    have := lineT_len 4 (by omega) legP [x.1, x.2] (by intro w hw; simp [legP] at hw; subst hw; decide) (by
      intro n hn
      simp at hn
      rcases hn with rfl | rfl
      · exact itoa_lenJ 3 (by omega) (by omega)
      · exact itoa_lenJ 3 (by omega) (by omega))
    simpa [legP, legL] using this)
  simp only [List.length_map] at e2
  have e1' : (lineT (crL c)).length ≤ 199 := by simpa [crP, crL] using e1
  omega
theorem txE_len {x : En} (h : chE x = 0) : (txE x).length ≤ 4096 := by
  obtain ⟨⟨c1, c2⟩, ⟨g1, g2⟩, -, hl, ha⟩ := chE_ok h
  have hall := allE_ok x.cs [] ha
  unfold txE linesE
  rw [List.map_cons, List.flatten_cons, List.length_append]
  have e1 : (lineT (encL x.cy x.gr)).length ≤ 34 := by
    have := lineT_len 10 (by omega) encP [x.cy, x.gr] (fun w hw => by have := (ok_enc w hw).2.2; omega) (by intro n hn; refine itoa_len ?_; simp at hn; unfold small; rcases hn with rfl | rfl <;> omega)
    simpa [encP, encL] using this
  have e2 : ∀ cs : List Cr, (((cs.map linesC).flatten).map lineT).flatten = ((cs.map (fun c => ((linesC c).map lineT).flatten))).flatten := by
    intro cs
    induction cs with
    | nil => rfl
    | cons c r ih =>
      rw [List.map_cons, List.flatten_cons, List.map_append, List.flatten_append, ih]
      rfl
  rw [e2]
  have e3 := flat_len 460 (x.cs.map (fun c => ((linesC c).map lineT).flatten)) (by
    intro l hl
    obtain ⟨c, hc, rfl⟩ := List.mem_map.1 hl
    exact linesC_len c1 c2 (hall c hc).1 (hall c hc).2)
  simp only [List.length_map] at e3
  omega
theorem linesE_no (x : En) : ∀ ws ∈ linesE x, (10 : UInt8) ∉ jn ws := by
  intro ws h
  unfold linesE at h
  rcases List.mem_cons.1 h with rfl | h
  · exact line_no ok_enc
  · obtain ⟨l, hl, hw⟩ := List.mem_flatten.1 h
    obtain ⟨c, -, rfl⟩ := List.mem_map.1 hl
    unfold linesC at hw
    rcases List.mem_cons.1 hw with rfl | hw
    · exact line_no (ok_cr c.mo)
    · obtain ⟨y, -, rfl⟩ := List.mem_map.1 hw
      exact line_no ok_leg
theorem paE_tx {x : En} (h : chE x = 0) (hm : ∀ c ∈ x.cs, 0 ≤ c.mo) : paE (txE x) = (x, 0, 0) := by
  obtain ⟨⟨c1, c2⟩, ⟨g1, g2⟩, hn, hl, ha⟩ := chE_ok h
  have hall := allE_ok x.cs [] ha
  have hs : splitC 10 (txE x) = (linesE x).map jn ++ [[]] := by
    have := splitC_lines (c := 10) (ls := (linesE x).map jn) (by
      intro l hl
      obtain ⟨ws, hw, rfl⟩ := List.mem_map.1 hl
      exact linesE_no x ws hw)
    rw [← this, List.map_map]
    rfl
  have hg : goL En.zero 1 (splitC 10 (txE x)) = .inr (x, ((x.cs.map linesC).flatten).length + 1) := by
    rw [hs]
    have e0 : (linesE x).map jn ++ [[]] = jn (encL x.cy x.gr) :: (((x.cs.map linesC).flatten).map jn ++ [[]]) := by simp [linesE]
    obtain ⟨m, r, e⟩ : ∃ m r, ((x.cs.map linesC).flatten).map jn ++ [[]] = m :: r := by
      cases h : ((x.cs.map linesC).flatten).map jn ++ [[]] with
      | nil => simp at h
      | cons m r => exact ⟨m, r, rfl⟩
    rw [e0, e]
    unfold goL
    have s1 : splitC 32 (jn (encL x.cy x.gr)) = encL x.cy x.gr := split_line ok_enc (by simp [encP])
    have s2 : stepE En.zero (1 == 1) (encL x.cy x.gr) = some ⟨x.cy, x.gr, []⟩ := by
      unfold stepE
      rw [if_pos (by decide), (rd2_iff w_encounter (encL x.cy x.gr) x.cy x.gr).2 ⟨rfl, by unfold small; omega, by unfold small; omega⟩]
      rfl
    rw [s1, s2]
    simp only
    rw [← e, go_crafts x.cy x.gr c1 c2 x.cs [] 2 [[]] (by omega) (by simp) (fun c hc => ⟨(hall c hc).1, (hall c hc).2, hm c hc⟩)]
    unfold goL
    rw [if_pos rfl, List.nil_append, show 2 + ((x.cs.map linesC).flatten).length - 1 = ((x.cs.map linesC).flatten).length + 1 by omega]
  have hlen : 1 ≤ ((x.cs.map linesC).flatten).length := by
    cases hc : x.cs with
    | nil => rw [hc] at hn; simp at hn
    | cons c r => simp [linesC]
  unfold paE
  rw [if_neg (by have := txE_len h; omega), hg]
  simp only
  rw [if_neg (by omega), if_neg (by rw [h]; simp)]
end Go.Proofs.YtnnnpliigdfipaaGreatDoor
