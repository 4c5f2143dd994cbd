/- encounter: a range over a function whose iterator keeps its state in a cell of its own, and hands slices on. -/
import Derived.Test.YtnnnpliigdfipaaGreatDoorRows
import Derived.RangeFuncNested
import Derived.RangeFuncBound
import Derived.RangeFuncCalls
import Derived.RangeFuncLeaves
import Derived.OwnWalkIn
import Derived.TacticsInMore
import Derived.LoopNIn
import Derived.LoopIn
import Derived.Lib.Hide
import Derived.Test.YtnnnpliigdfipaaGreatDoorK2
namespace Go.Proofs.YtnnnpliigdfipaaGreatDoor
open Go.RowKit
/-- what a round keeps of the iterator's own -/
structure KpS (K Bs : Nat) (W W' : World) : Prop where
  below : Below K W W'
  cell : W'.heap[Bs]? = W.heap[Bs]?
/-- what an iterator leaves alone: all but its own cell -/
def Steady (Bs : Nat) (J : World → Prop) : Prop := ∀ W W', J W → W.grownBy W' (some Bs) → J W'
/-- a step of the caller's and of the loop's book-keeping -/
def Turns (Bs n0 : Nat) (W : World) (row : Option Nat) : Prop := ∀ r, row = some r → r = Bs ∨ (n0 ≤ r ∧ ∃ o : Obj, W.heap[r]? = some o ∧ o.isCells = false)
def Iter {σ : Type} (n : Nat) (gf : Nat) (lb : Array Value) (K Bs : Nat) (Y : σ → Array Value → World → Prop) (nxt : σ → σ) (fin : σ → Prop) (s0 : σ) (W : World) : Prop :=
  ∀ (l : Nat) (J : σ → World → Prop) (Jx : World → Prop), (∀ s, Steady Bs (J s)) → Steady Bs Jx →
    (∀ s args W1, J s W1 → Y s args W1 → YieldAt Fence.wide (n - 1) Tryz.prog l args W1 fun e W' => (e = .returned (.bool true) ∧ J (nxt s) W' ∧ KpS K Bs W1 W') ∨ (e = .returned (.bool false) ∧ Jx W')) →
    J s0 W → CallsIn Fence.wide n Tryz.prog gf (#[.func (.yield l) #[] #[]] ++ lb) W fun e W' => (∃ v, e = .returned v) ∧ ((∃ s, fin s ∧ J s W') ∨ Jx W')
def vPost {σ : Type} (B K Bs : Nat) (I : σ → World → Prop) (Ix : Code → World → Prop) (s : σ) (W : World) : Exit → Act → World → Prop
  | .normal, _, W' => KeepsFrom B W W' ∧ KpS K Bs W W' ∧ I s W'
  | .ret, _, W' => KeepsFrom B W W' ∧ Ix .ret W'
  | .exit id, _, W' => KeepsFrom B W W' ∧ Ix (.exit id) W'
  | .goto t, _, W' => KeepsFrom B W W' ∧ Ix (.goto t) W'
  | .panic _, _, _ => False
  | .outgrown, _, _ => False
theorem range_v {σ : Type} {g : Operand} {ps : Array Tmp} {assign body : Code} {Q : Exit → Act → World → Prop} {a : Act} {w : World} {n : Nat} (h1 : 1 ≤ n) {gf : Nat} {lb : Array Value}
    (hg : a.eval g = .func (.func gf) #[] lb) (eg : ∀ args w, (callFunc gf args).run Tryz.prog w = .ok (.enter gf args) w)
    {K Bs : Nat} {Y : σ → Array Value → World → Prop} {nxt : σ → σ} {fin : σ → Prop} {s0 : σ} (hK : K ≤ w.heap.size) (hBs : Bs < w.heap.size)
    (hit : ∀ W, Below w.heap.size w W → Iter (n - 1) gf lb K Bs Y nxt fin s0 W)
    (hps : ∀ s args W, Y s args W → args.size = ps.size)
    (hY : ∀ s args W l o o', Y s args W → w.heap.size ≤ l → W.heap[l]? = some o → o.isCells = false → Y s args (W.putObj l o'))
    (I : σ → World → Prop) (Ix : Code → World → Prop)
    (hI : ∀ s W W' row, I s W → W.grownBy W' row → Turns Bs w.heap.size W row → I s W')
    (hIx : ∀ c W W' row, Ix c W → W.grownBy W' row → Turns Bs w.heap.size W row → Ix c W')
    (h0 : I s0 w) (a₁ : Array Value → Act)
    (hassign : ∀ (l : Nat) (s : σ) (args : Array Value) (W : World) (K' : Act → World → Prop), Y s args W → K' (a₁ args) W →
      assign.wpIn (Fence.wide.inRound l) (n - 1 - 1) Tryz.prog (Exit.then K' (fun _ _ _ => False)) { tmps := (ps.zip args).foldl (fun t (p, v) => t.setIfInBounds p v) a.tmps, defers := [] } W)
    (hbody : ∀ (l : Nat) (s : σ) (args : Array Value) (W : World), I s W → Y s args W → body.wpIn (Fence.wide.inRound l) (n - 1 - 1) Tryz.prog (vPost w.heap.size K Bs I Ix (nxt s) W) (a₁ args) W)
    (hdone : ∀ (D : Nat) (s : σ) (W : World), w.heap.size ≤ D → fin s → I s W → W.heap[D]? = some (.deferred (some [])) → Q .normal { a with defers := { target := .collected D, args := #[] } :: a.defers } W)
    (hstop : ∀ (D : Nat) (c : Code) (W : World), w.heap.size ≤ D → Ix c W → W.heap[D]? = some (.deferred (some [])) → c.wpIn Fence.wide n Tryz.prog Q { a with defers := { target := .collected D, args := #[] } :: a.defers } W) :
    (Code.rangeFunc g ps assign body).wpIn Fence.wide n Tryz.prog Q a w := by
  have hput : ∀ {W : World} {l : Nat} {o : Obj} (o' : Obj), W.heap[l]? = some o → o.isCells = false → w.heap.size ≤ l → Turns Bs w.heap.size W (some l) := by
    intro W l o o' hl ho hle r e
    cases e
    exact .inr ⟨hle, o, hl, ho⟩
  refine wpIn_rangeFunc ?_
  intro fn hfn
  obtain ⟨rec, hrec⟩ : ∃ rec : LoopState → Option Code → Loop, rec = fun st pe => { state := st, pending := pe, fn, tmps := a.tmps, params := ps, assign, body, defers := w.heap.size } := ⟨_, rfl⟩
  obtain ⟨W1, hW1⟩ : ∃ W1, (w.alloc (.deferred (some []))).alloc (.loop (rec .ready none)) = W1 := ⟨_, rfl⟩
  have hL1 : W1.heap[w.heap.size + 1]? = some (.loop (rec .ready none)) := by
    rw [← hW1]; have := World.alloc_heap_new (w.alloc (.deferred (some []))) (.loop (rec .ready none)); rwa [World.size_alloc] at this
  have hK1 : W1.heap[w.heap.size]? = some (.deferred (some [])) := by
    rw [← hW1]; exact (Below.heap_alloc _ _ _ (by simp)).trans (World.alloc_heap_new w _)
  have hb1 : Below w.heap.size w W1 := by rw [← hW1]; exact ((Below.refl _ w).alloc (Nat.le_refl _) _).alloc (by simp) _
  have hI1 : I s0 W1 := by
    rw [← hW1]
    exact hI _ _ _ none (hI _ _ _ none h0 (World.grownBy_alloc _ _ _) (fun r e => by cases e)) (World.grownBy_alloc _ _ _) (fun r e => by cases e)
  refine ⟨w.heap.size + 1, [{ target := .collected w.heap.size, args := #[] }], W1, { target := .fn (.func gf) lb, args := #[.func (.yield (w.heap.size + 1)) #[] #[]] }, W1, gf,
    #[.func (.yield (w.heap.size + 1)) #[] #[]] ++ lb, W1, ?_, ?_, ?_, ?_, fun _ => h1, ?_⟩
  · rw [← hW1, hrec]; exact run_enterLoop_outer _ _ _ _ _
  · simp only [resolve, hg]
    simp [go_sem]
  · intro f' _; trivial
  · simp [invoke, go_sem, eg]
  · have keep : ∀ {W W' : World} {k : Nat}, W.grownBy W' (some Bs) → k ≠ Bs → k < W.heap.size → W'.heap[k]? = W.heap[k]? := fun hg hne hk => hg.block _ hk (fun e => hne (by injection e))
    refine (hit W1 hb1 (w.heap.size + 1)
      (fun s W => I s W ∧ W.heap[w.heap.size + 1]? = some (.loop (rec .ready none)) ∧ W.heap[w.heap.size]? = some (.deferred (some [])))
      (fun W => ∃ c, Ix c W ∧ W.heap[w.heap.size + 1]? = some (.loop (rec .done (some c))) ∧ W.heap[w.heap.size]? = some (.deferred (some [])))
      (fun s A B hs hg' => ⟨hI s A B _ hs.1 hg' (fun r e => by cases e; exact .inl rfl), (keep hg' (by omega) (Array.getElem?_eq_some_iff.1 hs.2.1).1).trans hs.2.1, (keep hg' (by omega) (Array.getElem?_eq_some_iff.1 hs.2.2).1).trans hs.2.2⟩)
      (fun A B hs hg' => by
        obtain ⟨c, hc, hl, hk⟩ := hs
        exact ⟨c, hIx c A B _ hc hg' (fun r e => by cases e; exact .inl rfl), (keep hg' (by omega) (Array.getElem?_eq_some_iff.1 hl).1).trans hl, (keep hg' (by omega) (Array.getElem?_eq_some_iff.1 hk).1).trans hk⟩)
      ?_ ⟨hI1, hL1, hK1⟩).mono ?_
    · rintro s args W ⟨hi, hl, hk⟩ hy
      have hlt : w.heap.size + 1 < W.heap.size := (Array.getElem?_eq_some_iff.1 hl).1
      have hyr := run_yield (P := Tryz.prog) (args := args) hl (by rw [hrec]; exact hps s args W hy)
      rw [hrec] at hyr
      obtain ⟨U, hU⟩ : ∃ U, U = W.putObj (w.heap.size + 1) (.loop { rec .ready none with state := .busy }) := ⟨_, rfl⟩
      refine ⟨fn, _, assign, body, hyr, roundIn_of_wpIn hfn (hassign _ s args W _ hy ⟨U, by rw [hU]; exact run_beginRound hl (by rw [hrec]), ?_⟩)⟩
      have hl2 : U.heap[w.heap.size + 1]? = some (.loop { rec .ready none with state := .busy }) := by rw [hU]; exact World.putObj_heap_same hlt
      have hk2 : U.heap[w.heap.size]? = some (.deferred (some [])) := by rw [hU]; exact (World.putObj_heap_other (by omega)).trans hk
      have hiU : I s U := by rw [hU]; exact hI _ _ _ _ hi (grownBy_putObj' _ _ _) (hput (.loop { rec .ready none with state := .busy }) hl rfl (by omega))
      have hyU : Y s args U := by rw [hU]; exact hY _ _ _ _ _ _ hy (by omega) hl rfl
      have hbU : Below K W U := by rw [hU]; exact ⟨rfl, rfl, rfl, by simp, fun i hi => World.putObj_heap_other (by omega)⟩
      have hcU : U.heap[Bs]? = W.heap[Bs]? := by rw [hU]; exact World.putObj_heap_other (by omega)
      refine wpIn_mono (hbody _ s args U hiU hyU) ?_
      have fin' : ∀ (jump : Option Code) (W3 : World), KeepsFrom w.heap.size U W3 →
          (Instr.endRound (w.heap.size + 1) jump).run Tryz.prog W3 = .ok (.bool jump.isNone) (W3.putObj (w.heap.size + 1) (.loop (rec (if jump.isNone then .ready else .done) jump))) ∧
          W3.heap[w.heap.size + 1]? = some (.loop { rec .ready none with state := .busy }) ∧
          (W3.putObj (w.heap.size + 1) (.loop (rec (if jump.isNone then .ready else .done) jump))).heap[w.heap.size + 1]? = some (.loop (rec (if jump.isNone then .ready else .done) jump)) ∧
          (W3.putObj (w.heap.size + 1) (.loop (rec (if jump.isNone then .ready else .done) jump))).heap[w.heap.size]? = some (.deferred (some [])) := fun jump W3 hk3 => by
        have hl3 := hk3.same _ _ (by omega) hl2 rfl
        have := run_endRound (P := Tryz.prog) jump hl3
        rw [hrec] at this ⊢
        exact ⟨this, by rw [hrec] at hl3; exact hl3, World.putObj_heap_same (Array.getElem?_eq_some_iff.1 hl3).1, (World.putObj_heap_other (by omega)).trans (hk3.same _ _ (Nat.le_refl _) hk2 rfl)⟩
      rintro e a3 W3 hp
      cases e with
      | normal =>
        obtain ⟨hk3, hkp, hi3⟩ := hp
        obtain ⟨hr, hl3, hl4, hk4⟩ := fin' none W3 hk3
        refine ⟨_, _, hr, .inl ⟨rfl, ⟨hI _ _ _ _ hi3 (grownBy_putObj' _ _ _) (hput (.loop (rec .ready none)) hl3 rfl (by omega)), hl4, hk4⟩, ?_, ?_⟩⟩
        · exact (hbU.trans hkp.below).trans ⟨rfl, rfl, rfl, by simp, fun i hi => World.putObj_heap_other (by omega)⟩
        · exact (World.putObj_heap_other (by omega)).trans (hkp.cell.trans hcU)
      | ret =>
        obtain ⟨hk3, hi3⟩ := hp
        obtain ⟨hr, hl3, hl4, hk4⟩ := fin' (some .ret) W3 hk3
        exact ⟨_, _, hr, .inr ⟨rfl, .ret, hIx _ _ _ _ hi3 (grownBy_putObj' _ _ _) (hput (.loop (rec .done (some .ret))) hl3 rfl (by omega)), hl4, hk4⟩⟩
      | exit id =>
        obtain ⟨hk3, hi3⟩ := hp
        obtain ⟨hr, hl3, hl4, hk4⟩ := fin' (some (.exit id)) W3 hk3
        exact ⟨_, _, hr, .inr ⟨rfl, .exit id, hIx _ _ _ _ hi3 (grownBy_putObj' _ _ _) (hput (.loop (rec .done (some (.exit id)))) hl3 rfl (by omega)), hl4, hk4⟩⟩
      | goto t =>
        obtain ⟨hk3, hi3⟩ := hp
        obtain ⟨hr, hl3, hl4, hk4⟩ := fin' (some (.goto t)) W3 hk3
        exact ⟨_, _, hr, .inr ⟨rfl, .goto t, hIx _ _ _ _ hi3 (grownBy_putObj' _ _ _) (hput (.loop (rec .done (some (.goto t)))) hl3 rfl (by omega)), hl4, hk4⟩⟩
      | panic ch => exact hp.elim
      | outgrown => exact hp.elim
    · rintro e W2 ⟨⟨v, rfl⟩, (⟨s, hs, hi, hl, hk⟩ | ⟨c, hi, hl, hk⟩)⟩
      · exact ⟨none, _, by have := run_endLoop (P := Tryz.prog) hl (by rw [hrec]; simp); rw [hrec] at this; exact this,
          hdone _ s _ (Nat.le_refl _) hs (hI _ _ _ _ hi (grownBy_putObj' _ _ _) (hput (.loop (rec .ready none)) hl rfl (by omega))) ((World.putObj_heap_other (by omega)).trans hk)⟩
      · exact ⟨some c, _, by have := run_endLoop (P := Tryz.prog) hl (by rw [hrec]; simp); rw [hrec] at this; exact this,
          hstop _ c _ (Nat.le_refl _) (hIx _ _ _ _ hi (grownBy_putObj' _ _ _) (hput (.loop (rec .done (some c))) hl rfl (by omega))) ((World.putObj_heap_other (by omega)).trans hk)⟩
end Go.Proofs.YtnnnpliigdfipaaGreatDoor
