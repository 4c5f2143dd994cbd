/- encounter: the reference's Parse. -/
import Derived.Test.YtnnnpliigdfipaaGreatDoorRows
import Derived.WalkKit
import Derived.WalkLawsBesides
import Derived.WalkSpells
import Derived.ProofKit
import Derived.Below
import Derived.Outline
import Derived.Lib.Hide
import Derived.Deep.RegionWith
import Derived.Deep.RegionHeld3
import Derived.Deep.DrawnRows
import Derived.StillTailTactics
import Derived.BigQuiet
import Derived.Deep.QuietTactic
import Derived.Deep.LoopGhost
import Derived.IntWalk
import Derived.Lib.MinMax
import Derived.OrdersHeld
import Derived.Deep.CutBlock
import Derived.Deep.CutRange
import Derived.Deep.DeepCutAuto
import Derived.Test.YtnnnpliigdfipaaGreatDoorEnHH
namespace Go.Proofs.YtnnnpliigdfipaaGreatDoor
open Go.RowKit
attribute [local go_sem ↓] Go.wp_at_zero Go.wp_at_succ
attribute [local go_sem] wrap_lit
theorem goL_mid {y : En} {ls : List Tx} {k : Nat} {l : Tx} (hl : ls[k]? = some l) (hk : k + 1 < ls.length) : goL y (k + 1) (ls.drop k) = match stepE y (k == 0) (splitC 32 l) with | some y' => goL y' (k + 1 + 1) (ls.drop (k + 1)) | none => .inl (k + 1) := by
  have h0 : k < ls.length := by omega
  rw [List.drop_eq_getElem_cons h0, List.drop_eq_getElem_cons hk]
  have e : ls[k] = l := by rw [List.getElem?_eq_getElem h0] at hl; exact Option.some.inj hl
  rw [e]
  have e2 : (k + 1 == 1) = (k == 0) := by cases k <;> rfl
  show (match stepE y (k + 1 == 1) (splitC 32 l) with | some y' => _ | none => _) = _
  rw [e2]
theorem goL_last {y : En} {ls : List Tx} {k : Nat} {l : Tx} (hl : ls[k]? = some l) (hk : k + 1 = ls.length) : goL y (k + 1) (ls.drop k) = if l = [] then .inr (y, k) else .inl (k + 1) := by
  have h0 : k < ls.length := by omega
  rw [List.drop_eq_getElem_cons h0, List.drop_eq_nil_of_le (by omega)]
  have e : ls[k] = l := by rw [List.getElem?_eq_getElem h0] at hl; exact Option.some.inj hl
  rw [e]
  rfl
theorem step_sz {x y : En} {b : Bool} {ws : List Tx} {n : Nat} (h : stepE x b ws = some y) (h1 : x.cs.length ≤ n) (h2 : ∀ c ∈ x.cs, c.lg.length ≤ n) : y.cs.length ≤ n + 1 ∧ ∀ c ∈ y.cs, c.lg.length ≤ n + 1 := by
  unfold stepE at h
  split at h
  · split at h
    · simp only [Option.some.injEq] at h
      subst h
      exact ⟨by simp; omega, fun c hc => by have := h2 c hc; omega⟩
    · cases h
  · split at h
    · rename_i c hc
      simp only [Option.some.injEq] at h
      subst h
      refine ⟨by simp; omega, fun d hd => ?_⟩
      simp only [List.mem_append, List.mem_singleton] at hd
      rcases hd with hd | rfl
      · have := h2 d hd; omega
      · have hl : d.lg = [] := by
          unfold crO at hc
          split at hc
          · cases hc; rfl
          · split at hc
            · cases hc; rfl
            · split at hc
              · cases hc; rfl
              · cases hc
        rw [hl]; simp
    · split at h
      · cases h
      · rename_i hn0
        split at h
        · rename_i l hl
          simp only [Option.some.injEq] at h
          subst h
          have hne : x.cs ≠ [] := fun e => hn0 (by rw [e]; rfl)
          obtain ⟨init, cl, e⟩ : ∃ init cl, x.cs = init ++ [cl] := ⟨_, _, (List.dropLast_concat_getLast hne).symm⟩
          show (addL x.cs l).length ≤ n + 1 ∧ ∀ c ∈ addL x.cs l, c.lg.length ≤ n + 1
          rw [e] at h1 h2 ⊢
          rw [addL_snoc]
          refine ⟨by simp at h1 ⊢; omega, fun d hd => ?_⟩
          simp only [List.mem_append, List.mem_singleton] at hd
          rcases hd with hd | rfl
          · have := h2 d (by simp [hd]); omega
          · have := h2 cl (by simp); simp; omega
        · cases h
theorem rd2_enc {ws : List Tx} {a b : Int} (g : readP encP ws = some [a, b]) : rd2 w_encounter ws = some (a, b) := by unfold rd2; rw [show [some w_encounter, none, none] = encP from rfl, g]
theorem rd2_enc_no {ws : List Tx} (g : readP encP ws = none) : rd2 w_encounter ws = none := by unfold rd2; rw [show [some w_encounter, none, none] = encP from rfl, g]
/-- what Parse leaves -/
def ParR (s : Tx) (w : World) (e : Ending) (w' : World) : Prop := ∃ v lvs Bl, e = .returned (.tuple #[.agg #[.int .i64 (paE s).1.cy, .int .i64 (paE s).1.gr, v], .int .i64 (paE s).2.1, .int .i64 (paE s).2.2]) ∧ PS w' w.heap.size v (paE s).1.cs lvs Bl ∧ Below w.heap.size w w'
theorem parR_bad {s : Tx} {w w' : World} {n e : Int} (h : paE s = (En.zero, n, e)) (hb : Below w.heap.size w w') : ParR s w (.returned (.tuple #[.agg #[.int .i64 0, .int .i64 0, .slice none 0 0], .int .i64 n, .int .i64 e])) w' := by
  refine ⟨.slice none 0 0, [], 0, ?_, ?_, hb⟩
  · rw [h]; rfl
  · rw [h]; exact PS.nil _ _
theorem paE_inl {s : Tx} {n : Nat} (hl : ¬ 4096 < s.length) (h : goL En.zero 1 (splitC 10 s) = .inl n) : paE s = (En.zero, (n : Int), 2) := by
  unfold paE; rw [if_neg hl, h]
theorem paE_lt {s : Tx} {k : Nat} {y : En} (hl : ¬ 4096 < s.length) (h : goL En.zero 1 (splitC 10 s) = .inr (y, k)) (hk : k < 2) : paE s = (En.zero, (k : Int) + 1, 2) := by
  unfold paE; rw [if_neg hl, h]
  show (if k < 2 then (En.zero, ((k + 1 : Nat) : Int), (2 : Int)) else _) = _
  rw [if_pos hk]; simp
theorem paE_chk {s : Tx} {k : Nat} {y : En} (hl : ¬ 4096 < s.length) (h : goL En.zero 1 (splitC 10 s) = .inr (y, k)) (hk : ¬ k < 2) (hc : chE y ≠ 0) : paE s = (En.zero, 0, chE y) := by
  unfold paE; rw [if_neg hl, h]
  show (if k < 2 then _ else if chE y ≠ 0 then _ else _) = _
  rw [if_neg hk, if_pos hc]
theorem paE_ok' {s : Tx} {k : Nat} {y : En} (hl : ¬ 4096 < s.length) (h : goL En.zero 1 (splitC 10 s) = .inr (y, k)) (hk : ¬ k < 2) (hc : chE y = 0) : paE s = (y, 0, 0) := by
  unfold paE; rw [if_neg hl, h]
  show (if k < 2 then _ else if chE y ≠ 0 then _ else _) = _
  rw [if_neg hk, if_neg (fun h => h hc)]
set_option maxRecDepth 100000 in
set_option maxHeartbeats 8000000 in
theorem parse15 (s : Tx) (hs : s.length ≤ 80000) (w : World) : Calls Tryz.prog 15 #[.string (S s)] w (ParR s w) := by
  by_cases hlong : 4096 < s.length
  · have HV : Hid (paE s = (En.zero, 0, 4)) := Lib.hid (by unfold paE; rw [if_pos hlong])
    have hlI : (4096 : Int) < (s.length : Int) := by omega
    go_enter Tryz.func15, Tryz.ntmps15
    go_wp2_with fail
    obtain ⟨w0, hw0⟩ : ∃ w0, w0 = w.alloc (.cells #[.int .i64 0, .int .i64 0, .slice none 0 0] 24) := ⟨_, rfl⟩
    have Rw0 : Hid (w0.heap[w.heap.size]? = some (.cells #[.int .i64 0, .int .i64 0, .slice none 0 0] 24 (0, 0))) := Lib.hid (by rw [hw0]; exact heap_alloc_new _ _)
    have Bw0 : Hid (Below w.heap.size w w0) := Lib.hid (by rw [hw0]; exact (Below.refl _ _).alloc (Nat.le_refl _) _)
    have r0 : w0.cell? ⟨w.heap.size, 0, none⟩ = some (.int .i64 0) := cur_at Rw0.out rfl
    have r1 : w0.cell? ⟨w.heap.size, 1, none⟩ = some (.int .i64 0) := cur_at Rw0.out rfl
    have r2 : w0.cell? ⟨w.heap.size, 2, none⟩ = some (.slice none 0 0) := cur_at Rw0.out rfl
    have fr : ∀ i, w0.frozen? ⟨w.heap.size, i, none⟩ = false := fun i => by simp [World.frozen?, Rw0.out]
    rw [← hw0]
    (try simp only [Exit.inBlock, Exit.then])
    exact bodyPost_ret (v := .tuple #[.agg #[.int .i64 0, .int .i64 0, .slice none 0 0], .int .i64 0, .int .i64 4]) (by simp [results, Tryz.results15, go_sem, r0, r1, r2]) rfl (parR_bad HV.out Bw0.out)
  have HLONG := Lib.hid hlong
  have hsI : (s.length : Int) ≤ 4096 := by omega
  have hsN : s.length ≤ 4096 := by omega
  have SP := Lib.hid (fun w' => split65 s 10 10 rfl (by omega) w')
  have hlens : ∀ l ∈ splitC 10 s, l.length ≤ 90000 := fun l hl => by have := (splitC_bd 10 s).2 l hl; omega
  have hcount : (splitC 10 s).length ≤ 4097 := by have := (splitC_bd 10 s).1; omega
  have hpos : 0 < (splitC 10 s).length := List.length_pos_iff.2 (splitC_ne _ _)
  have HINL : Hid (∀ n : Nat, goL En.zero 1 (splitC 10 s) = .inl n → paE s = (En.zero, (n : Int), 2)) := Lib.hid (fun n h => paE_inl hlong h)
  have HLT : Hid (∀ (k : Nat) (y : En), goL En.zero 1 (splitC 10 s) = .inr (y, k) → k < 2 → paE s = (En.zero, (k : Int) + 1, 2)) := Lib.hid (fun k y h g => paE_lt hlong h g)
  have HBAD : Hid (∀ (k : Nat) (y : En), goL En.zero 1 (splitC 10 s) = .inr (y, k) → ¬ k < 2 → chE y ≠ 0 → paE s = (En.zero, 0, chE y)) := Lib.hid (fun k y h g c => paE_chk hlong h g c)
  have HOK : Hid (∀ (k : Nat) (y : En), goL En.zero 1 (splitC 10 s) = .inr (y, k) → ¬ k < 2 → chE y = 0 → paE s = (y, 0, 0)) := Lib.hid (fun k y h g c => paE_ok' hlong h g c)
  go_enter Tryz.func15, Tryz.ntmps15
  go_wp2_with fail
  clear hlong
  obtain ⟨ls, hls⟩ : ∃ ls, ls = splitC 10 s := ⟨_, rfl⟩
  rw [← hls] at SP hlens hcount hpos HINL HLT HBAD HOK
  have HLENS := Lib.hid hlens
  clear hls hlens
  obtain ⟨w0, hw0⟩ : ∃ w0, w0 = w.alloc (.cells #[.int .i64 0, .int .i64 0, .slice none 0 0] 24) := ⟨_, rfl⟩
  have Rw0 : Hid (w0.heap[w.heap.size]? = some (.cells #[.int .i64 0, .int .i64 0, .slice none 0 0] 24 (0, 0))) := Lib.hid (by rw [hw0]; exact heap_alloc_new _ _)
  have Bw0 : Hid (Below w.heap.size w w0) := Lib.hid (by rw [hw0]; exact (Below.refl _ _).alloc (Nat.le_refl _) _)
  rw [← hw0]
  clear hw0
  refine (SP.out _).mono ?_
  rintro e w1 ⟨v1, rfl, hrow, hb1⟩
  obtain ⟨A1, cp, rfl, hcp, hA1⟩ := ownsRow_form hrow
  obtain ⟨g, rfl, hg0, hg, ⟨cur, hcur⟩, hcell⟩ := hA1 hpos
  have HC : Hid (∀ (j : Nat) (l : Tx), ls[j]? = some l → cur[j]? = some (.string (S l))) := Lib.hid (fun j l h => at_cur hcur (hcell j _ (by simp [h])))
  have hg0w := Bw0.out.size
  have Rw1 := Lib.hid ((hb1.block _ (heap_lt Rw0.out)).trans Rw0.out)
  have Bw1 := Lib.hid (Bw0.out.trans (hb1.mono hg0w))
  have Lw1 := Lib.hid hcur
  have s1 := Bw1.out.size
  clear hrow hb1 hA1 hcur hcell SP Rw0 Bw0
  go_wp2_with fail
  obtain ⟨w2, hw2⟩ : ∃ w2, w2 = w1.alloc (.cells #[.int .i64 0, .int .i64 0, .slice none 0 0] 24) := ⟨_, rfl⟩
  have b2 : Below w1.heap.size w1 w2 := by rw [hw2]; exact (Below.refl _ _).alloc (Nat.le_refl _) _
  obtain ⟨H, hH⟩ : ∃ H, H = w1.heap.size := ⟨_, rfl⟩
  have Xw2 : Hid (w2.heap[H]? = some (.cells #[.int .i64 0, .int .i64 0, .slice none 0 0] 24 (0, 0))) := Lib.hid (by rw [hw2, hH]; exact heap_alloc_new _ _)
  have Rw2 := Lib.hid ((b2.block _ (heap_lt Rw1.out)).trans Rw1.out)
  have Lw2 := Lib.hid ((b2.block _ (heap_lt Lw1.out)).trans Lw1.out)
  have Bw2 := Lib.hid (Bw1.out.trans (b2.mono s1))
  have s2 : w2.heap.size = H + 1 := by rw [hw2, hH]; simp
  have hgH : g < H := by omega
  have hwH : w.heap.size < H := by have := heap_lt Rw1.out; omega
  rw [← hw2, ← hH]
  clear hw2 b2 hH Rw1 Lw1 Bw1 s1
  go_loopw [7] (fun i wr => ∃ (k : Nat) (y : En) (v : Value) (lvs : List Value) (Bl : Nat), k < ls.length ∧ i = .int .i64 k ∧ Hid (goL y (k + 1) (ls.drop k) = goL En.zero 1 ls) ∧ y.cs.length ≤ k ∧ (∀ c ∈ y.cs, c.lg.length ≤ k) ∧ PS wr (H + 1) v y.cs lvs Bl ∧ Bl ≤ wr.heap.size ∧ wr.heap[H]? = some (.cells #[.int .i64 y.cy, .int .i64 y.gr, v] 24 (0, 0)) ∧ H + 1 ≤ wr.heap.size ∧ Below H w2 wr) (fun i _ => ls.length - (intOf i).toNat)
  case atStart => exact ⟨0, En.zero, .slice none 0 0, [], 0, hpos, rfl, Lib.hid rfl, Nat.zero_le _, (fun c h => by cases h), PS.nil _ _, Nat.zero_le _, Xw2.out, by omega, Below.refl _ _⟩
  case round =>
    obtain ⟨k, y, v, lvs, Bl, hk, rfl, HG, hyl, hyg, hps, hBl, hX, hsz, hb⟩ := hrel
    have HP := Lib.hid hps
    have HB := Lib.hid hb
    have HYG := Lib.hid hyg
    have Xwr := Lib.hid hX
    have Rwr := Lib.hid ((hb.block _ hwH).trans Rw2.out)
    have Lwr := Lib.hid ((hb.block _ hgH).trans Lw2.out)
    have Bwr := Lib.hid (Bw2.out.trans (hb.mono (by omega)))
    clear hps hb hyg hX
    obtain ⟨l, hl⟩ : ∃ l, ls[k]? = some l := ⟨_, List.getElem?_eq_getElem hk⟩
    have hcl : cur[k]? = some (.string (S l)) := HC.out k l hl
    have hcw : wr.cell? ⟨g, k, none⟩ = some (.string (S l)) := cur_at Lwr.out hcl
    have hll := HLENS.out l (List.mem_of_getElem? hl)
    have HL := Lib.hid hl
    clear hl
    have hkI : (k : Int) < (ls.length : Int) := by omega
    have hk5 : (ls.length : Int) ≤ 5000 := by omega
    have wl : IntKind.i64.wrap ((ls.length : Int) - 1) = (ls.length : Int) - 1 := IntWalk.i64_in _ (by omega)
    have wk1 : IntKind.i64.wrap ((k : Int) + 1) = (k : Int) + 1 := IntWalk.i64_in _ (by omega)
    by_cases hkl : k + 1 = ls.length
    · have b1 : ((k : Int) == (ls.length : Int) - 1) = true := by simp; omega
      have HE : Hid ((if l = [] then Sum.inr (y, k) else Sum.inl (k + 1)) = goL En.zero 1 ls) := Lib.hid (by rw [← HG.out, goL_last HL.out hkl])
      clear hkl
      by_cases hle : l = []
      · have hle1 : l.isEmpty = true := by rw [hle]; rfl
        have hle2 : (l == []) = true := by rw [hle]; rfl
        by_cases hk2 : k < 2
        · have HV : Hid (paE s = (En.zero, (k : Int) + 1, 2)) := Lib.hid (HLT.out k y (by rw [← HE.out, if_pos hle]) hk2)
          have hk2I : (k : Int) < 2 := by omega
          have hkb : decide ((k : Int) < 2) = true := decide_eq_true hk2I
          subst hle
          have r0 : wr.cell? ⟨w.heap.size, 0, none⟩ = some (.int .i64 0) := cur_at Rwr.out rfl
          have r1 : wr.cell? ⟨w.heap.size, 1, none⟩ = some (.int .i64 0) := cur_at Rwr.out rfl
          have r2 : wr.cell? ⟨w.heap.size, 2, none⟩ = some (.slice none 0 0) := cur_at Rwr.out rfl
          have fr : ∀ i, wr.frozen? ⟨w.heap.size, i, none⟩ = false := fun i => by simp [World.frozen?, Rwr.out]
          go_wp2_with fail
          (try simp only [Exit.inBlock, Exit.then])
          have z0 := fun (X Z T : Value) => set3_0' wr (w.heap.size) X Z T (by rw [r0]; rfl)
          have z1 := fun (X Z T : Value) => set3_1' wr (w.heap.size) X Z T (by rw [r1]; rfl)
          have z2 := fun (X Z T : Value) => set3_2' wr (w.heap.size) X Z T (by rw [r2]; rfl)
          exact bodyPost_ret (v := .tuple #[.agg #[.int .i64 0, .int .i64 0, .slice none 0 0], .int .i64 ((k : Int) + 1), .int .i64 (2)]) (by simp [results, Tryz.results15, go_sem, z0, z1, z2]) rfl (parR_bad HV.out (((Bwr.out.setCell (p := ⟨w.heap.size, 0, none⟩) (Nat.le_refl _) _).setCell (p := ⟨w.heap.size, 1, none⟩) (Nat.le_refl _) _).setCell (p := ⟨w.heap.size, 2, none⟩) (Nat.le_refl _) _))
        · have hk2I : ¬ (k : Int) < 2 := by omega
          have hkb : decide ((k : Int) < 2) = false := decide_eq_false hk2I
          have HE2 : Hid (goL En.zero 1 ls = .inr (y, k)) := Lib.hid (by rw [← HE.out, if_pos hle])
          subst hle
          clear HE HG
          have x0 : wr.cell? ⟨H, 0, none⟩ = some (.int .i64 y.cy) := cur_at Xwr.out rfl
          have x1 : wr.cell? ⟨H, 1, none⟩ = some (.int .i64 y.gr) := cur_at Xwr.out rfl
          have x2 : wr.cell? ⟨H, 2, none⟩ = some v := cur_at Xwr.out rfl
          obtain ⟨A9, cap9, rfl, hc9, hin⟩ := HP.out.inCr
          have CK := Lib.hid (check20 y A9 cap9 wr hin)
          clear hin
          go_wp2_with fail
          refine CK.out.mono ?_
          rintro e w3 ⟨rfl, hb3⟩
          have sr := Bwr.out.size
          have Rw3 := Lib.hid ((hb3.block _ (heap_lt Rwr.out)).trans Rwr.out)
          have Xw3 := Lib.hid ((hb3.block _ (heap_lt Xwr.out)).trans Xwr.out)
          have Bw3 := Lib.hid (Bwr.out.trans (hb3.mono sr))
          have HP3 := Lib.hid (HP.out.below hb3)
          clear hb3 x0 x1 x2 CK
          have x0 : w3.cell? ⟨H, 0, none⟩ = some (.int .i64 y.cy) := cur_at Xw3.out rfl
          have x1 : w3.cell? ⟨H, 1, none⟩ = some (.int .i64 y.gr) := cur_at Xw3.out rfl
          have x2 : w3.cell? ⟨H, 2, none⟩ = some (.slice A9 y.cs.length cap9) := cur_at Xw3.out rfl
          by_cases hc : chE y = 0
          · have HV : Hid (paE s = (y, 0, 0)) := Lib.hid (HOK.out k y HE2.out hk2 hc)
            rw [hc]
            clear hc hcw
            have r0 : w3.cell? ⟨w.heap.size, 0, none⟩ = some (.int .i64 0) := cur_at Rw3.out rfl
            have r1 : w3.cell? ⟨w.heap.size, 1, none⟩ = some (.int .i64 0) := cur_at Rw3.out rfl
            have r2 : w3.cell? ⟨w.heap.size, 2, none⟩ = some (.slice none 0 0) := cur_at Rw3.out rfl
            have fr : ∀ i, w3.frozen? ⟨w.heap.size, i, none⟩ = false := fun i => by simp [World.frozen?, Rw3.out]
            go_wp2_with fail
            (try simp only [Exit.inBlock, Exit.then])
            have z0 := fun (X Z T : Value) => set3_0' w3 (w.heap.size) X Z T (by rw [r0]; rfl)
            have z1 := fun (X Z T : Value) => set3_1' w3 (w.heap.size) X Z T (by rw [r1]; rfl)
            have z2 := fun (X Z T : Value) => set3_2' w3 (w.heap.size) X Z T (by rw [r2]; rfl)
            refine bodyPost_ret (v := .tuple #[.agg #[.int .i64 y.cy, .int .i64 y.gr, .slice A9 y.cs.length cap9], .int .i64 0, .int .i64 0]) (by simp [results, Tryz.results15, go_sem, z0, z1, z2]) rfl ⟨.slice A9 y.cs.length cap9, lvs, Bl, by rw [HV.out], ?_, ((Bw3.out.setCell (p := ⟨w.heap.size, 0, none⟩) (Nat.le_refl _) _).setCell (p := ⟨w.heap.size, 1, none⟩) (Nat.le_refl _) _).setCell (p := ⟨w.heap.size, 2, none⟩) (Nat.le_refl _) _⟩
            rw [HV.out]
            exact (((HP3.out.far Rw3.out (by decide) (by decide)).far (setCell_heap _ _ _ _ _ _ _ Rw3.out) (by decide) (by decide)).far (setCell_heap _ _ _ _ _ _ _ (setCell_heap _ _ _ _ _ _ _ Rw3.out)) (by decide) (by decide)).mono (by omega)
          · have HV : Hid (paE s = (En.zero, 0, chE y)) := Lib.hid (HBAD.out k y HE2.out hk2 hc)
            have hcb : (chE y != 0) = true := by simpa using hc
            obtain ⟨ce, hce⟩ : ∃ ce, ce = chE y := ⟨_, rfl⟩
            rw [← hce] at HV hcb ⊢
            clear hc hce hcw
            have r0 : w3.cell? ⟨w.heap.size, 0, none⟩ = some (.int .i64 0) := cur_at Rw3.out rfl
            have r1 : w3.cell? ⟨w.heap.size, 1, none⟩ = some (.int .i64 0) := cur_at Rw3.out rfl
            have r2 : w3.cell? ⟨w.heap.size, 2, none⟩ = some (.slice none 0 0) := cur_at Rw3.out rfl
            have fr : ∀ i, w3.frozen? ⟨w.heap.size, i, none⟩ = false := fun i => by simp [World.frozen?, Rw3.out]
            go_wp2_with fail
            (try simp only [Exit.inBlock, Exit.then])
            have z0 := fun (X Z T : Value) => set3_0' w3 (w.heap.size) X Z T (by rw [r0]; rfl)
            have z1 := fun (X Z T : Value) => set3_1' w3 (w.heap.size) X Z T (by rw [r1]; rfl)
            have z2 := fun (X Z T : Value) => set3_2' w3 (w.heap.size) X Z T (by rw [r2]; rfl)
            exact bodyPost_ret (v := .tuple #[.agg #[.int .i64 0, .int .i64 0, .slice none 0 0], .int .i64 (0), .int .i64 (ce)]) (by simp [results, Tryz.results15, go_sem, z0, z1, z2]) rfl (parR_bad HV.out (((Bw3.out.setCell (p := ⟨w.heap.size, 0, none⟩) (Nat.le_refl _) _).setCell (p := ⟨w.heap.size, 1, none⟩) (Nat.le_refl _) _).setCell (p := ⟨w.heap.size, 2, none⟩) (Nat.le_refl _) _))
      · have HV : Hid (paE s = (En.zero, (k : Int) + 1, 2)) := Lib.hid (by have h := HINL.out (k + 1) (by rw [← HE.out, if_neg hle]); rw [h]; simp)
        have hle1 : l.isEmpty = false := by cases l <;> simp_all
        have hle2 : (l == []) = false := by cases l <;> simp_all
        clear hle HE
        have r0 : wr.cell? ⟨w.heap.size, 0, none⟩ = some (.int .i64 0) := cur_at Rwr.out rfl
        have r1 : wr.cell? ⟨w.heap.size, 1, none⟩ = some (.int .i64 0) := cur_at Rwr.out rfl
        have r2 : wr.cell? ⟨w.heap.size, 2, none⟩ = some (.slice none 0 0) := cur_at Rwr.out rfl
        have fr : ∀ i, wr.frozen? ⟨w.heap.size, i, none⟩ = false := fun i => by simp [World.frozen?, Rwr.out]
        go_wp2_with fail
        (try simp only [Exit.inBlock, Exit.then])
        have z0 := fun (X Z T : Value) => set3_0' wr (w.heap.size) X Z T (by rw [r0]; rfl)
        have z1 := fun (X Z T : Value) => set3_1' wr (w.heap.size) X Z T (by rw [r1]; rfl)
        have z2 := fun (X Z T : Value) => set3_2' wr (w.heap.size) X Z T (by rw [r2]; rfl)
        exact bodyPost_ret (v := .tuple #[.agg #[.int .i64 0, .int .i64 0, .slice none 0 0], .int .i64 ((k : Int) + 1), .int .i64 (2)]) (by simp [results, Tryz.results15, go_sem, z0, z1, z2]) rfl (parR_bad HV.out (((Bwr.out.setCell (p := ⟨w.heap.size, 0, none⟩) (Nat.le_refl _) _).setCell (p := ⟨w.heap.size, 1, none⟩) (Nat.le_refl _) _).setCell (p := ⟨w.heap.size, 2, none⟩) (Nat.le_refl _) _))
    · have b1 : ((k : Int) == (ls.length : Int) - 1) = false := by rw [beq_eq_false_iff_ne]; omega
      have HE : Hid ((match stepE y (k == 0) (splitC 32 l) with | some y' => goL y' (k + 1 + 1) (ls.drop (k + 1)) | none => .inl (k + 1)) = goL En.zero 1 ls) := Lib.hid (by rw [← HG.out, goL_mid HL.out (by omega)])
      have hk1 : k + 1 < ls.length := by omega
      have HSZ : Hid (∀ (y2 : En), stepE y (k == 0) (splitC 32 l) = some y2 → y2.cs.length ≤ k + 1 ∧ ∀ c ∈ y2.cs, c.lg.length ≤ k + 1) := Lib.hid (fun y2 h => step_sz h hyl HYG.out)
      clear hkl HG
      cases k with
      | zero =>
        have hcw0 : wr.cell? ⟨g, 0, none⟩ = some (.string (S l)) := hcw
        have RD := Lib.hid (fun (WA : Option Addr) (wc : Nat) (w' : World) hW => read66 l encP WA wc w' hW (by decide) hll (fun p hp => (okw_enc p hp).1))
        have b0 : ((0 : Nat) : Int) = 0 := rfl
        have hlsI : 0 < (ls.length : Int) := by omega
        have b1 : ((0 : Int) == (ls.length : Int) - 1) = false := b1
        go_wp2_with fail
        obtain ⟨Z, hZ⟩ : ∃ Z, Z = wr.alloc (.cells (wordsV (wordsOf encP)) 9) := ⟨_, rfl⟩
        have hZ1 : Z.heap[wr.heap.size]? = some (.cells (wordsV (wordsOf encP)) 9 (0, 0)) := by rw [hZ]; exact heap_alloc_new _ _
        have hZb : Below wr.heap.size wr Z := by rw [hZ]; exact (Below.refl _ _).alloc (Nat.le_refl _) _
        rw [show wr.alloc (.cells #[.string ⟨#[101, 110, 99, 111, 117, 110, 116, 101, 114]⟩, .string ⟨#[]⟩, .string ⟨#[]⟩] 9) = Z from hZ.symm]
        clear hZ
        refine (RD.out (some ⟨wr.heap.size, 0, none⟩) 3 Z (InT.of_block hZ1)).mono ?_
        rintro e Y ⟨⟨nv, rfl, hacc⟩, hbY⟩
        have bWY := hZb.trans (hbY.mono hZb.size)
        have sY := bWY.size
        have sr := Bwr.out.size
        have RY := Lib.hid ((bWY.block _ (heap_lt Rwr.out)).trans Rwr.out)
        have LY := Lib.hid ((bWY.block _ (heap_lt Lwr.out)).trans Lwr.out)
        have XY := Lib.hid ((bWY.block _ (heap_lt Xwr.out)).trans Xwr.out)
        have BY := Lib.hid (Bwr.out.trans (bWY.mono sr))
        have PY := Lib.hid (HP.out.below bWY)
        have B2 := Lib.hid (HB.out.trans (bWY.mono (by omega)))
        clear hZ1 hZb hbY bWY hcw hcw0 Rwr Lwr Xwr Bwr HP HB RD
        cases hr : readP encP (splitC 32 l) with
        | none =>
          have HV : Hid (paE s = (En.zero, 1, 2)) := Lib.hid (HINL.out 1 (by rw [← HE.out]; show (match stepE y true _ with | some y2 => _ | none => _) = _; rw [step_first_no (rd2_enc_no hr)]))
          clear hr hacc
          have r0 : Y.cell? ⟨w.heap.size, 0, none⟩ = some (.int .i64 0) := cur_at RY.out rfl
          have r1 : Y.cell? ⟨w.heap.size, 1, none⟩ = some (.int .i64 0) := cur_at RY.out rfl
          have r2 : Y.cell? ⟨w.heap.size, 2, none⟩ = some (.slice none 0 0) := cur_at RY.out rfl
          have fr : ∀ i, Y.frozen? ⟨w.heap.size, i, none⟩ = false := fun i => by simp [World.frozen?, RY.out]
          go_wp2_with fail
          (try simp only [Exit.inBlock, Exit.then])
          have z0 := fun (X Z T : Value) => set3_0' Y (w.heap.size) X Z T (by rw [r0]; rfl)
          have z1 := fun (X Z T : Value) => set3_1' Y (w.heap.size) X Z T (by rw [r1]; rfl)
          have z2 := fun (X Z T : Value) => set3_2' Y (w.heap.size) X Z T (by rw [r2]; rfl)
          exact bodyPost_ret (v := .tuple #[.agg #[.int .i64 0, .int .i64 0, .slice none 0 0], .int .i64 (1), .int .i64 (2)]) (by simp [results, Tryz.results15, go_sem, z0, z1, z2]) rfl (parR_bad HV.out (((BY.out.setCell (p := ⟨w.heap.size, 0, none⟩) (Nat.le_refl _) _).setCell (p := ⟨w.heap.size, 1, none⟩) (Nat.le_refl _) _).setCell (p := ⟨w.heap.size, 2, none⟩) (Nat.le_refl _) _))
        | some ns =>
          obtain ⟨ya, yb, hns⟩ := list2 (show ns.length = 2 by rw [readP_n hr]; rfl)
          have hacc := hacc ns hr
          subst hns
          have HST : Hid (stepE y true (splitC 32 l) = some { y with cy := ya, gr := yb }) := Lib.hid (step_first (rd2_enc hr))
          have hacc : Acc .i64 Y Z.heap.size 3 1 nv 2 [ya, yb] := hacc
          obtain ⟨NA, nc, rfl, hnc, hna⟩ := ownsRow_form hacc
          obtain ⟨gn, rfl, hgn0, hgn, ⟨cu, hcu⟩, hcn⟩ := hna (by omega)
          have k0 : cu[0]? = some (.int .i64 ya) := at_cur hcu (hcn 0 _ rfl)
          have k1 : cu[1]? = some (.int .i64 yb) := at_cur hcu (hcn 1 _ rfl)
          have HCU := Lib.hid hcu
          have hgnH : gn ≠ H := fun e => by rw [e, XY.out] at hcu; injection hcu with e; injection e with _ e _; revert e; decide
          clear hr hacc hna hcn hcu
          go_upto_region 16 with fail
          refine wp_region_held_drew (S := fun w' => w'.heap[gn]? = some (.cells cu 3 (0, 0)) ∧ ∃ a b : Int, w'.heap[H]? = some (.cells #[.int .i64 a, .int .i64 b, v] 24 (0, 0))) (by kernel_rfl) (show _ from ⟨HCU.out, _, _, XY.out⟩) (fun hS => ?_)
          refine wpAnyH_take (i := 0) (v := ?vE1) rfl (by kernel_rfl) (by kernel_rfl) (by kernel_rfl) (fun _ _ _ h => h) (Or.inl ⟨by rfl, ?hE1⟩) hS ?rE1
          case hE1 =>
            intro w1 hSw
            clear hSw
            go_simp
            try with_reducible rfl
          (try simp only [Act.put])
          refine wpAnyH_take (i := 1) (v := ?vE2) rfl (by kernel_rfl) (by kernel_rfl) (by kernel_rfl) (fun _ _ _ h => h) (Or.inl ⟨by rfl, ?hE2⟩) hS ?rE2
          case hE2 =>
            intro w1 hSw
            clear hSw
            go_simp
            try with_reducible rfl
          (try simp only [Act.put])
          refine wpAnyH_take (i := 2) (v := ?vE3) rfl (by kernel_rfl) (by kernel_rfl) (by kernel_rfl) (fun _ _ _ h => h) (Or.inl ⟨by rfl, ?hE3⟩) hS ?rE3
          case hE3 =>
            intro w1 hSw
            have z : w1.cell? ⟨gn, 0, none⟩ = some (.int .i64 ya) := cur_at hSw.1 k0
            clear hSw
            go_simp
            try with_reducible rfl
          (try simp only [Act.put])
          refine wpAnyH_take (i := 3) (v := ?vE4) rfl (by kernel_rfl) (by kernel_rfl) (by kernel_rfl) (fun _ _ _ h => h) (Or.inl ⟨by rfl, ?hE4⟩) hS ?rE4
          case hE4 =>
            intro w1 hSw
            clear hSw
            go_simp
            try with_reducible rfl
          (try simp only [Act.put])
          refine wpAnyH_take (i := 4) (v := ?vE5) rfl (by kernel_rfl) (by kernel_rfl) (by kernel_rfl) (fun _ _ _ h => h) (Or.inl ⟨by rfl, ?hE5⟩) hS ?rE5
          case hE5 =>
            intro w1 hSw
            clear hSw
            go_simp
            try with_reducible rfl
          (try simp only [Act.put])
          refine wpAnyH_take (i := 5) (v := ?vE6) rfl (by kernel_rfl) (by kernel_rfl) (by kernel_rfl) (fun _ _ _ h => h) (Or.inl ⟨by rfl, ?hE6⟩) hS ?rE6
          case hE6 =>
            intro w1 hSw
            have z : w1.cell? ⟨gn, 1, none⟩ = some (.int .i64 yb) := cur_at hSw.1 k1
            clear hSw
            go_simp
            try with_reducible rfl
          (try simp only [Act.put])
          refine wpAnyH_take (i := 6) (v := ?vE7) rfl (by kernel_rfl) (by kernel_rfl) (by kernel_rfl) (fun _ _ _ h => h) (Or.inl ⟨by rfl, ?hE7⟩) hS ?rE7
          case hE7 =>
            intro w1 hSw
            clear hSw
            go_simp
            try with_reducible rfl
          (try simp only [Act.put])
          have HX0 : Hid (Y.drew.heap[H]? = some (.cells #[.int .i64 y.cy, .int .i64 y.gr, v] 24 (0, 0))) := Lib.hid XY.out
          have HN0 : Hid (Y.drew.heap[gn]? = some (.cells cu 3 (0, 0))) := Lib.hid HCU.out
          have HX1 : Hid ((Y.drew.setCell ⟨H, 0, none⟩ (.int .i64 ya)).heap[H]? = some (.cells #[.int .i64 ya, .int .i64 y.gr, v] 24 (0, 0))) := Lib.hid ((setCell_heap _ _ _ _ _ _ _ HX0.out).trans (by simp))
          have HN1 : Hid ((Y.drew.setCell ⟨H, 0, none⟩ (.int .i64 ya)).heap[gn]? = some (.cells cu 3 (0, 0))) := Lib.hid ((set_far _ _ _ _ _ hgnH).trans HN0.out)
          have HX2 : Hid (((Y.drew.setCell ⟨H, 0, none⟩ (.int .i64 ya)).setCell ⟨H, 1, none⟩ (.int .i64 yb)).heap[H]? = some (.cells #[.int .i64 ya, .int .i64 yb, v] 24 (0, 0))) := Lib.hid ((setCell_heap _ _ _ _ _ _ _ HX1.out).trans (by simp))
          have HN2 : Hid (((Y.drew.setCell ⟨H, 0, none⟩ (.int .i64 ya)).setCell ⟨H, 1, none⟩ (.int .i64 yb)).heap[gn]? = some (.cells cu 3 (0, 0))) := Lib.hid ((set_far _ _ _ _ _ hgnH).trans HN1.out)
          have e0 : (Y.drew).cell? ⟨H, 0, none⟩ = some (.int .i64 y.cy) := cur_at HX0.out rfl
          have ef : ∀ i, (Y.drew).frozen? ⟨H, i, none⟩ = false := fun i => by simp [World.frozen?, HX0.out]
          refine wpAnyH_ready (rs := [7]) (by kernel_rfl) (by simp) (AllReadyH.cons rfl (fun K hK => ?_) AllReadyH.nil)
          go_simp
          refine hK.out _ _ (⟨HN1.out, _, _, HX1.out⟩) (fun hS => ?_)
          clear hK K
          clear e0 ef
          refine wpAnyH_ready (rs := [8]) (by kernel_rfl) (by simp) (AllReadyH.cons rfl (fun K hK => ?_) AllReadyH.nil)
          go_simp
          refine hK.out _ _ (⟨HN1.out, _, _, HX1.out⟩) (fun hS => ?_)
          clear hK K
          have e1 : (Y.drew.setCell ⟨H, 0, none⟩ (.int .i64 ya)).cell? ⟨H, 1, none⟩ = some (.int .i64 y.gr) := cur_at HX1.out rfl
          have ef : ∀ i, (Y.drew.setCell ⟨H, 0, none⟩ (.int .i64 ya)).frozen? ⟨H, i, none⟩ = false := fun i => by simp [World.frozen?, HX1.out]
          have e1b : ((Y.setCell ⟨H, 0, none⟩ (.int .i64 ya)).drew).cell? ⟨H, 1, none⟩ = some (.int .i64 y.gr) := e1
          have efb : ∀ i, ((Y.setCell ⟨H, 0, none⟩ (.int .i64 ya)).drew).frozen? ⟨H, i, none⟩ = false := ef
          refine wpAnyH_ready (rs := [9]) (by kernel_rfl) (by simp) (AllReadyH.cons rfl (fun K hK => ?_) AllReadyH.nil)
          go_simp
          refine hK.out _ _ (⟨HN2.out, _, _, HX2.out⟩) (fun hS => ?_)
          clear hK K
          refine wpAnyH_done (by kernel_rfl) ?_ _
          have HW : Hid (((Y.drew.setCell ⟨H, 0, none⟩ (.int .i64 ya)).setCell ⟨H, 1, none⟩ (.int .i64 yb)).heap[H]? = some (.cells #[.int .i64 ya, .int .i64 yb, v] 24 (0, 0))) := Lib.hid (HX2.out)
          go_wp2_with fail
          obtain ⟨z1, z2⟩ := HSZ.out _ HST.out
          have PYd := PY.out.grown (w' := Y.drew) (row := none) ⟨rfl, rfl, rfl, Nat.le_refl _, fun _ _ _ => rfl⟩ (foreign_none _)
          exact ⟨⟨0 + 1, { y with cy := ya, gr := yb }, v, lvs, Bl, hk1, by go_num, Lib.hid (by rw [← HE.out]; show _ = (match stepE y true _ with | some y2 => _ | none => _); rw [HST.out]), z1, z2, (PYd.far HX0.out (by decide) (by decide)).far HX1.out (by decide) (by decide), by simp [World.setCell]; omega, HW.out, by simp [World.setCell]; omega, (B2.out.drew.setCell (p := ⟨H, _, none⟩) (Nat.le_refl _) _).setCell (p := ⟨H, _, none⟩) (Nat.le_refl _) _⟩, by simp [intOf]; omega⟩
      | succ k0 =>
        obtain ⟨k, hk9⟩ : ∃ k, k = k0 + 1 := ⟨_, rfl⟩
        have hkb : ((k : Int) == 0) = false := by rw [beq_eq_false_iff_ne]; omega
        have HE : Hid ((match stepE y false (splitC 32 l) with | some y' => goL y' (k + 1 + 1) (ls.drop (k + 1)) | none => .inl (k + 1)) = goL En.zero 1 ls) := Lib.hid (by rw [hk9]; exact HE.out)
        have HSZ : Hid (∀ (y2 : En), stepE y false (splitC 32 l) = some y2 → y2.cs.length ≤ k + 1 ∧ ∀ c ∈ y2.cs, c.lg.length ≤ k + 1) := Lib.hid (by rw [hk9]; exact HSZ.out)
        rw [← hk9] at hk hyl HYG HL hcl hcw hkI wk1 b1 hk1 ⊢
        clear hk9
        obtain ⟨A9, cap9, rfl, hc9, hin⟩ := HP.out.inCr
        clear hin
        have hcD : wr.drew.cell? ⟨g, k, none⟩ = some (.string (S l)) := hcw
        have AD := Lib.hid (add67 y A9 cap9 lvs Bl (H + 1) l wr.drew hll hsz (HP.out.grown (w' := wr.drew) (row := none) ⟨rfl, rfl, rfl, Nat.le_refl _, fun _ _ _ => rfl⟩ (foreign_none _)) hBl (by omega) (fun c hc => by have := HYG.out c hc; omega))
        have sr := Bwr.out.size
        go_upto_region 17 with fail
        refine wp_region_held_drew (S := fun w' => w'.heap[g]? = some (.cells cur 9 (0, 0)) ∧ (∃ a b u, w'.heap[H]? = some (.cells #[.int .i64 a, .int .i64 b, u] 24 (0, 0)))) (by kernel_rfl) (show _ from ⟨Lwr.out, _, _, _, Xwr.out⟩) (fun hS => ?_)
        refine wpAnyH_take (i := 1) (v := ?vM1) rfl (by kernel_rfl) (by kernel_rfl) (by kernel_rfl) (fun _ _ _ h => h) (Or.inl ⟨by rfl, ?hM1⟩) hS ?rM1
        case hM1 =>
          intro w1 hSw
          clear hSw
          go_simp
          try with_reducible rfl
        (try simp only [Act.put])
        refine wpAnyH_take (i := 2) (v := ?vM2) rfl (by kernel_rfl) (by kernel_rfl) (by kernel_rfl) (fun _ _ _ h => h) (Or.inl ⟨by rfl, ?hM2⟩) hS ?rM2
        case hM2 =>
          intro w1 hSw
          clear hSw
          go_simp
          try with_reducible rfl
        (try simp only [Act.put])
        refine wpAnyH_take (i := 3) (v := ?vM3) rfl (by kernel_rfl) (by kernel_rfl) (by kernel_rfl) (fun _ _ _ h => h) (Or.inl ⟨by rfl, ?hM3⟩) hS ?rM3
        case hM3 =>
          intro w1 hSw
          clear hSw
          go_simp
          try with_reducible rfl
        (try simp only [Act.put])
        refine wpAnyH_take (i := 4) (v := ?vM4) rfl (by kernel_rfl) (by kernel_rfl) (by kernel_rfl) (fun _ _ _ h => h) (Or.inl ⟨by rfl, ?hM4⟩) hS ?rM4
        case hM4 =>
          intro w1 hSw
          have z : w1.cell? ⟨g, k, none⟩ = some (.string (S l)) := cur_at hSw.1 hcl
          clear hSw
          go_simp
          try with_reducible rfl
        (try simp only [Act.put])
        have x0 : wr.drew.cell? ⟨H, 0, none⟩ = some (.int .i64 y.cy) := cur_at Xwr.out rfl
        have x1 : wr.drew.cell? ⟨H, 1, none⟩ = some (.int .i64 y.gr) := cur_at Xwr.out rfl
        have x2 : wr.drew.cell? ⟨H, 2, none⟩ = some (.slice A9 y.cs.length cap9) := cur_at Xwr.out rfl
        refine wpAnyH_ready (rs := [0]) (by kernel_rfl) (by simp) (AllReadyH.cons rfl (fun K hK => ?_) AllReadyH.nil)
        go_simp
        refine hK.out _ _ (hS) (fun hS => ?_)
        clear hK K
        refine wpAnyH_ready (rs := [5]) (by kernel_rfl) (by simp) (AllReadyH.cons rfl (fun K hK => ?_) AllReadyH.nil)
        go_simp
        refine AD.out.mono ?_
        rintro e Y ⟨hYr, hbY⟩
        have HLY := Lib.hid ((hbY.block _ (by omega)).trans Lwr.out)
        have HXY := Lib.hid ((hbY.block _ (by omega)).trans Xwr.out)
        have RY := Lib.hid ((hbY.block _ (by omega)).trans Rwr.out)
        have sY := hbY.size
        have B2 : Hid (Below H w2 Y) := Lib.hid (HB.out.trans (Below.drew (Below.refl _ _) |>.trans (hbY.mono (by omega))))
        have BY : Hid (Below w.heap.size w Y) := Lib.hid (Bwr.out.trans (Below.drew (Below.refl _ _) |>.trans (hbY.mono (by omega))))
        have sY2 : H + 1 ≤ Y.heap.size := Nat.le_trans hsz sY
        clear hbY x0 x1 x2 hcw hcD
        have x0 : Y.cell? ⟨H, 0, none⟩ = some (.int .i64 y.cy) := cur_at HXY.out rfl
        have x1 : Y.cell? ⟨H, 1, none⟩ = some (.int .i64 y.gr) := cur_at HXY.out rfl
        have x2 : Y.cell? ⟨H, 2, none⟩ = some (.slice A9 y.cs.length cap9) := cur_at HXY.out rfl
        have xf : ∀ i, Y.frozen? ⟨H, i, none⟩ = false := fun i => by simp [World.frozen?, HXY.out]
        rcases hYr with ⟨y2, u, lv2, Bl2, hst, rfl, hp2, hBl2⟩ | ⟨hst, ya, yb, A8, n8, cap8, rfl⟩
        · have HP2 := Lib.hid hp2
          obtain ⟨A8, cap8, rfl, -⟩ := ownsRow_form hp2.row
          clear hp2
          obtain ⟨z1, z2⟩ := HSZ.out _ hst
          have HZ2 := Lib.hid z2
          have HE2 : Hid (goL y2 (k + 1 + 1) (ls.drop (k + 1)) = goL En.zero 1 ls) := Lib.hid (by rw [← HE.out, hst])
          clear z2 hst
          refine hK.out _ _ ⟨HLY.out, _, _, _, HXY.out⟩ (fun hS => ?_)
          clear hK K
          have HX3 : Hid ((((Y.setCell ⟨H, 0, none⟩ (.int .i64 y2.cy)).setCell ⟨H, 1, none⟩ (.int .i64 y2.gr)).setCell ⟨H, 2, none⟩ (.slice A8 y2.cs.length cap8)).heap[H]? = some (.cells #[.int .i64 y2.cy, .int .i64 y2.gr, .slice A8 y2.cs.length cap8] 24 (0, 0))) := Lib.hid ((setCell_heap _ _ _ _ _ _ _ (setCell_heap _ _ _ _ _ _ _ (setCell_heap _ _ _ _ _ _ _ HXY.out))).trans (by simp))
          have HL3 : Hid ((((Y.setCell ⟨H, 0, none⟩ (.int .i64 y2.cy)).setCell ⟨H, 1, none⟩ (.int .i64 y2.gr)).setCell ⟨H, 2, none⟩ (.slice A8 y2.cs.length cap8)).heap[g]? = some (.cells cur 9 (0, 0))) := Lib.hid ((set_far _ _ _ _ _ (by omega)).trans ((set_far _ _ _ _ _ (by omega)).trans ((set_far _ _ _ _ _ (by omega)).trans HLY.out)))
          have RW : Hid ((((Y.setCell ⟨H, 0, none⟩ (.int .i64 y2.cy)).setCell ⟨H, 1, none⟩ (.int .i64 y2.gr)).setCell ⟨H, 2, none⟩ (.slice A8 y2.cs.length cap8)).heap[w.heap.size]? = some (.cells #[.int .i64 0, .int .i64 0, .slice none 0 0] 24 (0, 0))) := Lib.hid ((set_far _ _ _ _ _ (by omega)).trans ((set_far _ _ _ _ _ (by omega)).trans ((set_far _ _ _ _ _ (by omega)).trans RY.out)))
          have BW : Hid (Below w.heap.size w (((Y.setCell ⟨H, 0, none⟩ (.int .i64 y2.cy)).setCell ⟨H, 1, none⟩ (.int .i64 y2.gr)).setCell ⟨H, 2, none⟩ (.slice A8 y2.cs.length cap8))) := Lib.hid (((BY.out.setCell (p := ⟨H, 0, none⟩) (Nat.le_of_lt hwH) _).setCell (p := ⟨H, 1, none⟩) (Nat.le_of_lt hwH) _).setCell (p := ⟨H, 2, none⟩) (Nat.le_of_lt hwH) _)
          have B3 : Hid (Below H w2 (((Y.setCell ⟨H, 0, none⟩ (.int .i64 y2.cy)).setCell ⟨H, 1, none⟩ (.int .i64 y2.gr)).setCell ⟨H, 2, none⟩ (.slice A8 y2.cs.length cap8))) := Lib.hid (((B2.out.setCell (p := ⟨H, 0, none⟩) (Nat.le_refl _) _).setCell (p := ⟨H, 1, none⟩) (Nat.le_refl _) _).setCell (p := ⟨H, 2, none⟩) (Nat.le_refl _) _)
          refine wpAnyH_take (i := 6) (v := ?vM5) rfl (by kernel_rfl) (by kernel_rfl) (by kernel_rfl) (fun _ _ _ h => h) (Or.inl ⟨by rfl, ?hM5⟩) hS ?rM5
          case hM5 =>
            intro w1 hSw
            clear hSw
            go_simp
            try with_reducible rfl
          (try simp only [Act.put])
          refine wpAnyH_take (i := 7) (v := ?vM6) rfl (by kernel_rfl) (by kernel_rfl) (by kernel_rfl) (fun _ _ _ h => h) (Or.inl ⟨by rfl, ?hM6⟩) hS ?rM6
          case hM6 =>
            intro w1 hSw
            clear hSw
            go_simp
            try with_reducible rfl
          (try simp only [Act.put])
          refine wpAnyH_take (i := 8) (v := ?vM7) rfl (by kernel_rfl) (by kernel_rfl) (by kernel_rfl) (fun _ _ _ h => h) (Or.inl ⟨by rfl, ?hM7⟩) hS ?rM7
          case hM7 =>
            intro w1 hSw
            clear hSw
            go_simp
            try with_reducible rfl
          (try simp only [Act.put])
          refine wpAnyH_ready (rs := [9]) (by kernel_rfl) (by simp) (AllReadyH.cons rfl (fun K hK => ?_) AllReadyH.nil)
          go_simp
          refine hK.out _ _ (⟨HL3.out, _, _, _, HX3.out⟩) (fun hS => ?_)
          clear hK K
          refine wpAnyH_ready (rs := [10]) (by kernel_rfl) (by simp) (AllReadyH.cons rfl (fun K hK => ?_) AllReadyH.nil)
          go_simp
          refine hK.out _ _ (hS) (fun hS => ?_)
          clear hK K
          refine wpAnyH_done (by kernel_rfl) ?_ _
          obtain ⟨W, hW⟩ : ∃ W, W = ((Y.setCell ⟨H, 0, none⟩ (.int .i64 y2.cy)).setCell ⟨H, 1, none⟩ (.int .i64 y2.gr)).setCell ⟨H, 2, none⟩ (.slice A8 y2.cs.length cap8) := ⟨_, rfl⟩
          rw [← hW] at HX3 HL3 RW BW B3 ⊢
          have HPW : Hid (PS W (H + 1) (.slice A8 y2.cs.length cap8) y2.cs lv2 Bl2) := Lib.hid (by rw [hW]; exact ((HP2.out.far HXY.out (by decide) (by decide)).far (setCell_heap _ _ _ _ _ _ _ HXY.out) (by decide) (by decide)).far (setCell_heap _ _ _ _ _ _ _ (setCell_heap _ _ _ _ _ _ _ HXY.out)) (by decide) (by decide))
          have sW : Y.heap.size ≤ W.heap.size := by rw [hW]; simp [World.setCell]
          clear hW x0 x1 x2 xf
          go_wp2_with fail
          exact ⟨⟨k + 1, y2, .slice A8 y2.cs.length cap8, lv2, Bl2, hk1, by go_num, HE2, z1, HZ2.out, HPW.out, by omega, HX3.out, by omega, B3.out⟩, by simp [intOf]; omega⟩
        · have HV : Hid (paE s = (En.zero, (k : Int) + 1, 2)) := Lib.hid (by have h := HINL.out (k + 1) (by rw [← HE.out, hst]); rw [h]; simp)
          clear hst
          refine hK.out _ _ ⟨HLY.out, _, _, _, HXY.out⟩ (fun hS => ?_)
          clear hK K
          have HX3 : Hid ((((Y.setCell ⟨H, 0, none⟩ (.int .i64 ya)).setCell ⟨H, 1, none⟩ (.int .i64 yb)).setCell ⟨H, 2, none⟩ (.slice A8 n8 cap8)).heap[H]? = some (.cells #[.int .i64 ya, .int .i64 yb, .slice A8 n8 cap8] 24 (0, 0))) := Lib.hid ((setCell_heap _ _ _ _ _ _ _ (setCell_heap _ _ _ _ _ _ _ (setCell_heap _ _ _ _ _ _ _ HXY.out))).trans (by simp))
          have HL3 : Hid ((((Y.setCell ⟨H, 0, none⟩ (.int .i64 ya)).setCell ⟨H, 1, none⟩ (.int .i64 yb)).setCell ⟨H, 2, none⟩ (.slice A8 n8 cap8)).heap[g]? = some (.cells cur 9 (0, 0))) := Lib.hid ((set_far _ _ _ _ _ (by omega)).trans ((set_far _ _ _ _ _ (by omega)).trans ((set_far _ _ _ _ _ (by omega)).trans HLY.out)))
          have RW : Hid ((((Y.setCell ⟨H, 0, none⟩ (.int .i64 ya)).setCell ⟨H, 1, none⟩ (.int .i64 yb)).setCell ⟨H, 2, none⟩ (.slice A8 n8 cap8)).heap[w.heap.size]? = some (.cells #[.int .i64 0, .int .i64 0, .slice none 0 0] 24 (0, 0))) := Lib.hid ((set_far _ _ _ _ _ (by omega)).trans ((set_far _ _ _ _ _ (by omega)).trans ((set_far _ _ _ _ _ (by omega)).trans RY.out)))
          have BW : Hid (Below w.heap.size w (((Y.setCell ⟨H, 0, none⟩ (.int .i64 ya)).setCell ⟨H, 1, none⟩ (.int .i64 yb)).setCell ⟨H, 2, none⟩ (.slice A8 n8 cap8))) := Lib.hid (((BY.out.setCell (p := ⟨H, 0, none⟩) (Nat.le_of_lt hwH) _).setCell (p := ⟨H, 1, none⟩) (Nat.le_of_lt hwH) _).setCell (p := ⟨H, 2, none⟩) (Nat.le_of_lt hwH) _)
          have B3 : Hid (Below H w2 (((Y.setCell ⟨H, 0, none⟩ (.int .i64 ya)).setCell ⟨H, 1, none⟩ (.int .i64 yb)).setCell ⟨H, 2, none⟩ (.slice A8 n8 cap8))) := Lib.hid (((B2.out.setCell (p := ⟨H, 0, none⟩) (Nat.le_refl _) _).setCell (p := ⟨H, 1, none⟩) (Nat.le_refl _) _).setCell (p := ⟨H, 2, none⟩) (Nat.le_refl _) _)
          refine wpAnyH_take (i := 6) (v := ?vM8) rfl (by kernel_rfl) (by kernel_rfl) (by kernel_rfl) (fun _ _ _ h => h) (Or.inl ⟨by rfl, ?hM8⟩) hS ?rM8
          case hM8 =>
            intro w1 hSw
            clear hSw
            go_simp
            try with_reducible rfl
          (try simp only [Act.put])
          refine wpAnyH_take (i := 7) (v := ?vM9) rfl (by kernel_rfl) (by kernel_rfl) (by kernel_rfl) (fun _ _ _ h => h) (Or.inl ⟨by rfl, ?hM9⟩) hS ?rM9
          case hM9 =>
            intro w1 hSw
            clear hSw
            go_simp
            try with_reducible rfl
          (try simp only [Act.put])
          refine wpAnyH_take (i := 8) (v := ?vM10) rfl (by kernel_rfl) (by kernel_rfl) (by kernel_rfl) (fun _ _ _ h => h) (Or.inl ⟨by rfl, ?hM10⟩) hS ?rM10
          case hM10 =>
            intro w1 hSw
            clear hSw
            go_simp
            try with_reducible rfl
          (try simp only [Act.put])
          refine wpAnyH_ready (rs := [9]) (by kernel_rfl) (by simp) (AllReadyH.cons rfl (fun K hK => ?_) AllReadyH.nil)
          go_simp
          refine hK.out _ _ (⟨HL3.out, _, _, _, HX3.out⟩) (fun hS => ?_)
          clear hK K
          refine wpAnyH_ready (rs := [10]) (by kernel_rfl) (by simp) (AllReadyH.cons rfl (fun K hK => ?_) AllReadyH.nil)
          go_simp
          refine hK.out _ _ (hS) (fun hS => ?_)
          clear hK K
          refine wpAnyH_done (by kernel_rfl) ?_ _
          obtain ⟨W, hW⟩ : ∃ W, W = ((Y.setCell ⟨H, 0, none⟩ (.int .i64 ya)).setCell ⟨H, 1, none⟩ (.int .i64 yb)).setCell ⟨H, 2, none⟩ (.slice A8 n8 cap8) := ⟨_, rfl⟩
          rw [← hW] at HX3 HL3 RW BW B3 ⊢
          clear hW x0 x1 x2 xf
          have RW := RW
          have r0 : W.cell? ⟨w.heap.size, 0, none⟩ = some (.int .i64 0) := cur_at RW.out rfl
          have r1 : W.cell? ⟨w.heap.size, 1, none⟩ = some (.int .i64 0) := cur_at RW.out rfl
          have r2 : W.cell? ⟨w.heap.size, 2, none⟩ = some (.slice none 0 0) := cur_at RW.out rfl
          have fr : ∀ i, W.frozen? ⟨w.heap.size, i, none⟩ = false := fun i => by simp [World.frozen?, RW.out]
          go_wp2_with fail
          (try simp only [Exit.inBlock, Exit.then])
          have z0 := fun (X Z T : Value) => set3_0' W (w.heap.size) X Z T (by rw [r0]; rfl)
          have z1 := fun (X Z T : Value) => set3_1' W (w.heap.size) X Z T (by rw [r1]; rfl)
          have z2 := fun (X Z T : Value) => set3_2' W (w.heap.size) X Z T (by rw [r2]; rfl)
          exact bodyPost_ret (v := .tuple #[.agg #[.int .i64 0, .int .i64 0, .slice none 0 0], .int .i64 ((k : Int) + 1), .int .i64 (2)]) (by simp [results, Tryz.results15, go_sem, z0, z1, z2]) rfl (parR_bad HV.out (((BW.out.setCell (p := ⟨w.heap.size, 0, none⟩) (Nat.le_refl _) _).setCell (p := ⟨w.heap.size, 1, none⟩) (Nat.le_refl _) _).setCell (p := ⟨w.heap.size, 2, none⟩) (Nat.le_refl _) _))
end Go.Proofs.YtnnnpliigdfipaaGreatDoor
