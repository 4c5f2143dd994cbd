/- encounter: fields, modes, the scanner's steps. -/
import Derived.Test.YtnnnpliigdfipaaGreatDoorRows
import Derived.WalkKit
import Derived.WalkLawsBesides
import Derived.WalkSpells
import Derived.ProofKit
import Derived.Below
import Derived.Outline
import Derived.Lib.Hide
import Derived.Deep.RegionWith
import Derived.Deep.RegionHeld3
import Derived.Deep.DrawnRows
import Derived.StillTailTactics
import Derived.BigQuiet
import Derived.Deep.QuietTactic
import Derived.Deep.LoopGhost
import Derived.IntWalk
import Derived.Lib.MinMax
import Derived.Deep.WholeRow
import Derived.Deep.MidRow
import Derived.Test.YtnnnpliigdfipaaGreatDoorEnY
import Derived.Test.YtnnnpliigdfipaaGreatDoorEnI
namespace Go.Proofs.YtnnnpliigdfipaaGreatDoor
open Go.RowKit
attribute [local go_sem ↓] Go.wp_at_zero Go.wp_at_succ
attribute [local go_sem] wrap_lit
theorem field0 (g : Nat) (w : World) : Calls Tryz.prog 125 #[.pointer (some ⟨g, 0, none⟩)] w fun e w' => e = .returned (.pointer (some ⟨g, 0, none⟩)) ∧ w = w' := by
  go_enter Tryz.func125, Tryz.ntmps125
  go_wp2_with fail
  go_ret
  exact ⟨rfl, rfl⟩
theorem field1 (g : Nat) (w : World) : Calls Tryz.prog 126 #[.pointer (some ⟨g, 0, none⟩)] w fun e w' => e = .returned (.pointer (some ⟨g, 1, none⟩)) ∧ w = w' := by
  go_enter Tryz.func126, Tryz.ntmps126
  go_wp2_with fail
  go_ret
  exact ⟨rfl, rfl⟩
theorem field2 (g : Nat) (w : World) : Calls Tryz.prog 127 #[.pointer (some ⟨g, 0, none⟩)] w fun e w' => e = .returned (.pointer (some ⟨g, 2, none⟩)) ∧ w = w' := by
  go_enter Tryz.func127, Tryz.ntmps127
  go_wp2_with fail
  go_ret
  exact ⟨rfl, rfl⟩
theorem field3 (g : Nat) (w : World) : Calls Tryz.prog 128 #[.pointer (some ⟨g, 0, none⟩)] w fun e w' => e = .returned (.pointer (some ⟨g, 3, none⟩)) ∧ w = w' := by
  go_enter Tryz.func128, Tryz.ntmps128
  go_wp2_with fail
  go_ret
  exact ⟨rfl, rfl⟩
theorem field4 (g : Nat) (w : World) : Calls Tryz.prog 129 #[.pointer (some ⟨g, 0, none⟩)] w fun e w' => e = .returned (.pointer (some ⟨g, 4, none⟩)) ∧ w = w' := by
  go_enter Tryz.func129, Tryz.ntmps129
  go_wp2_with fail
  go_ret
  exact ⟨rfl, rfl⟩
theorem field5 (g : Nat) (w : World) : Calls Tryz.prog 130 #[.pointer (some ⟨g, 0, none⟩)] w fun e w' => e = .returned (.pointer (some ⟨g, 5, none⟩)) ∧ w = w' := by
  go_enter Tryz.func130, Tryz.ntmps130
  go_wp2_with fail
  go_ret
  exact ⟨rfl, rfl⟩
theorem field6 (g : Nat) (w : World) : Calls Tryz.prog 131 #[.pointer (some ⟨g, 0, none⟩)] w fun e w' => e = .returned (.pointer (some ⟨g, 6, none⟩)) ∧ w = w' := by
  go_enter Tryz.func131, Tryz.ntmps131
  go_wp2_with fail
  go_ret
  exact ⟨rfl, rfl⟩
theorem field7 (g : Nat) (w : World) : Calls Tryz.prog 132 #[.pointer (some ⟨g, 0, none⟩)] w fun e w' => e = .returned (.pointer (some ⟨g, 7, none⟩)) ∧ w = w' := by
  go_enter Tryz.func132, Tryz.ntmps132
  go_wp2_with fail
  go_ret
  exact ⟨rfl, rfl⟩
theorem field8 (g : Nat) (w : World) : Calls Tryz.prog 133 #[.pointer (some ⟨g, 0, none⟩)] w fun e w' => e = .returned (.pointer (some ⟨g, 10, none⟩)) ∧ w = w' := by
  go_enter Tryz.func133, Tryz.ntmps133
  go_wp2_with fail
  go_ret
  exact ⟨rfl, rfl⟩
theorem field9 (g : Nat) (w : World) : Calls Tryz.prog 134 #[.pointer (some ⟨g, 0, none⟩)] w fun e w' => e = .returned (.pointer (some ⟨g, 11, none⟩)) ∧ w = w' := by
  go_enter Tryz.func134, Tryz.ntmps134
  go_wp2_with fail
  go_ret
  exact ⟨rfl, rfl⟩
theorem field10 (g : Nat) (w : World) : Calls Tryz.prog 135 #[.pointer (some ⟨g, 0, none⟩)] w fun e w' => e = .returned (.pointer (some ⟨g, 12, none⟩)) ∧ w = w' := by
  go_enter Tryz.func135, Tryz.ntmps135
  go_wp2_with fail
  go_ret
  exact ⟨rfl, rfl⟩
theorem there_new (w : World) (Z : Array Value) (T : TypeId) (n : Nat) (h : Z.size = n) : (w.alloc (.cells Z T)).there w.heap.size 0 n := fun j hj => by
  rw [Nat.zero_add, World.cell?_alloc_new, World.frozen?_alloc_new]
  exact ⟨by rw [Array.getElem?_eq_getElem (by omega)]; rfl, rfl⟩
theorem setCells_new (w : World) (t : TypeId) (c c' : Array Value) (hi : (Tryz.prog.info? t).map (·.size) = some c'.size) (ho : c.size = c'.size) (h1 : c'.all (·.oneCell') = true) : (w.alloc (.cells c t)).setCells w.heap.size 0 c'.toList = w.alloc (.cells c' t) := by
  have e1 := run_storeVar_new (P := Tryz.prog) w t c c' hi ho h1
  have e2 := run_storeVar_mid (P := Tryz.prog) (w.alloc (.cells c t)) w.heap.size 0 t c' (there_new _ _ _ _ ho) hi h1
  have e4 := e1.symm.trans e2
  exact (Result.ok.inj e4).2.symm
theorem results_cell {fn : Func} {s : Tmp} {t : TypeId} {P : Program} {w : World} {b : Nat} {v : Value} {tmps : Array Value} (h : fn.results = #[.cell s t]) (hp : tmps[s]?.getD undef = .pointer (some ⟨b, 0, none⟩)) (hl : (loadVar t ⟨b, 0, none⟩).run P w = .ok v w) : (results fn tmps).run P w = .ok v w := by
  simp [results, h, hp, asAddr, hl]
set_option maxHeartbeats 2000000 in
theorem fields92 (w : World) : Calls Tryz.prog 92 #[] w fun e w' => e = .returned (.agg #[.string ⟨#[99, 114, 97, 102, 116]⟩, .func (.func 125) #[] #[], .string ⟨#[97, 116]⟩, .func (.func 126) #[] #[], .string ⟨#[]⟩, .func (.func 127) #[] #[], .string ⟨#[]⟩, .func (.func 128) #[] #[], .string ⟨#[109, 111, 118, 105, 110, 103]⟩, .func (.func 129) #[] #[], .string ⟨#[]⟩, .func (.func 130) #[] #[], .string ⟨#[]⟩, .func (.func 131) #[] #[], .string ⟨#[112, 117, 108, 108]⟩, .func (.func 132) #[] #[], .string ⟨#[109, 111, 100, 101, 32, 112, 105, 108, 111, 116]⟩, .func (.func 133) #[] #[], .string ⟨#[]⟩, .func (.func 134) #[] #[], .string ⟨#[]⟩, .func (.func 135) #[] #[]]) ∧ Below w.heap.size w w' := by
  go_enter Tryz.func92, Tryz.ntmps92
  iterate 47 go_step
  refine wpList_store_mid rfl 122 (.tmp 0) (.tmp 12) rfl w.heap.size 0 #[.string ⟨#[99, 114, 97, 102, 116]⟩, .func (.func 125) #[] #[], .string ⟨#[97, 116]⟩, .func (.func 126) #[] #[], .string ⟨#[]⟩, .func (.func 127) #[] #[], .string ⟨#[]⟩, .func (.func 128) #[] #[], .string ⟨#[109, 111, 118, 105, 110, 103]⟩, .func (.func 129) #[] #[], .string ⟨#[]⟩, .func (.func 130) #[] #[], .string ⟨#[]⟩, .func (.func 131) #[] #[], .string ⟨#[112, 117, 108, 108]⟩, .func (.func 132) #[] #[], .string ⟨#[109, 111, 100, 101, 32, 112, 105, 108, 111, 116]⟩, .func (.func 133) #[] #[], .string ⟨#[]⟩, .func (.func 134) #[] #[], .string ⟨#[]⟩, .func (.func 135) #[] #[]] rfl rfl ?_ (by kernel_rfl) (by kernel_rfl) ?_
  · exact there_new _ _ _ _ rfl
  rw [setCells_new w 122 #[.string ⟨#[]⟩, .nilFunc, .string ⟨#[]⟩, .nilFunc, .string ⟨#[]⟩, .nilFunc, .string ⟨#[]⟩, .nilFunc, .string ⟨#[]⟩, .nilFunc, .string ⟨#[]⟩, .nilFunc, .string ⟨#[]⟩, .nilFunc, .string ⟨#[]⟩, .nilFunc, .string ⟨#[]⟩, .nilFunc, .string ⟨#[]⟩, .nilFunc, .string ⟨#[]⟩, .nilFunc] #[.string ⟨#[99, 114, 97, 102, 116]⟩, .func (.func 125) #[] #[], .string ⟨#[97, 116]⟩, .func (.func 126) #[] #[], .string ⟨#[]⟩, .func (.func 127) #[] #[], .string ⟨#[]⟩, .func (.func 128) #[] #[], .string ⟨#[109, 111, 118, 105, 110, 103]⟩, .func (.func 129) #[] #[], .string ⟨#[]⟩, .func (.func 130) #[] #[], .string ⟨#[]⟩, .func (.func 131) #[] #[], .string ⟨#[112, 117, 108, 108]⟩, .func (.func 132) #[] #[], .string ⟨#[109, 111, 100, 101, 32, 112, 105, 108, 111, 116]⟩, .func (.func 133) #[] #[], .string ⟨#[]⟩, .func (.func 134) #[] #[], .string ⟨#[]⟩, .func (.func 135) #[] #[]] (by kernel_rfl) rfl (by kernel_rfl)]
  go_wp2_with fail
  (try simp only [Exit.inBlock, Exit.then])
  exact bodyPost_ret (v := .agg #[.string ⟨#[99, 114, 97, 102, 116]⟩, .func (.func 125) #[] #[], .string ⟨#[97, 116]⟩, .func (.func 126) #[] #[], .string ⟨#[]⟩, .func (.func 127) #[] #[], .string ⟨#[]⟩, .func (.func 128) #[] #[], .string ⟨#[109, 111, 118, 105, 110, 103]⟩, .func (.func 129) #[] #[], .string ⟨#[]⟩, .func (.func 130) #[] #[], .string ⟨#[]⟩, .func (.func 131) #[] #[], .string ⟨#[112, 117, 108, 108]⟩, .func (.func 132) #[] #[], .string ⟨#[109, 111, 100, 101, 32, 112, 105, 108, 111, 116]⟩, .func (.func 133) #[] #[], .string ⟨#[]⟩, .func (.func 134) #[] #[], .string ⟨#[]⟩, .func (.func 135) #[] #[]]) (results_cell Tryz.results92 rfl (run_loadVar_new w 122 _ 11 _ Tryz.underlying122 (by kernel_rfl))) rfl ⟨rfl, (Below.refl _ _).alloc (Nat.le_refl _) _⟩
theorem modes93 (w : World) : Calls Tryz.prog 93 #[] w fun e w' => e = .returned (.slice (some ⟨w.heap.size, 0, none⟩) 3 3) ∧ w.alloc (.cells (wordsV [w_none, w_tables, w_rules]) 9) = w' := by
  go_enter Tryz.func93, Tryz.ntmps93
  go_wp2_with fail
  go_ret
  exact ⟨rfl, rfl⟩
theorem drop_tail {α : Type} (l : List α) (k : Nat) : (l.drop k).tail = l.drop (k + 1) := by rw [List.tail_drop]
theorem drop_head (ws : List Tx) (k : Nat) : (ws.drop k).headD [] = ws.getD k [] := by
  rw [List.headD_eq_head?_getD, List.head?_drop, List.getD_eq_getElem?_getD]
theorem drop_emp (ws : List Tx) (k : Nat) : (ws.drop k).isEmpty = decide (ws.length ≤ k) := by
  rw [Bool.eq_iff_iff, List.isEmpty_iff, List.drop_eq_nil_iff, decide_eq_true_iff]
theorem nextD (B b : Nat) (ws : List Tx) (k : Nat) (bad : Bool) (w : World) (h : Sc B w b (ws.drop k) bad) (hl : ws.length ≤ 100000) : Calls Tryz.prog 103 #[.pointer (some ⟨b, 0, none⟩)] w fun e w' => e = .returned (.string (S (ws.getD k []))) ∧ (∃ bad', Sc B w' b (ws.drop (k + 1)) bad' ∧ Hid (bad' = false ↔ bad = false ∧ k < ws.length)) ∧ w.grownBy w' (some b) := by
  refine (next103 B b (ws.drop k) bad w h (by simp; omega)).mono ?_
  rintro e w' ⟨rfl, h1, h2⟩
  rw [drop_head]
  rw [drop_tail, drop_emp] at h1
  exact ⟨rfl, ⟨_, h1, Lib.hid (by cases bad <;> simp)⟩, h2⟩
theorem wordD (B b : Nat) (ws : List Tx) (k : Nat) (bad : Bool) (v : Tx) (w : World) (h : Sc B w b (ws.drop k) bad) (hl : ws.length ≤ 100000) : Calls Tryz.prog 99 #[.pointer (some ⟨b, 0, none⟩), .string (S v)] w fun e w' => e = .returned (.tuple #[]) ∧ (∃ bad', Sc B w' b (ws.drop (k + 1)) bad' ∧ Hid (bad' = false ↔ bad = false ∧ k < ws.length ∧ ws.getD k [] = v)) ∧ w.grownBy w' (some b) := by
  refine (word99 B b (ws.drop k) bad v w h (by simp; omega)).mono ?_
  rintro e w' ⟨rfl, h1, h2⟩
  rw [drop_tail, drop_emp, drop_head] at h1
  exact ⟨rfl, ⟨_, h1, Lib.hid (by cases bad <;> simp)⟩, h2⟩
theorem numD (K B b : Nat) (ws : List Tx) (k : Nat) (bad : Bool) (w : World) (E : Env K w) (h : Sc B w b (ws.drop k) bad) (hK : K ≤ b) (hl : ws.length ≤ 100000) (hw : ∀ x ∈ ws, x.length ≤ 100000) : Calls Tryz.prog 100 #[.pointer (some ⟨b, 0, none⟩)] w fun e w' => e = .returned (.int .i64 ((numO (ws.getD k [])).getD 0)) ∧ (∃ bad', Sc B w' b (ws.drop (k + 1)) bad' ∧ Hid (bad' = false ↔ bad = false ∧ (numO (ws.getD k [])).isSome = true)) ∧ w.grownBy w' (some b) := by
  refine (number100 K B b (ws.drop k) bad w E h hK (by simp; omega) (fun x hx => hw x (List.mem_of_mem_drop hx))).mono ?_
  rintro e w' ⟨rfl, h1, h2⟩
  rw [drop_head] at h1 ⊢
  rw [drop_tail] at h1
  refine ⟨rfl, ⟨_, h1, Lib.hid ?_⟩, h2⟩
  cases bad <;> cases numO (ws.getD k []) <;> simp
theorem doneD (B b : Nat) (ws : List Tx) (k : Nat) (bad : Bool) (w : World) (h : Sc B w b (ws.drop k) bad) (hl : ws.length ≤ 100000) : Calls Tryz.prog 101 #[.pointer (some ⟨b, 0, none⟩)] w fun e w' => e = .returned (.bool (!bad && decide (ws.length ≤ k))) ∧ w = w' := by
  refine (done101 B b (ws.drop k) bad w h (by simp; omega)).mono ?_
  rintro e w' ⟨rfl, h1⟩
  rw [drop_emp]
  exact ⟨rfl, h1⟩
end Go.Proofs.YtnnnpliigdfipaaGreatDoor
