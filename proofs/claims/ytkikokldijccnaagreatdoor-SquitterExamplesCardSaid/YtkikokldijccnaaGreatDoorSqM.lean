/- squitter: the sorted keys of the map. -/
import Derived.Test.YtkikokldijccnaaGreatDoorRows
import Derived.WalkKit
import Derived.WalkLawsBesides
import Derived.WalkSpells
import Derived.ProofKit
import Derived.Below
import Derived.Outline
import Derived.Lib.Hide
import Derived.Deep.RegionWith
import Derived.Deep.RegionHeld3
import Derived.Deep.DrawnRows
import Derived.StillTailTactics
import Derived.BigQuiet
import Derived.Deep.QuietTactic
import Derived.Deep.LoopGhost
import Derived.IntWalk
import Derived.Shelf.SlIterI.Nil
import Derived.Test.YtkikokldijccnaaGreatDoorSqL
namespace Go.Proofs.YtkikokldijccnaaGreatDoor
open Go.RowKit Go.Maps Go.Sort Go.Shelf
attribute [local go_sem ↓] Go.wp_at_zero Go.wp_at_succ
attribute [local go_sem] wrap_lit
theorem sortsA (m : Nat) : AnyZI.SortsIn Tryz.prog Tryz.sortedA_ren Fence.wide m :=
  ⟨fun blk off cap ss W hH hblk hsz => callsIn_wide.2 (AnyM.slices_Sort_int Tryz.sortA blk off cap ss W hH hblk hsz),
   fun p cap W => callsIn_wide.2 (AnyM.slices_Sort_int_none Tryz.sortA p cap W)⟩
theorem keys40 (mb : Nat) (w : World) : Calls Tryz.prog 24 #[.map (some mb)] w fun e w' => e = .returned (.func (.func 36) #[] #[.pointer (some ⟨w.heap.size, 0, none⟩)]) ∧ w' = w.alloc (.cells #[.map (some mb)] 34) :=
  (callsIn_wide (n := 5)).1 (AnyZI.keys_in Tryz.keysA Fence.wide 5 trivial rfl (some mb) w)
theorem enc_intKeys (bk : Int → Nat) (es : List (Int × Tk)) : intKeys (DataW.map (encE bk es)) = es.map Prod.fst := by
  simp [intKeys, encE, enc1, Function.comp_def, Go.intOf]
theorem sorted39 {w : World} {mb : Nat} {es : List (Int × Tk)} {bk : Int → Nat} (h : OwnT w mb es bk) (ha : Asc es) (hl : es.length ≤ 1000) : Calls Tryz.prog 23 #[.func (.func 36) #[] #[.pointer (some ⟨w.heap.size, 0, none⟩)]] (w.alloc (.cells #[.map (some mb)] 34)) fun e w' => ∃ v, e = .returned v ∧ Acc .i64 w' (w.heap.size + 1) 3 1 v es.length (es.map Prod.fst) ∧ Below (w.heap.size + 1) (w.alloc (.cells #[.map (some mb)] 34)) w' := by
  have hseq : SeqGives Fence.wide 2 Tryz.prog 36 #[.pointer (some ⟨w.heap.size, 0, none⟩)] encZ (fun ss => ss.Perm (intKeys (DataW.map (encE bk es)))) (Maps.size (DataW.map (encE bk es))) (w.alloc (.cells #[.map (some mb)] 34)) :=
    AnyZI.keys_gives (ρ := Tryz.keysA_ren) { Tryz.keysA with } Fence.wide _ trivial rfl (by omega) w.heap.size mb 1000 _ _ (by simp) (by simp) (World.ownsMap.alloc h _)
  have hsz : Maps.size (DataW.map (encE bk es)) = es.length := enc_size bk es
  have cS := AnyZI.sorted_in Tryz.sortedA Fence.wide 5 trivial trivial trivial trivial rfl (by omega) (sortsA _) (enters_of Tryz.func32 (by kernel_rfl) rfl) 36 #[.pointer (some ⟨w.heap.size, 0, none⟩)] trivial (enters_of Tryz.func36 (by kernel_rfl) rfl) _ _ (by rw [hsz]; unfold maxLen; omega) (by rw [hsz]; omega) _ hseq
  change CallsIn _ _ Tryz.prog 23 _ _ _ at cS
  refine ((callsIn_wide (n := 5)).1 cS).mono ?_
  rintro e w' ⟨v, ss, rfl, hp, hrow, _, hb⟩
  have hs : (w.alloc (.cells #[.map (some mb)] 34)).heap.size = w.heap.size + 1 := by simp
  rw [enc_intKeys] at hp
  rw [sort_perm hp ha.keys, hp.length_eq, List.length_map, hs] at hrow
  rw [hs] at hb
  exact ⟨v, rfl, hrow, hb⟩
end Go.Proofs.YtkikokldijccnaaGreatDoor
