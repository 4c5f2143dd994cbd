/- squitter: awake. -/
import Derived.Test.YtkikokldijccnaaGreatDoorRows
import Derived.WalkKit
import Derived.WalkLawsBesides
import Derived.WalkSpells
import Derived.ProofKit
import Derived.Below
import Derived.Outline
import Derived.Lib.Hide
import Derived.Deep.RegionWith
import Derived.Deep.RegionHeld3
import Derived.Deep.DrawnRows
import Derived.StillTailTactics
import Derived.BigQuiet
import Derived.Deep.QuietTactic
import Derived.Deep.LoopGhost
import Derived.IntWalk
import Derived.BigQuiet
import Derived.Test.YtkikokldijccnaaGreatDoorSqO
namespace Go.Proofs.YtkikokldijccnaaGreatDoor
open Go.RowKit Go.Maps
attribute [local go_sem ↓] Go.wp_at_zero Go.wp_at_succ
attribute [local go_sem] wrap_lit
set_option maxRecDepth 100000 in
set_option maxHeartbeats 4000000 in
theorem awake10 {K : Nat} {w : World} (E : Env K w) (hK : K ≤ w.heap.size) : Calls Tryz.prog 4 #[] w fun e w' => e = .returned (.bool true) ∧ Below w.heap.size w w' := by
  go_enter Tryz.func4, Tryz.ntmps4
  go_wp2_with fail
  refine (new8 2 3 5 w).mono ?_
  rintro e wa (⟨-, H1, mb1, bk1, gk1, O1, rfl, T1, n1, b1⟩ | ⟨hh, -, -⟩)
  rotate_left
  · exact absurd hh (by decide)
  have HT1 := Lib.hid T1
  have hsa := b1.size
  clear T1
  go_wp2_with fail
  refine (new8 2 3 5 wa).mono ?_
  rintro e w0 (⟨-, H2, mb2, bk2, gk2, O2, rfl, T2, n2, b2⟩ | ⟨hh, -, -⟩)
  rotate_left
  · exact absurd hh (by decide)
  have SS : Hid (St2 w.heap.size w w0 (fun _ => False) H1 (⟨2, 3, 5, 0, []⟩ : Ts) H2 (⟨2, 3, 5, 0, []⟩ : Ts)) := Lib.hid (St2.made ⟨_, _, _, HT1.out⟩ n1 b1 (Ok.new (by decide)) ⟨_, _, _, T2⟩ n2 b2 (Ok.new (by decide)))
  clear T2 n1 n2 b1 b2 HT1
  have np : ∀ (H : Nat) (w : World), Sem.run Tryz.prog (binOp BinOp.eql 27 (Value.pointer (some ⟨H, 0, none⟩)) (Value.pointer none)) w = .ok (.bool false) w := fun H w => by kernel_rfl
  go_wp2_with fail
  refine (heardA SS.out 7 1).mono ?_
  rintro e w1 ⟨rfl, hS, hk⟩
  rw [show hearE (⟨2, 3, 5, 0, []⟩ : Ts) 7 1 = 0 from by kernel_rfl]
  rw [show hearT (⟨2, 3, 5, 0, []⟩ : Ts) 7 1 = (⟨2, 3, 5, 1, [(7, ⟨false, [1]⟩)]⟩ : Ts) from by kernel_rfl] at hS
  have SS := Lib.hid hS
  clear hS hk
  go_wp2_with fail
  refine (pendA SS.out).mono ?_
  rintro e w2 ⟨raA, rac, rfl, hra, -, hS, hb⟩
  have Fra := Lib.hid hra
  have SS := Lib.hid hS
  clear hS hb hra
  rw [show addrsT _ false = [7] from by kernel_rfl] at Fra
  rw [show addrsT _ false = [7] from by kernel_rfl]
  go_wp2_with fail
  refine (heardA SS.out 7 2).mono ?_
  rintro e w3 ⟨rfl, hS, hk⟩
  rw [show hearE (⟨2, 3, 5, 1, [(7, ⟨false, [1]⟩)]⟩ : Ts) 7 2 = 0 from by kernel_rfl]
  rw [show hearT (⟨2, 3, 5, 1, [(7, ⟨false, [1]⟩)]⟩ : Ts) 7 2 = (⟨2, 3, 5, 2, [(7, ⟨true, [1, 2]⟩)]⟩ : Ts) from by kernel_rfl] at hS
  have Fra := Lib.hid (Fra.out.keep (fun _ h => h) hk)
  have SS := Lib.hid hS
  clear hS hk
  go_wp2_with fail
  refine (knownA SS.out).mono ?_
  rintro e w4 ⟨rbA, rbc, rfl, hrb, -, hS, hb⟩
  have Fra := Lib.hid (Fra.out.below SS.out.lt hb)
  have Frb := Lib.hid hrb
  have SS := Lib.hid hS
  clear hS hb hrb
  rw [show addrsT _ true = [7] from by kernel_rfl] at Frb
  rw [show addrsT _ true = [7] from by kernel_rfl]
  go_wp2_with fail
  refine (saveA E hK SS.out).mono ?_
  rintro e w5 ⟨rfl, hS, hb⟩
  have Fra := Lib.hid (Fra.out.below SS.out.lt hb)
  have Frb := Lib.hid (Frb.out.below SS.out.lt hb)
  have SS := Lib.hid hS
  clear hS hb
  rw [show S (saveT (⟨2, 3, 5, 2, [(7, ⟨true, [1, 2]⟩)]⟩ : Ts)) = (⟨#[50, 32, 51, 32, 53, 32, 50, 10, 55, 32, 49, 32, 49, 32, 50, 10]⟩ : ByteArray) from by rw [show saveT (⟨2, 3, 5, 2, [(7, ⟨true, [1, 2]⟩)]⟩ : Ts) = (#[50, 32, 51, 32, 53, 32, 50, 10, 55, 32, 49, 32, 49, 32, 50, 10] : Array UInt8).toList from by decide +kernel]]
  go_wp2_with fail
  refine (tickA SS.out 6).mono ?_
  rintro e w6 ⟨rfl, hS, hk⟩
  rw [show tickE (⟨2, 3, 5, 2, [(7, ⟨true, [1, 2]⟩)]⟩ : Ts) 6 = 0 from by kernel_rfl]
  rw [show tickT (⟨2, 3, 5, 2, [(7, ⟨true, [1, 2]⟩)]⟩ : Ts) 6 = (⟨2, 3, 5, 6, [(7, ⟨true, [2]⟩)]⟩ : Ts) from by kernel_rfl] at hS
  have Fra := Lib.hid (Fra.out.keep (fun _ h => h) hk)
  have Frb := Lib.hid (Frb.out.keep (fun _ h => h) hk)
  have SS := Lib.hid hS
  clear hS hk
  go_wp2_with fail
  refine (knownA SS.out).mono ?_
  rintro e w7 ⟨rcA, rcc, rfl, hrc, -, hS, hb⟩
  have Fra := Lib.hid (Fra.out.below SS.out.lt hb)
  have Frb := Lib.hid (Frb.out.below SS.out.lt hb)
  have Frc := Lib.hid hrc
  have SS := Lib.hid hS
  clear hS hb hrc
  rw [show addrsT _ true = [7] from by kernel_rfl] at Frc
  rw [show addrsT _ true = [7] from by kernel_rfl]
  go_wp2_with fail
  refine (saveA E hK SS.out).mono ?_
  rintro e w8 ⟨rfl, hS, hb⟩
  have Fra := Lib.hid (Fra.out.below SS.out.lt hb)
  have Frb := Lib.hid (Frb.out.below SS.out.lt hb)
  have Frc := Lib.hid (Frc.out.below SS.out.lt hb)
  have SS := Lib.hid hS
  clear hS hb
  rw [show S (saveT (⟨2, 3, 5, 6, [(7, ⟨true, [2]⟩)]⟩ : Ts)) = (⟨#[50, 32, 51, 32, 53, 32, 54, 10, 55, 32, 49, 32, 50, 10]⟩ : ByteArray) from by rw [show saveT (⟨2, 3, 5, 6, [(7, ⟨true, [2]⟩)]⟩ : Ts) = (#[50, 32, 51, 32, 53, 32, 54, 10, 55, 32, 49, 32, 50, 10] : Array UInt8).toList from by decide +kernel]]
  go_wp2_with fail
  refine (heardA SS.out 9 1).mono ?_
  rintro e w9 ⟨rfl, hS, hk⟩
  rw [show hearE (⟨2, 3, 5, 6, [(7, ⟨true, [2]⟩)]⟩ : Ts) 9 1 = 12 from by kernel_rfl]
  rw [show hearT (⟨2, 3, 5, 6, [(7, ⟨true, [2]⟩)]⟩ : Ts) 9 1 = (⟨2, 3, 5, 6, [(7, ⟨true, [2]⟩)]⟩ : Ts) from by kernel_rfl] at hS
  have Fra := Lib.hid (Fra.out.keep (fun _ h => h) hk)
  have Frb := Lib.hid (Frb.out.keep (fun _ h => h) hk)
  have Frc := Lib.hid (Frc.out.keep (fun _ h => h) hk)
  have SS := Lib.hid hS
  clear hS hk
  go_wp2_with fail
  refine (tickA SS.out 7).mono ?_
  rintro e w10 ⟨rfl, hS, hk⟩
  rw [show tickE (⟨2, 3, 5, 6, [(7, ⟨true, [2]⟩)]⟩ : Ts) 7 = 0 from by kernel_rfl]
  rw [show tickT (⟨2, 3, 5, 6, [(7, ⟨true, [2]⟩)]⟩ : Ts) 7 = (⟨2, 3, 5, 7, []⟩ : Ts) from by kernel_rfl] at hS
  have Fra := Lib.hid (Fra.out.keep (fun _ h => h) hk)
  have Frb := Lib.hid (Frb.out.keep (fun _ h => h) hk)
  have Frc := Lib.hid (Frc.out.keep (fun _ h => h) hk)
  have SS := Lib.hid hS
  clear hS hk
  go_wp2_with fail
  refine (knownA SS.out).mono ?_
  rintro e w11 ⟨rdA, rdc, rfl, hrd, -, hS, hb⟩
  have Fra := Lib.hid (Fra.out.below SS.out.lt hb)
  have Frb := Lib.hid (Frb.out.below SS.out.lt hb)
  have Frc := Lib.hid (Frc.out.below SS.out.lt hb)
  have Frd := Lib.hid hrd
  have SS := Lib.hid hS
  clear hS hb hrd
  rw [show addrsT _ true = ([] : List Int) from by kernel_rfl] at Frd
  rw [show addrsT _ true = ([] : List Int) from by kernel_rfl]
  have SS := Lib.hid SS.out.swap
  go_wp2_with fail
  refine (heardA SS.out 7 1).mono ?_
  rintro e w12 ⟨rfl, hS, hk⟩
  rw [show hearE (⟨2, 3, 5, 0, []⟩ : Ts) 7 1 = 0 from by kernel_rfl]
  rw [show hearT (⟨2, 3, 5, 0, []⟩ : Ts) 7 1 = (⟨2, 3, 5, 1, [(7, ⟨false, [1]⟩)]⟩ : Ts) from by kernel_rfl] at hS
  have Fra := Lib.hid (Fra.out.keep (fun _ h => h) hk)
  have Frb := Lib.hid (Frb.out.keep (fun _ h => h) hk)
  have Frc := Lib.hid (Frc.out.keep (fun _ h => h) hk)
  have SS := Lib.hid hS
  clear hS hk
  go_wp2_with fail
  refine (heardA SS.out 7 4).mono ?_
  rintro e w13 ⟨rfl, hS, hk⟩
  rw [show hearE (⟨2, 3, 5, 1, [(7, ⟨false, [1]⟩)]⟩ : Ts) 7 4 = 0 from by kernel_rfl]
  rw [show hearT (⟨2, 3, 5, 1, [(7, ⟨false, [1]⟩)]⟩ : Ts) 7 4 = (⟨2, 3, 5, 4, [(7, ⟨false, [4]⟩)]⟩ : Ts) from by kernel_rfl] at hS
  have Fra := Lib.hid (Fra.out.keep (fun _ h => h) hk)
  have Frb := Lib.hid (Frb.out.keep (fun _ h => h) hk)
  have Frc := Lib.hid (Frc.out.keep (fun _ h => h) hk)
  have SS := Lib.hid hS
  clear hS hk
  go_wp2_with fail
  have hS := SS.out.below (below_alloc1 w13 (.cells #[.int .i64 7] 3))
  have hb := below_alloc1 w13 (.cells #[.int .i64 7] 3)
  have Fra := Lib.hid (Fra.out.below SS.out.lt hb)
  have Frb := Lib.hid (Frb.out.below SS.out.lt hb)
  have Frc := Lib.hid (Frc.out.below SS.out.lt hb)
  have SS := Lib.hid hS
  clear hS hb
  refine (equalA Fra.out (FOwn.one w13 (fun _ => False) 7) (by simp) rac 1).mono ?_
  rintro e w14 ⟨rfl, hb⟩
  rw [show decide ([(7 : Int)] = [7]) = true from by decide]
  have hS := SS.out.below hb
  have Fra := Lib.hid (Fra.out.below SS.out.lt hb)
  have Frb := Lib.hid (Frb.out.below SS.out.lt hb)
  have Frc := Lib.hid (Frc.out.below SS.out.lt hb)
  have SS := Lib.hid hS
  clear hS hb
  go_wp2_with fail
  have hS := SS.out.below (below_alloc1 w14 (.cells #[.int .i64 7] 3))
  have hb := below_alloc1 w14 (.cells #[.int .i64 7] 3)
  have Fra := Lib.hid (Fra.out.below SS.out.lt hb)
  have Frb := Lib.hid (Frb.out.below SS.out.lt hb)
  have Frc := Lib.hid (Frc.out.below SS.out.lt hb)
  have SS := Lib.hid hS
  clear hS hb
  refine (equalA Frb.out (FOwn.one w14 (fun _ => False) 7) (by simp) rbc 1).mono ?_
  rintro e w15 ⟨rfl, hb⟩
  rw [show decide ([(7 : Int)] = [7]) = true from by decide]
  have hS := SS.out.below hb
  have Fra := Lib.hid (Fra.out.below SS.out.lt hb)
  have Frb := Lib.hid (Frb.out.below SS.out.lt hb)
  have Frc := Lib.hid (Frc.out.below SS.out.lt hb)
  have SS := Lib.hid hS
  clear hS hb
  go_wp2_with fail
  have hS := SS.out.below (below_alloc1 w15 (.cells #[.int .i64 7] 3))
  have hb := below_alloc1 w15 (.cells #[.int .i64 7] 3)
  have Fra := Lib.hid (Fra.out.below SS.out.lt hb)
  have Frb := Lib.hid (Frb.out.below SS.out.lt hb)
  have Frc := Lib.hid (Frc.out.below SS.out.lt hb)
  have SS := Lib.hid hS
  clear hS hb
  refine (equalA Frc.out (FOwn.one w15 (fun _ => False) 7) (by simp) rcc 1).mono ?_
  rintro e w16 ⟨rfl, hb⟩
  rw [show decide ([(7 : Int)] = [7]) = true from by decide]
  have hS := SS.out.below hb
  have Fra := Lib.hid (Fra.out.below SS.out.lt hb)
  have Frb := Lib.hid (Frb.out.below SS.out.lt hb)
  have Frc := Lib.hid (Frc.out.below SS.out.lt hb)
  have SS := Lib.hid hS
  clear hS hb
  go_wp2_with fail
  refine (knownA SS.out).mono ?_
  rintro e w17 ⟨reA, rec, rfl, hre, -, hS, hb⟩
  have Fra := Lib.hid (Fra.out.below SS.out.lt hb)
  have Frb := Lib.hid (Frb.out.below SS.out.lt hb)
  have Frc := Lib.hid (Frc.out.below SS.out.lt hb)
  have Fre := Lib.hid hre
  have SS := Lib.hid hS
  clear hS hb hre
  rw [show addrsT _ true = ([] : List Int) from by kernel_rfl] at Fre
  rw [show addrsT _ true = ([] : List Int) from by kernel_rfl]
  go_wp2_with fail
  refine (pendA SS.out).mono ?_
  rintro e w18 ⟨rfA, rfc, rfl, hrf, -, hS, hb⟩
  have Fra := Lib.hid (Fra.out.below SS.out.lt hb)
  have Frb := Lib.hid (Frb.out.below SS.out.lt hb)
  have Frc := Lib.hid (Frc.out.below SS.out.lt hb)
  have Frf := Lib.hid hrf
  have SS := Lib.hid hS
  clear hS hb hrf
  rw [show addrsT _ false = [7] from by kernel_rfl] at Frf
  rw [show addrsT _ false = [7] from by kernel_rfl]
  go_wp2_with fail
  have hS := SS.out.below (below_alloc1 w18 (.cells #[.int .i64 7] 3))
  have hb := below_alloc1 w18 (.cells #[.int .i64 7] 3)
  have Fra := Lib.hid (Fra.out.below SS.out.lt hb)
  have Frb := Lib.hid (Frb.out.below SS.out.lt hb)
  have Frc := Lib.hid (Frc.out.below SS.out.lt hb)
  have Frf := Lib.hid (Frf.out.below SS.out.lt hb)
  have SS := Lib.hid hS
  clear hS hb
  refine (equalA Frf.out (FOwn.one w18 (fun _ => False) 7) (by simp) rfc 1).mono ?_
  rintro e w19 ⟨rfl, hb⟩
  rw [show decide ([(7 : Int)] = [7]) = true from by decide]
  have hS := SS.out.below hb
  have Fra := Lib.hid (Fra.out.below SS.out.lt hb)
  have Frb := Lib.hid (Frb.out.below SS.out.lt hb)
  have Frc := Lib.hid (Frc.out.below SS.out.lt hb)
  have Frf := Lib.hid (Frf.out.below SS.out.lt hb)
  have SS := Lib.hid hS
  clear hS hb
  go_wp2_with fail
  refine (nowA SS.out).mono ?_
  rintro e wz ⟨rfl, rfl⟩
  go_wp2_with fail
  go_ret
  exact ⟨rfl, SS.out.bel⟩
end Go.Proofs.YtkikokldijccnaaGreatDoor
