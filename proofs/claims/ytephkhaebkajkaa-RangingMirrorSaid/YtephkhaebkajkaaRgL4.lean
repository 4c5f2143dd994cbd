/- RangingMirror returns true for every input: mirrored measurements give mirrored tracks, and all tracks are valid. -/
import Derived.Test.YtephkhaebkajkaaRgW
import Derived.Test.YtephkhaebkajkaaRgD
import Derived.Test.YtephkhaebkajkaaRgQ
import Derived.WalkKit
import Derived.ProofKit
import Derived.OpenShut
import Derived.ShutString
import Derived.ChangeOld
import Derived.Below
import Derived.Lib.SmallJoins
namespace Go.Proofs.Ytephkhaebkajkaa
open Go.RowKit
attribute [local go_sem ↓] Go.wp_at_zero Go.wp_at_succ
attribute [local go_sem] wrap_lit

theorem mirL (A : Option Addr) (cap : Nat) (l : List Int) (w : World) (hl : 300 < l.length) : Calls Try.prog 7 #[.slice A l.length cap] w fun e w' => e = .returned (.bool true) ∧ Below w.heap.size w w' := by
  have h : (300 : Int) < (l.length : Int) := by omega
  go_enter Try.func7, Try.ntmps7
  go_wp2_with fail
  refine (awake19 _).mono ?_
  rintro e w1 ⟨rfl, hb1⟩
  go_wp2_with fail
  go_ret
  exact ⟨rfl, hb1⟩

/-- What the walk needs to know of the two results. -/
theorem mir_facts (l : List Int) (k : Nat) (hk : k < runN l) :
    okl l ∧ runE l = 0 ∧ (sN l (k + 1) = 0 → sR l (k + 1) = 0 ∧ sV l (k + 1) = 0 ∧ sR (l.map mir) (k + 1) = 0 ∧ sV (l.map mir) (k + 1) = 0 ∧ sN (l.map mir) (k + 1) = 0) ∧
    (sN l (k + 1) ≠ 0 → okX (sR l (k + 1)) (sV l (k + 1)) (sN l (k + 1)) ∧ sR (l.map mir) (k + 1) = 2097152 - sR l (k + 1) ∧ sV (l.map mir) (k + 1) = - sV l (k + 1) ∧ sN (l.map mir) (k + 1) = sN l (k + 1)) := by
  unfold runN at hk
  unfold runE
  split at hk
  · omega
  · rename_i h1
    split at hk
    · rename_i h2
      obtain ⟨m1, m2, m3⟩ := mir_st l h2 (k + 1) (by omega)
      refine ⟨h2, by rw [if_neg h1, if_pos h2], fun h0 => ?_, fun h0 => ?_⟩
      · rcases m3 with ⟨_, a, b, c, d⟩ | ⟨a, _⟩
        · exact ⟨a, b, c, d, by omega⟩
        · exact absurd h0 a
      · rcases m3 with ⟨a, _⟩ | ⟨_, a, b⟩
        · exact absurd a h0
        · refine ⟨?_, a, b, m2⟩
          rcases inv l h2 (k + 1) (by omega) with ⟨_, z, _⟩ | ⟨_, _, ho⟩
          · exact absurd z h0
          · exact ho
    · omega
theorem run_len (l : List Int) : (runE l == 0 && (runN l : Int) != (l.length : Int)) = false := by
  unfold runE runN
  split
  · simp
  · split <;> simp

set_option maxHeartbeats 4000000 in
set_option maxRecDepth 100000 in
theorem mir7 (A : Option Addr) (cap : Nat) (l : List Int) (w : World) (hA : Is .i64 w w.heap.size A l) (hl : l.length ≤ 300) : Calls Try.prog 7 #[.slice A l.length cap] w fun e w' => e = .returned (.bool true) ∧ Below w.heap.size w w' := by
  obtain ⟨i0, hi0, hz0, hz1, hz2⟩ := info_parts int_info
  go_enter Try.func7, Try.ntmps7
  go_wp2_with fail
  refine (awake19 _).mono ?_
  rintro e w1 ⟨rfl, hb1⟩
  go_wp2_with fail
  go_loopw [3, 4] (fun v i wr => ∃ k : Nat, k ≤ l.length ∧ i = .int .i64 k ∧ Acc .i64 wr w1.heap.size 3 1 v k ((l.take k).map mir) ∧ Below w1.heap.size w1 wr) (fun _ i _ => l.length - (intOf i).toNat)
  case atStart => exact ⟨0, Nat.zero_le _, rfl, Acc.nil _ _ _ _ _, Below.refl _ _⟩
  case round =>
    obtain ⟨k, hk, rfl, hown, hb⟩ := hrel
    have hbw : Below w.heap.size w wr := hb1.trans (hb.mono hb1.size)
    by_cases hlt : k < l.length
    · obtain ⟨b, off, rfl, hbb, hc⟩ := hA (by omega)
      have hcell : wr.cell? ⟨b, off + k, none⟩ = some (.int .i64 (nth l k)) := (hbw.cell (p := ⟨b, off + k, none⟩) hbb).trans (hc k hlt)
      clear hc
      have hlI : (k : Int) < (l.length : Int) := by omega
      have htk : (l.take (k + 1)).map mir = (l.take k).map mir ++ [mir (nth l k)] := by rw [take_nth _ _ hlt, List.map_append]; rfl
      have Htk := Lib.hid htk; clear htk
      by_cases g : 0 ≤ nth l k ∧ nth l k ≤ 8192
      · have hm : mir (nth l k) = 8192 - nth l k := by unfold mir; rw [if_pos g]
        have Hm := Lib.hid hm; clear hm
        obtain ⟨ga, gb⟩ := g
        go_wp2_with (at_builtin; refine wpList_app rfl _ _ 36 rfl .i64 w1.heap.size 3 i0 _ 1 8 Try.underlying36 hi0 hz0 hz1 hz2 rfl (by decide) _ _ _ [8192 - nth l k] rfl hown _ rfl rfl rfl (by omega) (by decide) hb.size ?_; intro v' w4 hown1 hb4)
        exact ⟨⟨k + 1, by omega, by go_num, by rw [Htk.out, Hm.out]; exact hown1, hb.trans hb4⟩, by simp [intOf]; omega⟩
      · have hm : mir (nth l k) = nth l k := by unfold mir; rw [if_neg g]
        have Hm := Lib.hid hm; clear hm
        by_cases ga : 0 ≤ nth l k
        · have gb : 8192 < nth l k := by omega
          go_wp2_with (at_builtin; refine wpList_app rfl _ _ 36 rfl .i64 w1.heap.size 3 i0 _ 1 8 Try.underlying36 hi0 hz0 hz1 hz2 rfl (by decide) _ _ _ [nth l k] rfl hown _ rfl rfl rfl (by omega) (by decide) hb.size ?_; intro v' w4 hown1 hb4)
          exact ⟨⟨k + 1, by omega, by go_num, by rw [Htk.out, Hm.out]; exact hown1, hb.trans hb4⟩, by simp [intOf]; omega⟩
        · go_wp2_with (at_builtin; refine wpList_app rfl _ _ 36 rfl .i64 w1.heap.size 3 i0 _ 1 8 Try.underlying36 hi0 hz0 hz1 hz2 rfl (by decide) _ _ _ [nth l k] rfl hown _ rfl rfl rfl (by omega) (by decide) hb.size ?_; intro v' w4 hown1 hb4)
          exact ⟨⟨k + 1, by omega, by go_num, by rw [Htk.out, Hm.out]; exact hown1, hb.trans hb4⟩, by simp [intOf]; omega⟩
    · obtain rfl : k = l.length := by omega
      rw [List.take_length] at hown
      obtain ⟨A1, cap1, rfl, ho1⟩ := hown.own
      clear hown
      go_wp2_with fail
      refine (run21a A cap l wr ((hA.below hbw).mono hbw.size)).mono ?_
      rintro e w2 ⟨A2, cap2, rfl, ho2, hb2⟩
      have hr := run21a A1 cap1 (l.map mir) w2 (ho1.below hb2).is
      rw [runN_mir, runE_mir, List.length_map] at hr
      have HR := Lib.hid hr; clear hr
      go_wp2_with fail
      refine HR.out.mono ?_
      rintro e w3 ⟨A3, cap3, rfl, ho3, hb3⟩
      have hbt : Below w.heap.size w w3 := (hbw.trans (hb2.mono hbw.size)).trans (hb3.mono (Nat.le_trans hbw.size hb2.size))
      have ho2' := (ho2.below hb3).is
      have ho3' := ho3.is
      have hmn := runN_le l
      have hnn : ((runN l : Int) != (runN l : Int)) = false := by simp
      have hee : (runE l != runE l) = false := by simp
      have hO : ∀ k, k < runN l → ∃ g g' : Nat, A2 = some ⟨g, 0, none⟩ ∧ A3 = some ⟨g', 0, none⟩ ∧ g < w3.heap.size ∧ g' < w3.heap.size ∧
          w3.cell? ⟨g, k * 3, none⟩ = some (.int .i64 (sR l (k + 1))) ∧ w3.cell? ⟨g, k * 3 + 1, none⟩ = some (.int .i64 (sV l (k + 1))) ∧ w3.cell? ⟨g, k * 3 + 2, none⟩ = some (.int .i64 (sN l (k + 1))) ∧
          w3.cell? ⟨g', k * 3, none⟩ = some (.int .i64 (sR (l.map mir) (k + 1))) ∧ w3.cell? ⟨g', k * 3 + 1, none⟩ = some (.int .i64 (sV (l.map mir) (k + 1))) ∧ w3.cell? ⟨g', k * 3 + 2, none⟩ = some (.int .i64 (sN (l.map mir) (k + 1))) := by
        intro k hk
        obtain ⟨g, cs, rfl, _, hh, hc⟩ := (ho2.below hb3) (by rw [runO_len]; omega)
        obtain ⟨g', cs', rfl, _, hh', hc'⟩ := ho3 (by rw [runO_len, runN_mir]; omega)
        rw [runO_len] at hc
        rw [runO_len, runN_mir] at hc'
        obtain ⟨n0, n1, n2⟩ := nth_outs l (runN l) k hk
        obtain ⟨m0, m1, m2⟩ := nth_outs (l.map mir) (runN l) k hk
        unfold runO at hc hc'
        rw [runN_mir] at hc'
        refine ⟨g, g', rfl, rfl, heap_lt hh, heap_lt hh', ?_, ?_, ?_, ?_, ?_, ?_⟩
        · rw [← n0]; simp [World.cell?, hh, hc (k * 3) (by omega)]
        · rw [← n1]; simp [World.cell?, hh, hc (k * 3 + 1) (by omega)]
        · rw [← n2]; simp [World.cell?, hh, hc (k * 3 + 2) (by omega)]
        · rw [← m0]; simp [World.cell?, hh', hc' (k * 3) (by omega)]
        · rw [← m1]; simp [World.cell?, hh', hc' (k * 3 + 1) (by omega)]
        · rw [← m2]; simp [World.cell?, hh', hc' (k * 3 + 2) (by omega)]
      have HO := Lib.hid hO
      clear hO HR ho2 ho3 ho1
      have hdec : ((runE l == 0) = true ∧ ((runN l : Int) != (l.length : Int)) = false) ∨ ((runE l == 0) = false ∧ True) := by
        have := run_len l
        by_cases he : runE l = 0
        · exact .inl ⟨by simp [he], by simpa [he] using this⟩
        · exact .inr ⟨by simp [he], trivial⟩
      rcases hdec with ⟨he, hd2⟩ | ⟨hd2, _⟩
      all_goals
        go_wp2_with fail
        go_loopw [10] (fun i wr => ∃ k : Nat, k ≤ runN l ∧ i = .int .i64 k ∧ Below w3.heap.size w3 wr) (fun i _ => runN l - (intOf i).toNat)
        case atStart => exact ⟨0, Nat.zero_le _, rfl, Below.refl _ _⟩
        case round =>
          obtain ⟨k, hk, rfl, hbr⟩ := hrel
          by_cases hlt : k < runN l
          · obtain ⟨g, g', rfl, rfl, hg, hg', c0, c1, c2, d0, d1, d2⟩ := HO.out k hlt
            obtain ⟨hok, -, hz, hnz⟩ := mir_facts l k hlt
            clear hee hnn
            rw [← hbr.cell (p := ⟨g, k * 3, none⟩) hg] at c0
            rw [← hbr.cell (p := ⟨g, k * 3 + 1, none⟩) hg] at c1
            rw [← hbr.cell (p := ⟨g, k * 3 + 2, none⟩) hg] at c2
            rw [← hbr.cell (p := ⟨g', k * 3, none⟩) hg'] at d0
            rw [← hbr.cell (p := ⟨g', k * 3 + 1, none⟩) hg'] at d1
            rw [← hbr.cell (p := ⟨g', k * 3 + 2, none⟩) hg'] at d2
            have hlI : (k : Int) < (runN l : Int) := by omega
            have hk0 : (0 : Int) ≤ (k : Int) := by omega
            by_cases hN : sN l (k + 1) = 0
            · obtain ⟨z1, z2, z3, z4, z5⟩ := hz hN
              rw [z1] at c0
              rw [z2] at c1
              rw [hN] at c2
              rw [z3] at d0
              rw [z4] at d1
              rw [z5] at d2
              clear hz hnz hN z1 z2 z3 z4 z5 hok
              go_wp2_with fail
              exact ⟨⟨k + 1, by omega, by go_num, hbr⟩, by simp [intOf]; omega⟩
            · obtain ⟨o1, z3, z4, z5⟩ := hnz hN
              rw [z3] at d0
              rw [z4] at d1
              rw [z5] at d2
              have HC := chk17 (sR l (k + 1)) (sV l (k + 1)) (sN l (k + 1))
              rw [show chk (sR l (k + 1)) (sV l (k + 1)) (sN l (k + 1)) = 0 by unfold chk; rw [if_pos o1]] at HC
              have HC' := Lib.hid HC; clear HC
              obtain ⟨x1, x2, x3, x4, x5, x6⟩ := o1
              have hNb : (sN l (k + 1) == 0) = false := by simp [hN]
              clear hz hnz hN z3 z4 z5 hok
              go_wp2_with fail
              have q1 : IntKind.i64.wrap (2097152 - sR l (k + 1)) = 2097152 - sR l (k + 1) := IntWalk.i64_in _ (by omega)
              have q2 : IntKind.i64.wrap (-sV l (k + 1)) = -sV l (k + 1) := IntWalk.i64_in _ (by omega)
              go_region_held3 (fun w' => w'.cell? ⟨g, k * 3, none⟩ = some (.int .i64 (sR l (k + 1))) ∧ w'.cell? ⟨g, k * 3 + 1, none⟩ = some (.int .i64 (sV l (k + 1))) ∧ w'.cell? ⟨g, k * 3 + 2, none⟩ = some (.int .i64 (sN l (k + 1))) ∧ w'.cell? ⟨g', k * 3, none⟩ = some (.int .i64 (2097152 - sR l (k + 1))) ∧ w'.cell? ⟨g', k * 3 + 1, none⟩ = some (.int .i64 (-sV l (k + 1))) ∧ w'.cell? ⟨g', k * 3 + 2, none⟩ = some (.int .i64 (sN l (k + 1)))) (go_keep) (first | (go_at_call 17; refine (HC'.out _).mono ?_; rintro e w9 ⟨rfl, rfl⟩))
              go_wp2_with fail
              exact ⟨⟨k + 1, by omega, by go_num, (hbr.alloc hbr.size _).drew⟩, by simp [intOf]; omega⟩
          · obtain rfl : k = runN l := by omega
            go_wp2_with fail
            go_ret
            exact ⟨rfl, hbt.trans (hbr.mono hbt.size)⟩

theorem mir_ (a : Option Addr) (len cap : Nat) (zs : List Int) {w : World} (h : IsRow .i64 w a len cap zs) : Calls Try.prog 7 #[.slice a len cap] w fun e w' => e = .returned (.bool true) ∧ Below w.heap.size w w' := by
  obtain ⟨h1, h2, _, _⟩ := Is.of_row h
  rw [← h2]
  by_cases hl : (zs.take len).length ≤ 300
  · exact mir7 a cap _ w h1 hl
  · exact mirL a cap _ w (by omega)

namespace rangingMirrorRow
open Go.ChangeShapes Go.WideShapes Go.ChangeAt Go.RowKit
open Go.ChangeMaps (open_string shut_string)
set_option linter.unusedVariables false
theorem own : ownKnob Try.prog.godebug = none := by kernel_rfl
theorem laidOut : laidOutB Try.prog = true := by kernel_rfl
set_option maxRecDepth 100000 in
theorem lifted (os : Os) (started : os.Started) (H : Type) (enc : TypeId × Value → H) :
    ReturnsInHanded {} Try.checked os 7 .any (Rows.rangingMirrorSpec.pre6 enc Try.prog Try.f7 Rows.rangingMirrorRow.domain false) (Rows.rangingMirrorSpec.post enc Try.prog Try.f7 false true false false) := by
  refine returnsInHanded_of_change (C := Try.checked) own started (by kernel_rfl) Try.func7
    (ChangeSpec.witness6 (enc := enc) (C := Try.checked) false ⟨#[], #[.slice none 0 0], []⟩ 8 (by kernel_rfl) (by kernel_rfl) (by kernel_rfl) (by kernel_rfl)) ?_
  intro W base args ds gs before hval0 hW hcnd _hsz
  have hval : ∀ (j : Nat) t v, Try.f7.params[j]? = some t → args[j]? = some v → Value.okWide Try.prog W .any base t v := hval0
  have hW' := hW
  obtain ⟨p, q, hA0, hV, rfl, hfz, hnd⟩ := hW
  have hA : DataW.TrodAll enc Try.prog W 0 (fun _ => true) true Try.f7.params.toList args.toList ds p := hA0
  rw [Try.params7] at hA hval
  obtain ⟨v0, vs0, d0, ds0, p0, q0, hargs, rfl, rfl, h0, r0⟩ := trodAll_cons hA
  obtain ⟨rfl, rfl, rfl⟩ := trodAll_nil r0
  obtain rfl : args = #[v0] := by cases args; simp_all
  obtain ⟨rfl, rfl⟩ := trodVars_none hV
  have k0 := h0
  have lt0 : ∀ x ∈ p0, x.block < W.heap.size := by obtain ⟨m, hm⟩ := k0; exact DataW.trod_lt m _ _ _ hm
  obtain ⟨a0, len0, cap0, rfl⟩ := okWide_slice Try.underlying36 (hval 0 36 v0 rfl rfl)
  obtain ⟨z0, w0⟩ : ∃ zs, IsRow .i64 W a0 len0 cap0 zs := by
    obtain ⟨fuel, hf⟩ := h0
    rcases open_ints Try.underlying36 Try.underlying3 (by kernel_rfl) hf with ⟨hcs, _⟩ | ⟨x, l, c, zs, hcs, _, hl, hm, hz, _, hcell, hwz⟩
    · simp [Value.cells] at hcs
      obtain ⟨rfl, rfl, rfl⟩ := hcs
      exact ⟨[], .inl ⟨rfl, rfl, rfl, rfl⟩⟩
    · simp [Value.cells] at hcs
      obtain ⟨rfl, rfl, rfl⟩ := hcs
      exact ⟨zs, .inr ⟨_, rfl, hl, hm, by simpa using hz, hcell, hwz⟩⟩
  clear hA0 hval0
  refine (mir_ a0 len0 cap0 z0 w0).mono fun e W' ⟨he, bel⟩ => ?_
  subst he
  exact ⟨_, rfl, _, _, _, [], _, [], hW', trodAll_mk1 (shut_bool Try.underlying4 _), (trodAll_cons_mk (Below.trod laidOut (by kernel_rfl) (of_decide_eq_true (by kernel_rfl)) k0 bel lt0) trodAll_mk0), rfl, bel.frame _, fun h => by cases h⟩

theorem over : Rows.rangingMirrorRow.holds Try.pinned (OpenSpec.ofChange Rows.rangingMirrorSpec) :=
  OpenClaim.holds_of_wide 7 Try.f7 rfl rfl rfl rfl rfl rfl rfl ⟨rfl, rfl, rfl, rfl, rfl⟩ rfl rfl rfl rfl rfl (by kernel_rfl) Try.func7 (by kernel_rfl)
    (of_decide_eq_true (by kernel_rfl)) (by unfold Func.isWrapper; first | (rw [if_pos (by decide +kernel)]; kernel_rfl) | (rw [if_neg (by decide +kernel)]; exact ⟨rfl, rfl⟩))
    (fun os started H enc _ => lifted os started H enc)
theorem proved : Rows.RangingMirrorSaid := over
end rangingMirrorRow
end Go.Proofs.Ytephkhaebkajkaa
