/- encounter: aim, checkNumbers, Aim. -/
import Derived.Test.YtnnnpliigdfipaaGreatDoorRows
import Derived.WalkKit
import Derived.WalkLawsBesides
import Derived.WalkSpells
import Derived.ProofKit
import Derived.Below
import Derived.Outline
import Derived.Lib.Hide
import Derived.Deep.RegionWith
import Derived.Deep.RegionHeld3
import Derived.Deep.DrawnRows
import Derived.StillTailTactics
import Derived.BigQuiet
import Derived.Deep.QuietTactic
import Derived.Deep.LoopGhost
import Derived.IntWalk
import Derived.Lib.MinMax
import Derived.Test.YtnnnpliigdfipaaGreatDoorEnJ
namespace Go.Proofs.YtnnnpliigdfipaaGreatDoor
open Go.RowKit
attribute [local go_sem ↓] Go.wp_at_zero Go.wp_at_succ
attribute [local go_sem] wrap_lit
/-- the rate that legs leave at a cycle -/
def aimF (k : Int) : Int → List (Int × Int) → Int
  | r, [] => r
  | r, x :: l => aimF k (if x.1 ≤ k then x.2 else r) l
def aimE (c : Cr) (k : Int) : Int := aimF k c.v.z c.lg
set_option maxHeartbeats 2000000 in
theorem aim80 (c : Cr) (LA : Option Addr) (cap : Nat) (k : Int) (B : Nat) (w : World) (hl : Is .i64 w B LA (flat c.lg)) (hB : B ≤ w.heap.size) (hlen : c.lg.length ≤ 16) : Calls Tryz.prog 80 #[.agg #[.int .i64 c.ad, .int .i64 c.p.x, .int .i64 c.p.y, .int .i64 c.p.z, .int .i64 c.v.x, .int .i64 c.v.y, .int .i64 c.v.z, .int .i64 c.pu, .slice LA c.lg.length cap, .int .u8 c.mo, .int .i64 c.de, .int .i64 c.pp, .int .i64 c.mi], .int .i64 k] w fun e w' => e = .returned (.int .i64 (aimE c k)) ∧ Below w.heap.size w w' := by
  have LI := Lib.hid hl
  clear hl
  go_enter Tryz.func80, Tryz.ntmps80
  go_wp2_with fail
  go_loopw [5, 14] (fun r y wr => ∃ (n : Nat) (a : Int), n ≤ c.lg.length ∧ r = .int .i64 a ∧ y = .int .i64 n ∧ aimF k a (c.lg.drop n) = aimE c k ∧ Below w.heap.size w wr) (fun _ y _ => c.lg.length - (intOf y).toNat)
  case atStart => exact ⟨0, _, Nat.zero_le _, rfl, rfl, rfl, (Below.refl _ _).alloc (Nat.le_refl _) _⟩
  case round =>
    obtain ⟨n, a, hn, rfl, rfl, hE, hb⟩ := hrel
    have HE := Lib.hid hE
    have HB := Lib.hid hb
    clear hE hb
    by_cases hlt : n < c.lg.length
    · obtain ⟨b, off, rfl, hbb, hc⟩ := LI.out (by rw [flat2_len]; omega)
      obtain ⟨x, hx⟩ : ∃ x, x = c.lg[n] := ⟨_, rfl⟩
      have HD : Hid (c.lg.drop n = x :: c.lg.drop (n + 1)) := Lib.hid (by rw [hx]; exact List.drop_eq_getElem_cons hlt)
      have e0 : wr.cell? ⟨b, off + n * 2, none⟩ = some (.int .i64 x.1) := by rw [HB.out.cell (p := ⟨b, off + n * 2, none⟩) (by show b < _; omega), hc (n * 2) (by rw [flat2_len]; omega), (nth_flat c.lg n hlt).1, hx]
      have e1 : wr.cell? ⟨b, off + n * 2 + 1, none⟩ = some (.int .i64 x.2) := by rw [HB.out.cell (p := ⟨b, off + n * 2 + 1, none⟩) (by show b < _; omega), Nat.add_assoc, hc (n * 2 + 1) (by rw [flat2_len]; omega), (nth_flat c.lg n hlt).2, hx]
      have hlI : (n : Int) < (c.lg.length : Int) := by omega
      clear hc hx
      by_cases hk : x.1 ≤ k
      · have HS : Hid (aimF k x.2 (c.lg.drop (n + 1)) = aimE c k) := Lib.hid (by rw [← HE.out, HD.out, aimF, if_pos hk])
        go_wp2_with fail
        exact ⟨⟨n + 1, _, by omega, rfl, by go_num, HS.out, HB.out.alloc (by have := HB.out.size; omega) _⟩, by simp [intOf]; omega⟩
      · have HS : Hid (aimF k a (c.lg.drop (n + 1)) = aimE c k) := Lib.hid (by rw [← HE.out, HD.out, aimF, if_neg hk])
        go_wp2_with fail
        exact ⟨⟨n + 1, _, by omega, rfl, by go_num, HS.out, HB.out.alloc (by have := HB.out.size; omega) _⟩, by simp [intOf]; omega⟩
    · have HX : Hid (aimE c k = a) := Lib.hid (by rw [← HE.out, List.drop_eq_nil_of_le (by omega)]; rfl)
      have hlI : ¬ (n : Int) < (c.lg.length : Int) := by omega
      go_wp2_with fail
      go_ret
      exact ⟨ret_int HX.out.symm, HB.out⟩
/-- the error of an encounter and of numbers of aircraft -/
def numE (x : En) (ns : List Int) : Int := if chE x ≠ 0 then chE x else if ∀ j, j < ns.length → 0 ≤ nth ns j ∧ nth ns j < x.cs.length then 0 else 8
theorem numE_bad (x : En) (ns : List Int) (n : Nat) (hn : n < ns.length) (h0 : chE x = 0) (h : nth ns n < 0 ∨ (x.cs.length : Int) ≤ nth ns n) : numE x ns = 8 := by
  unfold numE
  rw [if_neg (by simp [h0]), if_neg (fun g => by have := g n hn; omega)]
theorem numE_ok (x : En) (ns : List Int) (h0 : chE x = 0) (h : ∀ j, j < ns.length → 0 ≤ nth ns j ∧ nth ns j < x.cs.length) : numE x ns = 0 := by
  unfold numE
  rw [if_neg (by simp [h0]), if_pos h]
theorem numE_0 {x : En} {ns : List Int} (h : numE x ns = 0) : chE x = 0 ∧ ∀ j, j < ns.length → 0 ≤ nth ns j ∧ nth ns j < x.cs.length := by
  unfold numE at h
  split at h
  · rename_i g; exact absurd h g
  · rename_i g
    split at h
    · rename_i g2; exact ⟨by simpa using g, g2⟩
    · simp at h
set_option maxHeartbeats 2000000 in
theorem numbers79 (x : En) (A : Option Addr) (cap : Nat) (NA : Option Addr) (ncap : Nat) (ns : List Int) (w : World) (hc : InCr w w.heap.size A x.cs) (hcap : x.cs.length ≤ cap) (hn : Is .i64 w w.heap.size NA ns) (hlen : ns.length ≤ 1000) : Calls Tryz.prog 79 #[.agg #[.int .i64 x.cy, .int .i64 x.gr, .slice A x.cs.length cap], .slice NA ns.length ncap] w fun e w' => e = .returned (.int .i64 (numE x ns)) ∧ Below w.heap.size w w' := by
  have NI := Lib.hid hn
  clear hn
  go_enter Tryz.func79, Tryz.ntmps79
  go_wp2_with fail
  obtain ⟨W0, hW0⟩ : ∃ W0, W0 = w.alloc (.cells #[.int .i64 x.cy, .int .i64 x.gr, .slice A x.cs.length cap] 24) := ⟨_, rfl⟩
  have BW0 : Hid (Below w.heap.size w W0) := Lib.hid (by rw [hW0]; exact (Below.refl _ _).alloc (Nat.le_refl _) _)
  have zxW0 : w.heap.size < W0.heap.size := by rw [hW0]; simp <;> omega
  have xW0_0 : W0.cell? ⟨w.heap.size, 0, none⟩ = some (.int .i64 x.cy) := by rw [hW0]; go_simp
  have xW0_1 : W0.cell? ⟨w.heap.size, 1, none⟩ = some (.int .i64 x.gr) := by rw [hW0]; go_simp
  have xW0_2 : W0.cell? ⟨w.heap.size, 2, none⟩ = some (.slice A x.cs.length cap) := by rw [hW0]; go_simp
  have mW0 : w.heap.size ≤ W0.heap.size := by rw [hW0]; simp <;> omega
  rw [← hW0]
  clear hW0
  have I0 : InCr W0 W0.heap.size A x.cs := (hc.below BW0.out).mono mW0
  clear hc
  have NW0 := Lib.hid (NI.out.below BW0.out)
  refine (check19 x A cap W0 I0 hcap).mono ?_
  rintro e w1 ⟨rfl, hw1⟩
  have Bw1 : Hid (Below w.heap.size w w1) := Lib.hid (BW0.out.trans ((hw1).mono mW0))
  have mw1 : w.heap.size ≤ w1.heap.size := Nat.le_trans mW0 (hw1).size
  have zxw1 : w.heap.size < w1.heap.size := Nat.lt_of_lt_of_le zxW0 (hw1).size
  have xw1_0 := ((hw1).cell (p := ⟨w.heap.size, 0, none⟩) zxW0).trans xW0_0
  have xw1_1 := ((hw1).cell (p := ⟨w.heap.size, 1, none⟩) zxW0).trans xW0_1
  have xw1_2 := ((hw1).cell (p := ⟨w.heap.size, 2, none⟩) zxW0).trans xW0_2
  have Nw1 := Lib.hid (NW0.out.below ((hw1).mono mW0))
  clear BW0 mW0 xW0_0 xW0_1 xW0_2 zxW0 NW0
  clear hw1
  clear I0
  by_cases hx : chE x = 0
  · have hq : (chE x != 0) = false := by simp [hx]
    have HX := Lib.hid hx
    clear hx
    go_wp2_with fail
    go_loop [15] (fun y => ∃ n : Nat, n ≤ ns.length ∧ y = .int .i64 n ∧ ∀ j, j < n → 0 ≤ nth ns j ∧ nth ns j < x.cs.length) (fun y => ns.length - (intOf y).toNat)
    case atStart => exact ⟨0, Nat.zero_le _, rfl, fun j h => absurd h (by omega)⟩
    case round =>
      obtain ⟨n, hle, rfl, hN⟩ := hrel
      have HN := Lib.hid hN
      clear hN
      by_cases hlt : n < ns.length
      · obtain ⟨b, off, rfl, hbb, hc⟩ := Nw1.out (by omega)
        have e0 := hc n hlt
        have hlI : (n : Int) < (ns.length : Int) := by omega
        clear hc
        by_cases h1 : nth ns n < 0
        · have HZ := Lib.hid (numE_bad x ns n hlt HX.out (.inl h1))
          go_wp2_with fail
          go_ret
          exact ⟨ret_int HZ.out.symm, Bw1.out⟩
        · by_cases h2 : (x.cs.length : Int) ≤ nth ns n
          · have HZ := Lib.hid (numE_bad x ns n hlt HX.out (.inr h2))
            go_wp2_with fail
            go_ret
            exact ⟨ret_int HZ.out.symm, Bw1.out⟩
          · have HS : Hid (0 ≤ nth ns n ∧ nth ns n < x.cs.length) := Lib.hid ⟨by omega, by omega⟩
            go_wp2_with fail
            refine ⟨⟨n + 1, by omega, by go_num, fun j hj => ?_⟩, by simp [intOf]; omega⟩
            by_cases hjn : j = n
            · rw [hjn]; exact HS.out
            · exact HN.out j (by omega)
      · have HZ := Lib.hid (numE_ok x ns HX.out (fun j hj => HN.out j (by omega)))
        have hlI : ¬ (n : Int) < (ns.length : Int) := by omega
        go_wp2_with fail
        go_ret
        exact ⟨ret_int HZ.out.symm, Bw1.out⟩
  · have hq : (chE x != 0) = true := by simp [hx]
    have HZ : Hid (numE x ns = chE x) := Lib.hid (by unfold numE; rw [if_pos hx])
    clear hx
    go_wp2_with fail
    go_ret
    exact ⟨ret_int HZ.out.symm, Bw1.out⟩
end Go.Proofs.YtnnnpliigdfipaaGreatDoor
