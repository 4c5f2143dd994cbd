/- Aircraft in memory; encounter.Check. -/
import Derived.Test.YtnnnpliigdfipaaGreatDoorRows
import Derived.WalkKit
import Derived.WalkLawsBesides
import Derived.WalkSpells
import Derived.ProofKit
import Derived.Below
import Derived.Outline
import Derived.Lib.Hide
import Derived.Deep.RegionWith
import Derived.Deep.RegionHeld3
import Derived.Deep.DrawnRows
import Derived.StillTailTactics
import Derived.BigQuiet
import Derived.Deep.QuietTactic
import Derived.Deep.LoopGhost
import Derived.IntWalk
import Derived.Lib.MinMax
import Derived.Test.YtnnnpliigdfipaaGreatDoorEnH
namespace Go.Proofs.YtnnnpliigdfipaaGreatDoor
open Go.RowKit
attribute [local go_sem ↓] Go.wp_at_zero Go.wp_at_succ
attribute [local go_sem] wrap_lit
/-- an aircraft at an address: its legs lie at LA -/
structure CrAt (w : World) (b o : Nat) (c : Cr) (LA : Option Addr) (cap : Nat) : Prop where
  c0 : w.cell? ⟨b, o, none⟩ = some (.int .i64 c.ad)
  c1 : w.cell? ⟨b, o + 1, none⟩ = some (.int .i64 c.p.x)
  c2 : w.cell? ⟨b, o + 2, none⟩ = some (.int .i64 c.p.y)
  c3 : w.cell? ⟨b, o + 3, none⟩ = some (.int .i64 c.p.z)
  c4 : w.cell? ⟨b, o + 4, none⟩ = some (.int .i64 c.v.x)
  c5 : w.cell? ⟨b, o + 5, none⟩ = some (.int .i64 c.v.y)
  c6 : w.cell? ⟨b, o + 6, none⟩ = some (.int .i64 c.v.z)
  c7 : w.cell? ⟨b, o + 7, none⟩ = some (.int .i64 c.pu)
  c8 : w.cell? ⟨b, o + 8, none⟩ = some (.slice LA c.lg.length cap)
  c9 : w.cell? ⟨b, o + 9, none⟩ = some (.int .u8 c.mo)
  c10 : w.cell? ⟨b, o + 10, none⟩ = some (.int .i64 c.de)
  c11 : w.cell? ⟨b, o + 11, none⟩ = some (.int .i64 c.pp)
  c12 : w.cell? ⟨b, o + 12, none⟩ = some (.int .i64 c.mi)
theorem CrAt.below {w w1 : World} {B b o : Nat} {c : Cr} {LA : Option Addr} {cap : Nat} (h : CrAt w b o c LA cap) (hb : Below B w w1) (hlt : b < B) : CrAt w1 b o c LA cap where
  c0 := (hb.cell (p := ⟨b, o, none⟩) hlt).trans h.c0
  c1 := (hb.cell (p := ⟨b, o + 1, none⟩) hlt).trans h.c1
  c2 := (hb.cell (p := ⟨b, o + 2, none⟩) hlt).trans h.c2
  c3 := (hb.cell (p := ⟨b, o + 3, none⟩) hlt).trans h.c3
  c4 := (hb.cell (p := ⟨b, o + 4, none⟩) hlt).trans h.c4
  c5 := (hb.cell (p := ⟨b, o + 5, none⟩) hlt).trans h.c5
  c6 := (hb.cell (p := ⟨b, o + 6, none⟩) hlt).trans h.c6
  c7 := (hb.cell (p := ⟨b, o + 7, none⟩) hlt).trans h.c7
  c8 := (hb.cell (p := ⟨b, o + 8, none⟩) hlt).trans h.c8
  c9 := (hb.cell (p := ⟨b, o + 9, none⟩) hlt).trans h.c9
  c10 := (hb.cell (p := ⟨b, o + 10, none⟩) hlt).trans h.c10
  c11 := (hb.cell (p := ⟨b, o + 11, none⟩) hlt).trans h.c11
  c12 := (hb.cell (p := ⟨b, o + 12, none⟩) hlt).trans h.c12
/-- a slice of aircraft below B -/
def InCr (w : World) (B : Nat) (A : Option Addr) (cs : List Cr) : Prop :=
  0 < cs.length → ∃ b off, A = some ⟨b, off, none⟩ ∧ b < B ∧ ∀ (j : Nat) (c : Cr), cs[j]? = some c → ∃ LA cap, CrAt w b (off + j * 13) c LA cap ∧ Is .i64 w B LA (flat c.lg)
theorem InCr.below {w w1 : World} {B : Nat} {A : Option Addr} {cs : List Cr} (h : InCr w B A cs) (hb : Below B w w1) : InCr w1 B A cs := fun hn => by
  obtain ⟨b, off, e, hlt, hc⟩ := h hn
  refine ⟨b, off, e, hlt, fun j c hj => ?_⟩
  obtain ⟨LA, cap, h1, h2⟩ := hc j c hj
  exact ⟨LA, cap, h1.below hb hlt, h2.below hb⟩
theorem InCr.mono {w : World} {B B' : Nat} {A : Option Addr} {cs : List Cr} (h : InCr w B A cs) (hB : B ≤ B') : InCr w B' A cs := fun hn => by
  obtain ⟨b, off, e, hlt, hc⟩ := h hn
  refine ⟨b, off, e, by omega, fun j c hj => ?_⟩
  obtain ⟨LA, cap, h1, h2⟩ := hc j c hj
  exact ⟨LA, cap, h1, h2.mono hB⟩
theorem InCr.take {w : World} {B : Nat} {A : Option Addr} {cs : List Cr} (h : InCr w B A cs) (n : Nat) : InCr w B A (cs.take n) := fun hn => by
  have hl : 0 < cs.length := by rw [List.length_take] at hn; omega
  obtain ⟨b, off, e, hlt, hc⟩ := h hl
  refine ⟨b, off, e, hlt, fun j c hj => hc j c ?_⟩
  have := List.getElem?_eq_some_iff.1 hj
  obtain ⟨h1, h2⟩ := this
  rw [List.length_take] at h1
  rw [List.getElem?_take_of_lt (by omega)] at hj
  exact hj
theorem same73 (c : Cr) (LA : Option Addr) (cap : Nat) (g : Nat) (ad : Int) (w : World) (hg : w.cell? ⟨g, 0, none⟩ = some (.int .i64 ad)) (hl : g < w.heap.size) : Calls Tryz.prog 73 #[.agg #[.int .i64 c.ad, .int .i64 c.p.x, .int .i64 c.p.y, .int .i64 c.p.z, .int .i64 c.v.x, .int .i64 c.v.y, .int .i64 c.v.z, .int .i64 c.pu, .slice LA c.lg.length cap, .int .u8 c.mo, .int .i64 c.de, .int .i64 c.pp, .int .i64 c.mi], .pointer (some ⟨g, 0, none⟩)] w fun e w' => e = .returned (.bool (c.ad == ad)) ∧ Below w.heap.size w w' := by
  have h0 : ∀ o, (w.alloc o).cell? ⟨g, 0, none⟩ = some (.int .i64 ad) := fun o => (World.cell?_alloc_lt _ _ _ hl).trans hg
  clear hg
  go_enter Tryz.func73, Tryz.ntmps73
  go_wp2_with fail
  go_ret
  exact ⟨rfl, (Below.refl _ _).alloc (Nat.le_refl _) _⟩
/-- the place of the first aircraft with an address -/
def idxC (ad : Int) : List Cr → Int
  | [] => -1
  | c :: l => if c.ad = ad then 0 else if idxC ad l < 0 then -1 else idxC ad l + 1
theorem idxC_iff (ad : Int) : ∀ l, 0 ≤ idxC ad l ↔ ad ∈ l.map Cr.ad
  | [] => by simp [idxC]
  | c :: l => by
    have := idxC_iff ad l
    unfold idxC
    by_cases h : c.ad = ad
    · simp [h]
    · rw [if_neg h, List.map_cons, List.mem_cons]
      have h' : ¬ ad = c.ad := fun e => h e.symm
      split
      · rename_i hn
        constructor
        · intro g; omega
        · rintro (g | g)
          · exact absurd g h'
          · have := this.2 g; omega
      · rename_i hn
        constructor
        · intro _; exact .inr (this.1 (by omega))
        · intro _; omega
theorem idxC_take {ad : Int} : ∀ (cs : List Cr) (k : Nat), (∀ j c, j < k → cs[j]? = some c → c.ad ≠ ad) → (k ≥ cs.length → idxC ad cs = -1) ∧ (∀ c, cs[k]? = some c → c.ad = ad → idxC ad cs = k)
  | [], k, _ => ⟨fun _ => rfl, fun c h => by simp at h⟩
  | d :: l, 0, _ => ⟨fun h => by simp at h, fun c h e => by simp at h; subst h; unfold idxC; rw [if_pos e]; rfl⟩
  | d :: l, k + 1, h => by
    have hd := h 0 d (by omega) rfl
    obtain ⟨i1, i2⟩ := idxC_take l k (fun j c hj hc => h (j + 1) c (by omega) (by simpa using hc))
    unfold idxC
    rw [if_neg hd]
    constructor
    · intro g
      rw [i1 (by simpa using g)]; rfl
    · intro c hc e
      rw [i2 c (by simpa using hc) e, if_neg (by omega)]
      simp
set_option maxHeartbeats 2000000 in
theorem idx104 (A : Option Addr) (cap : Nat) (cs : List Cr) (g : Nat) (ad : Int) (w : World) (hg : w.cell? ⟨g, 0, none⟩ = some (.int .i64 ad)) (hl : g < w.heap.size) (hc : InCr w w.heap.size A cs) (hlen : cs.length ≤ 1000) : Calls Tryz.prog 104 #[.slice A cs.length cap, .func (.func 73) #[] #[.pointer (some ⟨g, 0, none⟩)]] w fun e w' => e = .returned (.int .i64 (idxC ad cs)) ∧ Below w.heap.size w w' := by
  go_enter Tryz.func104, Tryz.ntmps104
  go_wp2_with fail
  have HI := Lib.hid hc
  clear hc
  go_loopw [4, 8] (fun r x wr => r = .int .i64 0 ∧ ∃ n : Nat, n ≤ cs.length ∧ x = .int .i64 n ∧ (∀ j c, j < n → cs[j]? = some c → c.ad ≠ ad) ∧ Below w.heap.size w wr) (fun _ x _ => cs.length - (intOf x).toNat)
  case atStart => exact ⟨rfl, 0, Nat.zero_le _, rfl, fun j c h => absurd h (by omega), Below.refl _ _⟩
  case round =>
    obtain ⟨rfl, n, hn, rfl, hN, hb⟩ := hrel
    have HN := Lib.hid hN
    have HB := Lib.hid hb
    clear hN hb
    by_cases hlt : n < cs.length
    · obtain ⟨b, off, rfl, hbb, hc⟩ := HI.out (by omega)
      obtain ⟨c, hcj⟩ : ∃ c, cs[n]? = some c := ⟨_, List.getElem?_eq_getElem hlt⟩
      obtain ⟨LA, cap', hA, -⟩ := hc n c hcj
      have HJ := Lib.hid hcj
      clear hc hcj
      have hA2 := hA.below HB.out (by omega)
      clear hA
      obtain ⟨a0, a1, a2, a3, a4, a5, a6, a7, a8, a9, a10, a11, a12⟩ := hA2
      have hlI : (n : Int) < (cs.length : Int) := by omega
      go_wp2_with fail
      refine (same73 c LA cap' g ad _ ((HB.out.cell (p := ⟨g, 0, none⟩) hl).trans hg) (Nat.lt_of_lt_of_le hl HB.out.size)).mono ?_
      rintro e w1 ⟨rfl, hb1⟩
      have HB1 : Hid (Below w.heap.size w w1) := Lib.hid (HB.out.trans (hb1.mono HB.out.size))
      clear hb1
      by_cases he : c.ad = ad
      · have hq : (c.ad == ad) = true := by simp [he]
        have HX := Lib.hid ((idxC_take cs n HN.out).2 c HJ.out he)
        clear he
        go_wp2_with fail
        go_ret
        exact ⟨ret_int HX.out.symm, HB1.out⟩
      · have hq : (c.ad == ad) = false := by simp [he]
        have HE := Lib.hid he
        clear he
        go_wp2_with fail
        refine ⟨⟨rfl, n + 1, by omega, by go_num, fun j d hj hd => ?_, HB1.out⟩, by simp [intOf]; omega⟩
        by_cases hjn : j = n
        · subst hjn
          have e := HJ.out.symm.trans hd
          rw [← Option.some.inj e]; exact HE.out
        · exact HN.out j d (by omega) hd
    · have HX := Lib.hid ((idxC_take cs n HN.out).1 (by omega))
      have hlI : ¬ (n : Int) < (cs.length : Int) := by omega
      go_wp2_with fail
      go_ret
      exact ⟨ret_int HX.out.symm, HB.out⟩
def memC (ad : Int) (cs : List Cr) : Bool := decide (ad ∈ cs.map Cr.ad)
theorem memC_idx (ad : Int) (cs : List Cr) : decide (0 ≤ idxC ad cs) = memC ad cs := by unfold memC; rw [decide_eq_decide]; exact idxC_iff ad cs
theorem cont72 (A : Option Addr) (cap : Nat) (cs : List Cr) (g : Nat) (ad : Int) (w : World) (hg : w.cell? ⟨g, 0, none⟩ = some (.int .i64 ad)) (hl : g < w.heap.size) (hc : InCr w w.heap.size A cs) (hlen : cs.length ≤ 1000) : Calls Tryz.prog 72 #[.slice A cs.length cap, .func (.func 73) #[] #[.pointer (some ⟨g, 0, none⟩)]] w fun e w' => e = .returned (.bool (memC ad cs)) ∧ Below w.heap.size w w' := by
  go_enter Tryz.func72, Tryz.ntmps72
  go_wp2_with fail
  refine (idx104 A cap cs g ad w hg hl hc hlen).mono ?_
  rintro e w1 ⟨rfl, hb1⟩
  go_wp2_with fail
  go_ret
  exact ⟨ret_bool (memC_idx ad cs), hb1⟩
end Go.Proofs.YtnnnpliigdfipaaGreatDoor
