/- encounter: an encounter as an argument; the variables of Go's library at the row's beginning. -/
import Derived.Test.YtnnnpliigdfipaaGreatDoorKM
import Derived.Test.YtnnnpliigdfipaaGreatDoorEnI
import Derived.Test.YtnnnpliigdfipaaGreatDoorEnX
import GoSem.Claims
import Derived.JoinedTies
namespace Go.Proofs.YtnnnpliigdfipaaGreatDoor
open Go.RowKit Go.WideShapes
theorem unflat : ∀ (n : Nat) (xs : List Int), xs.length = n * 2 → ∃ lg : List (Int × Int), flat lg = xs ∧ lg.length = n
  | 0, xs, h => ⟨[], (List.length_eq_zero_iff.1 (by simpa using h)).symm, rfl⟩
  | n + 1, a :: b :: xs, h => by
    obtain ⟨lg, h1, h2⟩ := unflat n xs (by simp at h; omega)
    exact ⟨(a, b) :: lg, by rw [flat, h1], by simp [h2]⟩
  | n + 1, [a], h => by simp at h; omega
  | n + 1, [], h => by simp at h
instance : Inhabited Cr := ⟨⟨0, ⟨0, 0, 0⟩, ⟨0, 0, 0⟩, 0, [], 0, 0, 0, 0⟩⟩
section
variable {H : Type} {enc : TypeId × Value → H} {W : World} {base : Nat}
theorem open_legs {v : Value} {spare : Nat → Bool} {held : Bool} {m b0 : Nat} {y : DataW H × List MemPlace} (h : DataW.trod enc Tryz.prog W b0 spare held m 52 [v] = some y) : ∃ (LA : Option Addr) (lg : List (Int × Int)) (cap : Nat), v = .slice LA lg.length cap ∧ Is .i64 W W.heap.size LA (flat lg) := by
  rcases open_flat (n := 9) .i64 2 (by decide) (by kernel_rfl) (by kernel_rfl) Tryz.underlying52 h with hn | ⟨a, len, cap, xs, hcs, -, -, hl, hi, -⟩
  · injection hn with hn
    exact ⟨none, [], 0, hn, fun h => by simp [flat] at h⟩
  · injection hcs with hcs
    obtain ⟨lg, rfl, rfl⟩ := unflat len xs hl
    exact ⟨some a, lg, cap, hcs, hi⟩
set_option maxRecDepth 100000 in
theorem open_enc {b0 : Nat} {spare : Nat → Bool} {held : Bool} {v : Value} {d : DataW H} {p : List MemPlace} (hv : Value.okWide Tryz.prog W .any base 24 v) (h : DataW.Trod enc Tryz.prog W b0 spare held 24 v d p) :
    ∃ (x : En) (A : Option Addr) (cap : Nat), v = .agg #[.int .i64 x.cy, .int .i64 x.gr, .slice A x.cs.length cap] ∧ x.cs.length ≤ cap ∧ cap ≤ maxLen ∧ InCr W W.heap.size A x.cs ∧ ∀ c ∈ x.cs, 0 ≤ c.mo := by
  obtain ⟨cs, rfl, hm⟩ := open_mixed 9 [.num .i64, .num .i64, .sl 22] (by kernel_rfl) (by kernel_rfl) hv h
  obtain ⟨v0, c0, rfl, ⟨cy, rfl, -⟩, v1, c1, rfl, ⟨gr, rfl, -⟩, v2, c2, rfl, ⟨m, y, hy⟩, rfl⟩ := hm
  obtain ⟨A, len, cap, hcs, hl, hcap, hrow⟩ := open_rows (n := 9) [.num .i64, .num .i64, .num .i64, .num .i64, .num .i64, .num .i64, .num .i64, .num .i64, .sl 52, .num .u8, .num .i64, .num .i64, .num .i64] (by kernel_rfl) (by kernel_rfl) (by decide) Tryz.underlying22 hy
  injection hcs with hcs
  subst hcs
  by_cases h0 : len = 0
  · subst h0
    exact ⟨⟨cy, gr, []⟩, A, cap, rfl, hl, hcap, fun h => by simp at h, fun c h => by simp at h⟩
  obtain ⟨b, off, rfl, hb, hc⟩ := hrow (by omega)
  have each : ∀ j, j < len → ∃ c : Cr, 0 ≤ c.mo ∧ ∃ LA lcap, CrAt W b (off + j * 13) c LA lcap ∧ Is .i64 W W.heap.size LA (flat c.lg) := by
    intro j hj
    obtain ⟨cs', hm, hcell⟩ := hc j hj
    obtain ⟨u0, r0, rfl, ⟨n0, rfl, -⟩, u1, r1, rfl, ⟨n1, rfl, -⟩, u2, r2, rfl, ⟨n2, rfl, -⟩, u3, r3, rfl, ⟨n3, rfl, -⟩, u4, r4, rfl, ⟨n4, rfl, -⟩, u5, r5, rfl, ⟨n5, rfl, -⟩, u6, r6, rfl, ⟨n6, rfl, -⟩, u7, r7, rfl, ⟨n7, rfl, -⟩, u8, r8, rfl, ⟨m8, y8, h8⟩, u9, r9, rfl, ⟨n9, rfl, w9⟩, u10, r10, rfl, ⟨n10, rfl, -⟩, u11, r11, rfl, ⟨n11, rfl, -⟩, u12, r12, rfl, ⟨n12, rfl, -⟩, rfl⟩ := hm
    obtain ⟨LA, lg, lcap, rfl, hlg⟩ := open_legs h8
    refine ⟨⟨n0, ⟨n1, n2, n3⟩, ⟨n4, n5, n6⟩, n7, lg, n9, n10, n11, n12⟩, ?_, LA, lcap, ⟨hcell 0 _ rfl, hcell 1 _ rfl, hcell 2 _ rfl, hcell 3 _ rfl, hcell 4 _ rfl, hcell 5 _ rfl, hcell 6 _ rfl, hcell 7 _ rfl, hcell 8 _ rfl, hcell 9 _ rfl, hcell 10 _ rfl, hcell 11 _ rfl, hcell 12 _ rfl⟩, hlg⟩
    simp [Lit.wf] at w9
    exact w9.1
  obtain ⟨f, hf⟩ := Go.Deep.choose_lt each
  refine ⟨⟨cy, gr, (List.range len).map f⟩, some ⟨b, off, none⟩, cap, by simp, by simpa using hl, hcap, fun _ => ⟨b, off, rfl, hb, fun j c hj => ?_⟩, fun c hcm => ?_⟩
  · have hj' : j < len := by simpa using (List.getElem?_eq_some_iff.1 hj).1
    have : f j = c := by simpa [hj'] using hj
    rw [← this]
    exact (hf j hj').2
  · obtain ⟨j, hj, rfl⟩ := List.mem_map.1 hcm
    exact (hf j (by simpa using hj)).1
end
theorem int_of_shape {P : Program} {w : World} {g : Nat} {t : TypeId} {k : IntKind} {zero : Array Value} (h : w.ShapedOpen P) (hg : g < P.globals.size)
    (h0 : ((begin P (fun _ _ => 0) default).world.heap[g]?).bind Obj.row? = some (zero, t)) (hz : zero.size = 1)
    (hb : P.buildable t = true) (hc : P.cellTypes P.depth t = some [t]) (hu : P.underlying t = some (.int k)) : ∃ n, w.cell? ⟨g, 0, none⟩ = some (.int k n) := by
  obtain ⟨cs, hh, hs, hr⟩ := h.1 g zero t hg h0
  obtain ⟨ts, hts, _, hall⟩ := hr hb
  rw [hc] at hts
  cases hts
  have h1 : 0 < cs.size := by omega
  obtain ⟨u, hu', hok⟩ := hall 0 cs[0] (by simp [h1])
  have : u = t := by simpa using hu'.symm
  subst this
  have hcell : w.cell? ⟨g, 0, none⟩ = some cs[0] := by simp [World.cell?, hh, h1]
  rw [hcell]
  unfold Cell.ok at hok
  rw [hu] at hok
  cases hv : cs[0] <;> rw [hv] at hok <;> simp at hok
  obtain ⟨rfl, -⟩ := hok
  exact ⟨_, rfl⟩
end Go.Proofs.YtnnnpliigdfipaaGreatDoor
