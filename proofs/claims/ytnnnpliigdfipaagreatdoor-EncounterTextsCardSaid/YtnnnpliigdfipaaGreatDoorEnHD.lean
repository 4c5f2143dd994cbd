/- encounter: the reference's split. -/
import Derived.Test.YtnnnpliigdfipaaGreatDoorRows
import Derived.WalkKit
import Derived.WalkLawsBesides
import Derived.WalkSpells
import Derived.ProofKit
import Derived.Below
import Derived.Outline
import Derived.Lib.Hide
import Derived.Deep.RegionWith
import Derived.Deep.RegionHeld3
import Derived.Deep.DrawnRows
import Derived.StillTailTactics
import Derived.BigQuiet
import Derived.Deep.QuietTactic
import Derived.Deep.LoopGhost
import Derived.IntWalk
import Derived.Lib.MinMax
import Derived.Laws.Strings3
import Derived.Test.YtnnnpliigdfipaaGreatDoorEnHB
import Derived.Test.YtnnnpliigdfipaaGreatDoorEnCA
namespace Go.Proofs.YtnnnpliigdfipaaGreatDoor
open Go.RowKit
attribute [local go_sem ↓] Go.wp_at_zero Go.wp_at_succ
attribute [local go_sem] wrap_lit
def seg (s : Tx) (f k : Nat) : Tx := (s.drop f).take (k - f)
theorem S_seg (s : Tx) (f k : Nat) : (S s).extract f k = S (seg s f k) := by
  apply ByteArray.ext
  apply Array.ext'
  simp only [ByteArray.data_extract, Array.toList_extract, seg]
theorem seg_len (s : Tx) (f k : Nat) (hk : k ≤ s.length) : (seg s f k).length = k - f := by unfold seg; rw [List.length_take, List.length_drop]; omega
theorem seg_no {s : Tx} {f k : Nat} {c : UInt8} (h : ∀ j, f ≤ j → j < k → s[j]? ≠ some c) : c ∉ seg s f k := by
  intro hc
  obtain ⟨j, hj⟩ := List.mem_iff_getElem?.1 hc
  unfold seg at hj
  rw [List.getElem?_take] at hj
  split at hj
  · rw [List.getElem?_drop] at hj
    exact h (f + j) (by omega) (by omega) hj
  · cases hj
theorem drop_seg {s : Tx} {f k : Nat} (hf : f ≤ k) (hk : k < s.length) : s.drop f = seg s f k ++ s[k] :: s.drop (k + 1) := by
  unfold seg
  have h1 : s.drop f = (s.drop f).take (k - f) ++ (s.drop f).drop (k - f) := (List.take_append_drop _ _).symm
  rw [List.drop_drop, show f + (k - f) = k by omega, List.drop_eq_getElem_cons hk] at h1
  exact h1
theorem split_seg {s : Tx} {f k : Nat} {c : UInt8} (hf : f ≤ k) (hk : k < s.length) (h : ∀ j, f ≤ j → j < k → s[j]? ≠ some c) (hc : s[k] = c) : splitC c (s.drop f) = seg s f k :: splitC c (s.drop (k + 1)) := by
  rw [drop_seg hf hk, hc]
  exact splitC_at (seg_no h)
theorem split_end {s : Tx} {f : Nat} {c : UInt8} (h : ∀ j, f ≤ j → j < s.length → s[j]? ≠ some c) : splitC c (s.drop f) = [seg s f s.length] := by
  have e : seg s f s.length = s.drop f := by unfold seg; rw [List.take_of_length_le (by simp)]
  rw [e]
  refine splitC_none ?_
  rw [← e]
  exact seg_no h
/-- what the loop holds at k -/
def SpI (s : Tx) (c : UInt8) (k f : Nat) (dn : List Tx) : Prop := (k ≤ s.length ∧ f ≤ k ∧ (∀ j, f ≤ j → j < k → s[j]? ≠ some c) ∧ dn ++ splitC c (s.drop f) = splitC c s) ∨ (k = s.length + 1 ∧ f = k ∧ dn = splitC c s)
theorem SpI.skip {s : Tx} {c : UInt8} {k f : Nat} {dn : List Tx} (h : SpI s c k f dn) (hk : k < s.length) (hc : s[k] ≠ c) : SpI s c (k + 1) f dn := by
  rcases h with ⟨h1, h2, h3, h4⟩ | ⟨h1, -⟩
  · refine .inl ⟨hk, by omega, fun j a b => ?_, h4⟩
    rcases Nat.lt_or_ge j k with g | g
    · exact h3 j a g
    · obtain rfl : j = k := by omega
      rw [List.getElem?_eq_getElem hk]
      intro e
      exact hc (Option.some.inj e)
  · omega
theorem SpI.cut {s : Tx} {c : UInt8} {k f : Nat} {dn : List Tx} (h : SpI s c k f dn) (hk : k < s.length) (hc : s[k] = c) : SpI s c (k + 1) (k + 1) (dn ++ [seg s f k]) := by
  rcases h with ⟨h1, h2, h3, h4⟩ | ⟨h1, -⟩
  · refine .inl ⟨hk, Nat.le_refl _, fun j a b => by omega, ?_⟩
    rw [split_seg h2 hk h3 hc] at h4
    rw [← h4]; simp
  · omega
theorem SpI.fin {s : Tx} {c : UInt8} {k f : Nat} {dn : List Tx} (h : SpI s c k f dn) (hk : k = s.length) : SpI s c (k + 1) (k + 1) (dn ++ [seg s f k]) := by
  subst hk
  rcases h with ⟨h1, h2, h3, h4⟩ | ⟨h1, -⟩
  · rw [split_end h3] at h4
    exact .inr ⟨rfl, rfl, h4⟩
  · omega
theorem SpI.from_le {s : Tx} {c : UInt8} {k f : Nat} {dn : List Tx} (h : SpI s c k f dn) : f ≤ k := by
  rcases h with ⟨h1, h2, h3, h4⟩ | ⟨h1, h2, -⟩ <;> omega
theorem SpI.done {s : Tx} {c : UInt8} {k f : Nat} {dn : List Tx} (h : SpI s c k f dn) (hk : s.length < k) : dn = splitC c s := by
  rcases h with ⟨h1, -⟩ | ⟨-, -, h⟩
  · omega
  · exact h
set_option maxRecDepth 100000 in
set_option maxHeartbeats 4000000 in
theorem split65 (s : Tx) (c : UInt8) (cI : Int) (hcI : cI = c.toNat) (hl : s.length ≤ 100000) (w : World) : Calls Tryz.prog 65 #[.string (S s), .int .u8 cI] w fun e w' => ∃ v, e = .returned v ∧ w'.ownsRow w.heap.size 9 1 v (splitC c s).length ((splitC c s).map fun x => Value.string (S x)) ∧ Below w.heap.size w w' := by
  have hsl : (s.length : Int) ≤ 100000 := by omega
  have HCI := Lib.hid hcI
  clear hcI
  obtain ⟨i0, hi0, hz0, hz1, hz2⟩ := info_parts str_info
  go_enter Tryz.func65, Tryz.ntmps65
  go_wp2_with fail
  go_loopw [5, 6, 7] (fun v f i wr => ∃ (k fn : Nat) (dn : List Tx), k ≤ s.length + 1 ∧ fn ≤ k ∧ i = .int .i64 k ∧ f = .int .i64 fn ∧ Hid (SpI s c k fn dn) ∧ dn.length ≤ k ∧ wr.ownsRow w.heap.size 9 1 v dn.length (dn.map fun x => Value.string (S x)) ∧ Below w.heap.size w wr) (fun _ _ i _ => s.length + 1 - (intOf i).toNat)
  case atStart => exact ⟨0, 0, [], Nat.zero_le _, Nat.le_refl _, rfl, rfl, Lib.hid (.inl ⟨Nat.zero_le _, Nat.le_refl _, fun j _ b => by omega, rfl⟩), Nat.le_refl _, World.ownsRow_nil _ _ _ _, Below.refl _ _⟩
  case round =>
    obtain ⟨k, fn, dn, hk, hfk, rfl, rfl, HI, hdn, hrow, hb⟩ := hrel
    have HROW := Lib.hid hrow
    have HB := Lib.hid hb
    have hsz := hb.size
    clear hrow hb
    by_cases hle : k ≤ s.length
    · have hleI : (k : Int) ≤ (s.length : Int) := by omega
      have hfkI : (fn : Int) ≤ (k : Int) := by omega
      have hx := S_seg s fn k
      have wk : IntKind.i64.wrap ((k : Int) + 1) = (k : Int) + 1 := IntWalk.i64_in _ (by omega)
      by_cases heq : k = s.length
      · have HI2 := Lib.hid (HI.out.fin heq)
        have b1 : ((k : Int) == (s.length : Int)) = true := by simp [heq]
        clear heq
        go_wp2_with (at_builtin; refine wpList_appS rfl _ _ 74 rfl w.heap.size 9 i0 _ 16 Tryz.underlying74 hi0 hz0 hz1 hz2 rfl _ _ _ (.string (S (seg s fn k))) rfl rfl HROW.out _ rfl _ rfl rfl (by omega) (by decide) hsz ?_; intro v2 w2 hown hgrow hb2)
        exact ⟨⟨k + 1, k + 1, dn ++ [seg s fn k], by omega, by omega, by go_num, by go_num, HI2, by simp; omega, by rw [List.length_append, List.map_append]; exact hown, HB.out.trans hb2⟩, by simp [intOf]; omega⟩
      · have hlt : k < s.length := by omega
        have b1 : ((k : Int) == (s.length : Int)) = false := by rw [beq_eq_false_iff_ne]; omega
        obtain ⟨d, hd⟩ : ∃ d : Int, d = (s[k].toNat : Int) := ⟨_, rfl⟩
        have hix := idx_run s k hlt d hd
        by_cases hc : s[k] = c
        · have HI2 := Lib.hid (HI.out.cut hlt hc)
          have b2 : (d == cI) = true := by rw [hd, hc, HCI.out]; simp
          clear hd hc heq
          go_wp2_with (at_builtin; refine wpList_appS rfl _ _ 74 rfl w.heap.size 9 i0 _ 16 Tryz.underlying74 hi0 hz0 hz1 hz2 rfl _ _ _ (.string (S (seg s fn k))) rfl rfl HROW.out _ rfl _ rfl rfl (by omega) (by decide) hsz ?_; intro v2 w2 hown hgrow hb2)
          exact ⟨⟨k + 1, k + 1, dn ++ [seg s fn k], by omega, by omega, by go_num, by go_num, HI2, by simp; omega, by rw [List.length_append, List.map_append]; exact hown, HB.out.trans hb2⟩, by simp [intOf]; omega⟩
        · have HI2 := Lib.hid (HI.out.skip hlt hc)
          have b2 : (d == cI) = false := by
            rw [beq_eq_false_iff_ne, hd, HCI.out]
            intro e
            exact hc (UInt8.toNat_inj.1 (by omega))
          clear hd hc heq
          go_wp2_with fail
          exact ⟨⟨k + 1, fn, dn, by omega, by omega, by go_num, rfl, HI2, by omega, HROW.out, HB.out⟩, by simp [intOf]; omega⟩
    · have hleI : ¬ (k : Int) ≤ (s.length : Int) := by omega
      obtain rfl := HI.out.done (by omega)
      go_wp2_with fail
      go_ret
      exact ⟨_, rfl, HROW.out, HB.out⟩
/-- the words of a pattern: an empty one stands for a number -/
def wordsOf (ps : List (Option Tx)) : List Tx := ps.map fun o => o.getD []
def lnU (ps : List (Option Tx)) (ns : List Int) (k : Nat) : Tx := Lib.join ((writeP ps ns).take k) [32]
theorem join_snoc (x : Tx) : ∀ (l : List Tx), l ≠ [] → Lib.join (l ++ [x]) [32] = Lib.join l [32] ++ [32] ++ x
  | [], h => absurd rfl h
  | [a], _ => by simp [Lib.join]
  | a :: b :: l, _ => by
    have := join_snoc x (b :: l) (by simp)
    have e : ∀ r, Lib.join (a :: b :: r) [32] = a ++ [32] ++ Lib.join (b :: r) [32] := fun r => by simp [Lib.join, List.intercalate]
    rw [List.cons_append] at this
    rw [List.cons_append, List.cons_append, e, e, this]
    simp
theorem lnU_one {ps : List (Option Tx)} {ns : List Int} {x : Tx} (h : (writeP ps ns)[0]? = some x) : lnU ps ns 1 = x := by
  unfold lnU
  cases hw : writeP ps ns with
  | nil => rw [hw] at h; simp at h
  | cons a l => rw [hw] at h; simp at h; subst h; simp [Lib.join]
theorem lnU_succ {ps : List (Option Tx)} {ns : List Int} {x : Tx} {k : Nat} (hk : 0 < k) (h : (writeP ps ns)[k]? = some x) : lnU ps ns (k + 1) = lnU ps ns k ++ [32] ++ x := by
  unfold lnU
  have hl := (List.getElem?_eq_some_iff.1 h).1
  rw [List.take_succ_eq_append_getElem hl, join_snoc _ _ (fun e => by
    have := congrArg List.length e
    rw [List.length_take, List.length_nil] at this
    omega)]
  rw [(List.getElem?_eq_some_iff.1 h).2]
theorem writeP_at : ∀ (ps : List (Option Tx)) (ns : List Int) (k : Nat), (∀ p, ps[k]? = some (some p) → (writeP ps ns)[k]? = some p) ∧ (ps[k]? = some none → (writeP ps ns)[k]? = some (Lib.itoa (ns.getD (cntN (ps.take k)) 0)))
  | [], ns, k => ⟨fun p h => by simp at h, fun h => by simp at h⟩
  | some q :: ps, ns, 0 => ⟨fun p h => by simp at h; subst h; rfl, fun h => by simp at h⟩
  | none :: ps, ns, 0 => ⟨fun p h => by simp at h, fun h => by cases ns <;> simp [writeP, cntN]⟩
  | some q :: ps, ns, k + 1 => by
    obtain ⟨h1, h2⟩ := writeP_at ps ns k
    exact ⟨fun p h => by simpa [writeP] using h1 p (by simpa using h), fun h => by simpa [writeP, cntN] using h2 (by simpa using h)⟩
  | none :: ps, ns, k + 1 => by
    obtain ⟨h1, h2⟩ := writeP_at ps ns.tail k
    refine ⟨fun p h => by simpa [writeP] using h1 p (by simpa using h), fun h => ?_⟩
    have := h2 (by simpa using h)
    cases ns with
    | nil => simpa [writeP, cntN] using this
    | cons n ns => simpa [writeP, cntN] using this
theorem cntN_take : ∀ (ps : List (Option Tx)) (k : Nat), cntN (ps.take k) ≤ cntN ps ∧ (ps[k]? = some none → cntN (ps.take (k + 1)) = cntN (ps.take k) + 1 ∧ cntN (ps.take k) < cntN ps) ∧ (∀ p, ps[k]? = some (some p) → cntN (ps.take (k + 1)) = cntN (ps.take k))
  | [], k => ⟨by simp [cntN], fun h => by simp at h, fun p h => by simp at h⟩
  | some q :: ps, 0 => ⟨by simp [cntN], fun h => by simp at h, fun p h => by simp [cntN]⟩
  | none :: ps, 0 => ⟨by simp [cntN], fun h => by simp [cntN], fun p h => by simp at h⟩
  | some q :: ps, k + 1 => by
    obtain ⟨h1, h2, h3⟩ := cntN_take ps k
    exact ⟨by simpa [cntN] using h1, fun h => by simpa [cntN] using h2 (by simpa using h), fun p h => by simpa [cntN] using h3 p (by simpa using h)⟩
  | none :: ps, k + 1 => by
    obtain ⟨h1, h2, h3⟩ := cntN_take ps k
    refine ⟨by simp [cntN]; omega, fun h => ?_, fun p h => ?_⟩
    · have := h2 (by simpa using h)
      simp only [List.take_succ_cons, cntN]
      omega
    · have := h3 p (by simpa using h)
      simp only [List.take_succ_cons, cntN]
      omega
theorem lnU_len {ps : List (Option Tx)} {ns : List Int} (hok : ∀ p, some p ∈ ps → p.length ≤ 100) (hb : ∀ n ∈ ns, small n) (k : Nat) (hk : k ≤ 100) : (lnU ps ns k).length ≤ 20000 := by
  have h := join_lenM 100 ((writeP ps ns).take k) (fun x hx => write_len 100 (by decide) ps ns hok (fun n hn => by have := itoa_len (hb n hn); omega) x (List.mem_of_mem_take hx))
  have h2 : ((writeP ps ns).take k).length ≤ k := List.length_take_le _ _
  have h3 : (100 + 1) * ((writeP ps ns).take k).length ≤ 101 * 100 := Nat.mul_le_mul_left _ (by omega)
  unfold lnU
  omega
theorem cntN_le : ∀ ps : List (Option Tx), cntN ps ≤ ps.length
  | [] => Nat.le_refl _
  | some _ :: ps => by have := cntN_le ps; simp only [cntN, List.length_cons]; omega
  | none :: ps => by have := cntN_le ps; simp only [cntN, List.length_cons]; omega
theorem S_3 (l x : Tx) : S l ++ (⟨#[32]⟩ : ByteArray) ++ S x = S (l ++ [32] ++ x) := by rw [← S_app, ← S_app]
set_option maxRecDepth 100000 in
set_option maxHeartbeats 4000000 in
theorem line63 (ps : List (Option Tx)) (ns : List Int) (WA NA : Option Addr) (wc nc : Nat) (w : World) (hW : InT w w.heap.size WA (wordsOf ps)) (hN : Is .i64 w w.heap.size NA ns) (hl : ps.length ≤ 100) (hz : ns.length = cntN ps) (hok : ∀ p, some p ∈ ps → p ≠ [] ∧ p.length ≤ 100) (hb : ∀ n ∈ ns, small n) :
    Calls Tryz.prog 63 #[.slice WA ps.length wc, .slice NA ns.length nc] w fun e w' => e = .returned (.string (S (lineT (writeP ps ns)))) ∧ Below w.heap.size w w' := by
  have HW := Lib.hid hW
  have HNS := Lib.hid hN
  have HZ := Lib.hid hz
  have HOK := Lib.hid hok
  have HBD := Lib.hid hb
  have HLN := Lib.hid (lnU_len (ps := ps) (ns := ns) (fun p hp => (hok p hp).2) hb)
  have hlI : (ps.length : Int) ≤ 100 := by omega
  clear hW hN hz hok hb
  go_enter Tryz.func63, Tryz.ntmps63
  go_wp2_with fail
  go_loopw [5, 6, 7] (fun s n i wr => ∃ (k m : Nat) (l : Tx), k ≤ ps.length ∧ i = .int .i64 k ∧ n = .int .i64 m ∧ s = .string (S l) ∧ Hid (l = lnU ps ns k) ∧ Hid (m = cntN (ps.take k)) ∧ l.length ≤ 20000 ∧ Below w.heap.size w wr) (fun _ _ i _ => ps.length - (intOf i).toNat)
  case atStart => exact ⟨0, 0, [], Nat.zero_le _, rfl, rfl, rfl, Lib.hid (by simp [lnU, Lib.join]), Lib.hid (by simp [cntN]), by simp, Below.refl _ _⟩
  case round =>
    obtain ⟨k, m, l, hk, rfl, rfl, rfl, HL, HM, hll, hb⟩ := hrel
    have HB := Lib.hid hb
    clear hb
    by_cases hlt : k < ps.length
    · have hltI : (k : Int) < (ps.length : Int) := by omega
      obtain ⟨b, off, rfl, hbb, hcc⟩ := HW.out (by simp [wordsOf]; omega)
      obtain ⟨q, hq⟩ : ∃ q, ps[k]? = some q := ⟨_, List.getElem?_eq_getElem hlt⟩
      have hcell : wr.cell? ⟨b, off + k, none⟩ = some (.string (S (q.getD []))) := (HB.out.cell (p := ⟨b, off + k, none⟩) hbb).trans (hcc k _ (by simp [wordsOf, hq]))
      clear hcc
      have HQ := Lib.hid hq
      have hl2 := HLN.out (k + 1) (by omega)
      clear hq
      cases q with
      | none =>
        have HX := Lib.hid ((writeP_at ps ns k).2 HQ.out)
        obtain ⟨c1, c2⟩ := (cntN_take ps k).2.1 HQ.out
        have hm : m < ns.length := by rw [HM.out, HZ.out]; exact c2
        have HM2 : Hid (m + 1 = cntN (ps.take (k + 1))) := Lib.hid (by rw [c1, ← HM.out])
        clear c1 c2
        obtain ⟨bn, offn, rfl, hbn, hcn⟩ := HNS.out (by omega)
        have hcelln : wr.cell? ⟨bn, offn + m, none⟩ = some (.int .i64 (nth ns m)) := (HB.out.cell (p := ⟨bn, offn + m, none⟩) hbn).trans (hcn m hm)
        have HX2 : Hid ((writeP ps ns)[k]? = some (Lib.itoa (nth ns m))) := Lib.hid (by rw [HX.out, HM.out]; rfl)
        have hsm : small (nth ns m) := HBD.out _ (by unfold nth; rw [List.getD_eq_getElem?_getD, List.getElem?_eq_getElem hm]; exact List.getElem_mem hm)
        have hsl := itoa_len hsm
        obtain ⟨sm1, sm2⟩ := hsm
        obtain ⟨v, hv⟩ : ∃ v, v = nth ns m := ⟨_, rfl⟩
        rw [← hv] at hcelln HX2 hsl sm1 sm2
        have D := Lib.hid (fun w' => decimal94 v w' (by omega) (by omega))
        clear hcn HX hv
        have hmI : (m : Int) < (ns.length : Int) := by omega
        have hnlI : (ns.length : Int) ≤ 100000 := by have := cntN_le ps; have := HZ.out; omega
        by_cases hk0 : 0 < k
        · have HL2 := Lib.hid (lnU_succ hk0 HX2.out)
          have hk0I : 0 < (k : Int) := by omega
          go_wp2_with fail
          refine (D.out _).mono ?_
          rintro e w2 ⟨rfl, hb2⟩
          go_wp2_with fail
          exact ⟨⟨k + 1, m + 1, l ++ [32] ++ Lib.itoa v, by omega, by go_num, by go_num, by rw [S_3], Lib.hid (by rw [HL2.out, ← HL.out]), HM2, by rw [HL.out, ← HL2.out]; exact hl2, HB.out.trans (hb2.mono HB.out.size)⟩, by simp [intOf]; omega⟩
        · have HL2 : Hid (lnU ps ns (k + 1) = l ++ Lib.itoa v) := Lib.hid (by
            obtain rfl : k = 0 := by omega
            rw [lnU_one HX2.out, HL.out]; simp [lnU, Lib.join])
          have hk0I : ¬ 0 < (k : Int) := by omega
          go_wp2_with fail
          refine (D.out _).mono ?_
          rintro e w2 ⟨rfl, hb2⟩
          go_wp2_with fail
          exact ⟨⟨k + 1, m + 1, l ++ Lib.itoa v, by omega, by go_num, by go_num, by rw [← S_app], Lib.hid (by rw [HL2.out]), HM2, by rw [← HL2.out]; exact hl2, HB.out.trans (hb2.mono HB.out.size)⟩, by simp [intOf]; omega⟩
      | some p =>
        have HX2 := Lib.hid ((writeP_at ps ns k).1 p HQ.out)
        have HM2 : Hid (m = cntN (ps.take (k + 1))) := Lib.hid (by rw [(cntN_take ps k).2.2 p HQ.out]; exact HM.out)
        obtain ⟨hp0, hp1⟩ := HOK.out p (List.mem_of_getElem? HQ.out)
        have hpe : p.isEmpty = false := by cases p <;> simp_all
        by_cases hk0 : 0 < k
        · have HL2 := Lib.hid (lnU_succ hk0 HX2.out)
          have hk0I : 0 < (k : Int) := by omega
          go_wp2_with fail
          exact ⟨⟨k + 1, m, l ++ [32] ++ p, by omega, by go_num, rfl, by rw [S_3], Lib.hid (by rw [HL2.out, ← HL.out]), HM2, by rw [HL.out, ← HL2.out]; exact hl2, HB.out⟩, by simp [intOf]; omega⟩
        · have HL2 : Hid (lnU ps ns (k + 1) = l ++ p) := Lib.hid (by
            obtain rfl : k = 0 := by omega
            rw [lnU_one HX2.out, HL.out]; simp [lnU, Lib.join])
          have hk0I : ¬ 0 < (k : Int) := by omega
          go_wp2_with fail
          exact ⟨⟨k + 1, m, l ++ p, by omega, by go_num, rfl, by rw [← S_app], Lib.hid (by rw [HL2.out]), HM2, by rw [← HL2.out]; exact hl2, HB.out⟩, by simp [intOf]; omega⟩
    · obtain rfl : k = ps.length := by omega
      have hltI : ¬ (ps.length : Int) < (ps.length : Int) := by omega
      have HE : Hid (S l ++ (⟨#[10]⟩ : ByteArray) = S (lineT (writeP ps ns))) := Lib.hid (by
        have e : l = Lib.join (writeP ps ns) [32] := by rw [HL.out]; unfold lnU; rw [List.take_of_length_le (by rw [write_length]; exact Nat.le_refl _)]
        unfold lineT
        rw [← e, ← S_app])
      go_wp2_with fail
      go_ret
      exact ⟨by rw [← HE.out]; rfl, HB.out⟩
theorem splitC_sum (c : UInt8) : ∀ l : Tx, ((splitC c l).map List.length).sum + (splitC c l).length = l.length + 1
  | [] => rfl
  | x :: l => by
    have := splitC_sum c l
    unfold splitC
    split
    · simp only [List.map_cons, List.sum_cons, List.length_cons, List.length_nil]; omega
    · cases h : splitC c l with
      | nil => exact absurd h (splitC_ne c l)
      | cons a t =>
        rw [h] at this
        simp only [List.map_cons, List.sum_cons, List.length_cons] at this ⊢
        omega
theorem splitC_length (l : Tx) (c : UInt8) : (splitC c l).length ≤ l.length + 1 := by have := splitC_sum c l; omega
theorem mem_sum : ∀ (l : List Tx) (x : Tx), x ∈ l → x.length ≤ (l.map List.length).sum
  | [], x, h => by simp at h
  | a :: l, x, h => by
    rcases List.mem_cons.1 h with rfl | h
    · simp
    · have := mem_sum l x h; simp; omega
theorem splitC_len {l : Tx} {c : UInt8} (x : Tx) (h : x ∈ splitC c l) : x.length ≤ l.length := by
  have h1 := splitC_sum c l
  have h2 := mem_sum _ x h
  have h3 : 0 < (splitC c l).length := List.length_pos_iff.2 (splitC_ne c l)
  omega
theorem readP_len : ∀ (ps : List (Option Tx)) (ws : List Tx) (ns : List Int), readP ps ws = some ns → ps.length = ws.length := by
  intro ps ws ns h
  have h := ((readP_iff ps ws ns).1 h).1
  rw [h, write_length]
theorem ownsRow_mono' {w : World} {base base' : Nat} {e : TypeId} {size n : Nat} {v : Value} {xs : List Value} (h : w.ownsRow base e size v n xs) (hb : base' ≤ base) : w.ownsRow base' e size v n xs := by
  refine ⟨h.1, ?_⟩
  rcases h.2 with h2 | ⟨g, cap, cur, h1, h2, h3⟩
  · exact .inl h2
  · exact .inr ⟨g, cap, cur, h1, Nat.le_trans hb h2, h3⟩
/-- the rest of a line, behind dn -/
def thenP (dn : List Int) (r : Option (List Int)) : Option (List Int) := match r with | some ms => some (dn ++ ms) | none => none
theorem readP_word {ps : List (Option Tx)} {ws : List Tx} {k : Nat} {p x : Tx} (hp : ps[k]? = some (some p)) (hw : ws[k]? = some x) : readP (ps.drop k) (ws.drop k) = if x = p then readP (ps.drop (k + 1)) (ws.drop (k + 1)) else none := by
  obtain ⟨h1, h2⟩ := List.getElem?_eq_some_iff.1 hp
  obtain ⟨h3, h4⟩ := List.getElem?_eq_some_iff.1 hw
  rw [List.drop_eq_getElem_cons h1, List.drop_eq_getElem_cons h3, h2, h4, readP]
theorem readP_num {ps : List (Option Tx)} {ws : List Tx} {k : Nat} {x : Tx} (hp : ps[k]? = some none) (hw : ws[k]? = some x) : readP (ps.drop k) (ws.drop k) = match numO x with | some n => thenP [n] (readP (ps.drop (k + 1)) (ws.drop (k + 1))) | none => none := by
  obtain ⟨h1, h2⟩ := List.getElem?_eq_some_iff.1 hp
  obtain ⟨h3, h4⟩ := List.getElem?_eq_some_iff.1 hw
  rw [List.drop_eq_getElem_cons h1, List.drop_eq_getElem_cons h3, h2, h4, readP]
  rfl
theorem thenP_none (dn : List Int) : thenP dn none = none := rfl
theorem thenP_step (dn : List Int) (n : Int) (r : Option (List Int)) : thenP dn (thenP [n] r) = thenP (dn ++ [n]) r := by
  cases r <;> simp [thenP]
set_option maxRecDepth 100000 in
set_option maxHeartbeats 4000000 in
theorem read66 (s : Tx) (ps : List (Option Tx)) (WA : Option Addr) (wc : Nat) (w : World) (hW : InT w w.heap.size WA (wordsOf ps)) (hl : ps.length ≤ 100) (hs : s.length ≤ 90000) (hok : ∀ p, some p ∈ ps → p ≠ []) :
    Calls Tryz.prog 66 #[.string (S s), .slice WA ps.length wc] w fun e w' => (∃ v, e = .returned (.tuple #[v, .bool (readP ps (splitC 32 s)).isSome]) ∧ ∀ ns, readP ps (splitC 32 s) = some ns → Acc .i64 w' w.heap.size 3 1 v ns.length ns) ∧ Below w.heap.size w w' := by
  have HW := Lib.hid hW
  have HOK := Lib.hid hok
  have hlI : (ps.length : Int) ≤ 100 := by omega
  have hwl : ∀ x ∈ splitC 32 s, x.length ≤ 100000 := fun x hx => by have := splitC_len x hx; omega
  clear hW hok
  obtain ⟨i0, hi0, hz0, hz1, hz2⟩ := info_parts int_info
  have SP := Lib.hid (fun w' => split65 s 32 32 rfl (by omega) w')
  obtain ⟨ws, hws⟩ : ∃ ws, ws = splitC 32 s := ⟨_, rfl⟩
  have hw0 : 0 < ws.length := by rw [hws]; exact List.length_pos_iff.2 (splitC_ne _ _)
  have hw1 : ws.length ≤ 100000 := by rw [hws]; have := splitC_length s (32 : UInt8); omega
  rw [← hws] at hwl SP ⊢
  have HWL := Lib.hid hwl
  clear hws hwl
  go_enter Tryz.func66, Tryz.ntmps66
  go_wp2_with fail
  refine (SP.out _).mono ?_
  rintro e w1 ⟨v1, rfl, hrow, hb1⟩
  obtain ⟨g, cp, rfl, hcp, hg, hcell⟩ := row_words hrow hw0
  have W1 := Lib.hid (HW.out.below hb1)
  have HC := Lib.hid hcell
  have HB1 := Lib.hid hb1
  have hs1 := hb1.size
  have hwI : (ws.length : Int) ≤ 100000 := by omega
  clear hrow hcell hb1
  by_cases hne : ws.length = ps.length
  · have HNE := Lib.hid hne
    have b1 : ((ws.length : Int) != (ps.length : Int)) = false := by simp [hne]
    clear hne
    go_wp2_with fail
    go_loopw [7, 8] (fun v i wr => ∃ (k : Nat) (dn : List Int), k ≤ ws.length ∧ i = .int .i64 k ∧ dn.length ≤ k ∧ Acc .i64 wr w1.heap.size 3 1 v dn.length dn ∧ Hid (readP ps ws = thenP dn (readP (ps.drop k) (ws.drop k))) ∧ Below w1.heap.size w1 wr) (fun _ i _ => ws.length - (intOf i).toNat)
    case atStart => exact ⟨0, [], Nat.zero_le _, rfl, Nat.zero_le _, Acc.nil _ _ _ _ _, Lib.hid (by simp only [List.drop_zero, thenP]; cases readP ps ws <;> rfl), Below.refl _ _⟩
    case round =>
      obtain ⟨k, dn, hk, rfl, hdn, hacc, HR, hb⟩ := hrel
      have HA := Lib.hid hacc
      have HB := Lib.hid hb
      have HBW := Lib.hid (HB1.out.trans (hb.mono hs1))
      have hsz := hb.size
      clear hacc hb
      by_cases hlt : k < ws.length
      · have hltI : (k : Int) < (ws.length : Int) := by omega
        have hltP : (k : Int) < (ps.length : Int) := by have := HNE.out; omega
        obtain ⟨b, off, rfl, hbb, hcc⟩ := W1.out (by simp [wordsOf]; have := HNE.out; omega)
        obtain ⟨q, hq⟩ : ∃ q, ps[k]? = some q := ⟨_, List.getElem?_eq_getElem (by have := HNE.out; omega)⟩
        obtain ⟨x, hx⟩ : ∃ x, ws[k]? = some x := ⟨_, List.getElem?_eq_getElem hlt⟩
        have hcell : wr.cell? ⟨b, off + k, none⟩ = some (.string (S (q.getD []))) := (HB.out.cell (p := ⟨b, off + k, none⟩) (by show b < _; omega)).trans (hcc k _ (by simp [wordsOf, hq]))
        have hcx : wr.cell? ⟨g, k, none⟩ = some (.string (S x)) := (HB.out.cell (p := ⟨g, k, none⟩) hg).trans (HC.out k x hx)
        have hxl := HWL.out x (List.mem_of_getElem? hx)
        have HQ := Lib.hid hq
        have HX := Lib.hid hx
        clear hcc hq hx
        cases q with
        | some p =>
          have hp0 := HOK.out p (List.mem_of_getElem? HQ.out)
          have hpe : p.isEmpty = false := by cases p <;> simp_all
          have HS := Lib.hid (readP_word HQ.out HX.out)
          by_cases he : x = p
          · have HR2 := Lib.hid (HR.out.trans (by rw [HS.out, if_pos he]))
            have bq : (x == p) = true := by simp [he]
            subst he
            go_wp2_with fail
            go_quiet (fail)
            go_wp2_with fail
            exact ⟨⟨k + 1, dn, by omega, by go_num, by omega, HA.out, HR2, below_drewN HB.out _⟩, by simp [intOf]; omega⟩
          · have HV : Hid (readP ps ws = none) := Lib.hid (by rw [HR.out, HS.out, if_neg he]; rfl)
            have bq : (x == p) = false := by simp [he]
            clear he
            go_wp2_with fail
            go_quiet (fail)
            go_wp2_with fail
            go_ret2
            exact ⟨⟨_, by rw [HV.out]; rfl, fun ns h => by rw [HV.out] at h; cases h⟩, below_drewN HBW.out _⟩
        | none =>
          have HS := Lib.hid (readP_num HQ.out HX.out)
          have NB := Lib.hid (fun w' => number95 x hxl w')
          go_wp2_with fail
          refine (NB.out _).mono ?_
          rintro e w2 ⟨rfl, rfl⟩
          cases hn : numO x with
          | none =>
            have HV : Hid (readP ps ws = none) := Lib.hid (by rw [HR.out, HS.out, hn]; rfl)
            clear hn
            go_wp2_with fail
            go_ret2
            exact ⟨⟨_, by rw [HV.out]; rfl, fun ns h => by rw [HV.out] at h; cases h⟩, HBW.out⟩
          | some n =>
            have HR2 : Hid (readP ps ws = thenP (dn ++ [n]) (readP (ps.drop (k + 1)) (ws.drop (k + 1)))) := Lib.hid (by rw [HR.out, HS.out, hn]; exact thenP_step _ _ _)
            clear hn
            go_wp2_with (at_builtin; refine wpList_app rfl _ _ 84 rfl .i64 w1.heap.size 3 i0 _ 1 8 Tryz.underlying84 hi0 hz0 hz1 hz2 rfl (by decide) _ _ _ [n] rfl HA.out _ rfl rfl rfl (by omega) (by decide) hsz ?_; intro v' w2 hown1 hb2)
            exact ⟨⟨k + 1, dn ++ [n], by omega, by go_num, by simp; omega, by rw [List.length_append]; exact hown1, HR2, HB.out.trans hb2⟩, by simp [intOf]; omega⟩
      · obtain rfl : k = ws.length := by omega
        have hltI : ¬ (ws.length : Int) < (ws.length : Int) := by omega
        have HV : Hid (readP ps ws = some dn) := Lib.hid (by
          have h := HR.out
          rw [List.drop_of_length_le (Nat.le_refl _), List.drop_of_length_le (by have := HNE.out; omega)] at h
          rw [h]
          simp [readP, thenP])
        go_wp2_with fail
        go_ret2
        exact ⟨⟨_, by rw [HV.out]; rfl, fun ns h => by rw [HV.out] at h; cases h; exact ownsRow_mono' HA.out hs1⟩, HBW.out⟩
  · have HV : Hid (readP ps ws = none) := Lib.hid (by
      cases h : readP ps ws with
      | none => rfl
      | some ns => exact absurd (readP_len _ _ _ h).symm hne)
    have b1 : ((ws.length : Int) != (ps.length : Int)) = true := by simp; omega
    clear hne
    go_wp2_with fail
    go_ret2
    exact ⟨⟨_, by rw [HV.out]; rfl, fun ns h => by rw [HV.out] at h; cases h⟩, HB1.out⟩
end Go.Proofs.YtnnnpliigdfipaaGreatDoor
