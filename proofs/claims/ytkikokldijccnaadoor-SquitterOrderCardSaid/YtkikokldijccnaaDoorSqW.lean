/- squitter in plain Lean: hearings of one cycle, half way. -/
import Derived.Test.YtkikokldijccnaaDoorSqT
namespace Go.Proofs.YtkikokldijccnaaDoor
structure Half (base : Ts) (s : Int) (L : List Int) (t : Ts) : Prop where
  ok : Ok t
  now : t.now ≤ s
  eq : advT t s = heardL base s L
theorem heardL_keys (s : Int) (U : List Int) : ∀ (l : List Int) (t : Ts), (∀ p ∈ t.es, p.1 ∈ U) → (∀ a ∈ l, a ∈ U) → ∀ p ∈ (heardL t s l).es, p.1 ∈ U
  | [], _, h, _ => h
  | a :: l, t, h, hl => heardL_keys s U l (heardT t a s) (fun p hp => by
      rcases mem_putT hp with rfl | hp
      · exact hl a (List.mem_cons_self ..)
      · exact h p hp) fun b hb => hl b (List.mem_cons_of_mem _ hb)
theorem keys_len {es : List (Int × Tk)} {U : List Int} (h : Asc es) (hU : ∀ p ∈ es, p.1 ∈ U) : es.length ≤ U.length := by
  have := up_sub (L := U) h.keys fun a ha => by
    obtain ⟨p, hp, rfl⟩ := List.mem_map.1 ha
    exact hU p hp
  rwa [List.length_map] at this
theorem Half.hear {base : Ts} {s : Int} {L U : List Int} {t : Ts} (h : Half base s L t) (ha : Asc base.es) (hs0 : 0 ≤ s) (hs : s ≤ 1073741824) (hU : ∀ p ∈ base.es, p.1 ∈ U) (hL : ∀ a ∈ L, a ∈ U) (hl : U.length < 64) {a : Int} (h0 : 0 ≤ a) (h1 : a ≤ 16777215) : hearE t a s = 0 ∧ Half base s (L ++ [a]) (hearT t a s) := by
  have hte : tickE t s = 0 := by
    have := h.now
    unfold tickE
    rw [if_neg (by omega), if_neg (by omega)]
  have hlen : (advT t s).es.length < 64 := by
    rw [h.eq]
    have := keys_len ((heardL_par s L base).2.2.2.2 ha) (heardL_keys s U L base hU hL)
    omega
  have hf : ¬ (lookT a (advT t s).es = none ∧ 64 ≤ (advT t s).es.length) := fun g => by omega
  have hE : hearE t a s = 0 := by unfold hearE; rw [if_neg (by omega), if_neg (fun g => g hte), if_neg hf]
  have hT : hearT t a s = heardT (advT t s) a s := by unfold hearT; rw [if_neg (by omega), if_neg (fun g => g hte), if_neg hf]
  have hok := h.ok.hear a s
  have hnow : (hearT t a s).now = s := by rw [hT]; rfl
  refine ⟨hE, hok, by omega, ?_⟩
  have hs' := adv_self hok
  rw [hnow] at hs'
  rw [hs', hT, h.eq]
  simp [heardL]
theorem Half.tick {base : Ts} {s : Int} {L : List Int} {t : Ts} (h : Half base s L t) (hs0 : 0 ≤ s) (hs : s ≤ 1073741824) : tickE t s = 0 ∧ tickT t s = heardL base s L := by
  have hte : tickE t s = 0 := by
    have := h.now
    unfold tickE
    rw [if_neg (by omega), if_neg (by omega)]
  exact ⟨hte, by unfold tickT; rw [if_pos hte, h.eq]⟩
/-- two tables between two cycles: the second is behind -/
structure Rl (U : List Int) (T : Int) (ta tb : Ts) : Prop where
  oka : Ok ta
  okb : Ok tb
  now : ta.now = T
  le : tb.now ≤ T
  eq : advT tb T = ta
  keys : ∀ p ∈ ta.es, p.1 ∈ U
theorem Rl.start {U : List Int} {T s : Int} {ta tb : Ts} (h : Rl U T ta tb) (hs : T ≤ s) : Half (advT ta s) s [] ta ∧ Half (advT ta s) s [] tb ∧ (∀ p ∈ (advT ta s).es, p.1 ∈ U) ∧ Asc (advT ta s).es := by
  refine ⟨⟨h.oka, by rw [h.now]; exact hs, rfl⟩, ⟨h.okb, Int.le_trans h.le hs, ?_⟩, fun p hp => ?_, adv_asc h.oka.asc⟩
  · show advT tb s = advT ta s
    rw [← h.eq, adv_adv h.okb.asc hs fun p hp => ⟨(h.okb.ent p hp).ne, (h.okb.ent p hp).up⟩]
  · obtain ⟨q, hq, rfl⟩ := List.mem_map.1 hp
    exact h.keys q (List.mem_filter.1 hq).1
/-- behind a cycle: the first has ticked; the second has ticked, or not -/
theorem Rl.next {U : List Int} {s : Int} {base ta tb : Ts} {L M : List Int} (ha : Half base s L ta) (hb : Half base s M tb) (hbase : Asc base.es) (hn : base.now = s) (hk : ∀ p ∈ base.es, p.1 ∈ U) (hL : ∀ a ∈ L, a ∈ U) (hLM : ∀ a, a ∈ L ↔ a ∈ M) (hs0 : 0 ≤ s) (hs : s ≤ 1073741824) {tb' : Ts} (ht : tb' = tb ∨ tb' = tickT tb s) : Rl U s (tickT ta s) tb' ∧ (tb'.now = s → tb' = tickT ta s) := by
  have e := heardL_set hbase s hLM
  obtain ⟨_, ea⟩ := ha.tick hs0 hs
  obtain ⟨_, eb⟩ := hb.tick hs0 hs
  have hp := heardL_par s L base
  have hab : tickT ta s = tickT tb s := by rw [ea, eb, e]
  have hoka := ha.ok.tick s
  have hnow : (tickT ta s).now = s := by rw [ea, hp.2.2.2.1, hn]
  have hkeys : ∀ p ∈ (tickT ta s).es, p.1 ∈ U := by rw [ea]; exact heardL_keys s U L base hk hL
  rcases ht with rfl | rfl
  · have heq : advT tb' s = tickT ta s := by rw [hab, eb, hb.eq]
    refine ⟨⟨hoka, hb.ok, hnow, hb.now, heq, hkeys⟩, fun h => ?_⟩
    have := adv_self hb.ok
    rw [h, heq] at this
    exact this.symm
  · have hs' := adv_self hoka
    rw [hnow] at hs'
    refine ⟨⟨hoka, hb.ok.tick s, hnow, by rw [← hab, hnow]; exact Int.le_refl _, by rw [← hab, hs'], hkeys⟩, fun _ => hab.symm⟩
theorem Rl.new {U : List Int} {need win keep : Int} (h : newE need win keep = 0) : Rl U 0 ⟨need, win, keep, 0, []⟩ ⟨need, win, keep, 0, []⟩ :=
  ⟨Ok.new h, Ok.new h, rfl, Int.le_refl _, adv_self (Ok.new h), fun p hp => by cases hp⟩
end Go.Proofs.YtkikokldijccnaaDoor
