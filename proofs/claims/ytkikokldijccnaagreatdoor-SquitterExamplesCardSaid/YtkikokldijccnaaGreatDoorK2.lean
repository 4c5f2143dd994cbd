/- More small words for memory. -/
import Derived.Test.YtkikokldijccnaaGreatDoorK
namespace Go.Proofs.YtkikokldijccnaaGreatDoor
open Go.RowKit

theorem wpList_appH {P : Program} {ops : Array Oper} {rest : List Oper} {o : Oper} {a : Act} {Q : Exit → Act → World → Prop} {w : World} (hgd : o.guard = none) (s x : Operand) (t : TypeId)
    (ho : o.op = .call { callee := .builtin .append, args := #[s, x], argTypes := #[t, t] }) (k : IntKind)
    (base : Nat) (e : TypeId) (i : TypeInfo) (z : Value) (size bytes : Nat) (ht : P.underlying t = some (.slice e)) (hi : P.info? e = some i) (hz : i.zero = some z)
    (hsize : i.size = size) (hby : i.bytes = bytes) (hzs : z.cells.size = size) (hsz : 0 < size)
    (v : Value) (n : Nat) (ys news : List Int) (hs : a.eval s = v) (hown : Acc k w base e size v n ys)
    (ob : Obj) (hob : ob = .cells (news.map (Value.int k)).toArray e) (H : Nat) (hx : a.eval x = .slice (some ⟨H, 0, none⟩) 1 1) (hH : w.heap.size = H) (hl : news.length = size)
    (hn : n ≤ 1000000) (hb1 : bytes ≤ 1000) (hbase : base ≤ w.heap.size)
    (h : ∀ v' w', Acc k w' base e size v' (n + 1) (ys ++ news) → Below base w w' → wpList P ops Q rest (a.put o.dst v') w') : wpList P ops Q (o :: rest) a (w.alloc ob) := by
  subst hH
  exact wpList_app hgd s x t ho k base e i z size bytes ht hi hz hsize hby hzs hsz v n ys news hs hown ob hob hx hl hn hb1 hbase h
end Go.Proofs.YtkikokldijccnaaGreatDoor
