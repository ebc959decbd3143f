/- From a contract to a law's call: whatever the world W, the law answers true and leaves all that W held as it was. -/
import Derived.Test.YtlellgnklohclaaOps6
namespace Go.Proofs.Ytlellgnklohclaa.L
open Go Go.RowKit

theorem St.start (W : World) : St W [old W] W :=
  ⟨rfl, rfl, rfl, heapOf W, fun _ => none, fun _ => .inr rfl, Hp.le_refl _, Hp.none_le _, fun _ => none, fun _ => none, fun _ => .inl rfl, Hp.none_le _, Hp.none_le _, Hp.le_refl _, trivial⟩
/-- The law answers true; pre: what is told of its arguments. -/
theorem Fn.law {P : Program} {f : FuncId} {args : Array Value} {pre : List HP} (h : Fn P f args pre (fun v post => v = .bool true ∧ post = [])) (W : World) (hpre : St W (pre ++ [old W]) W) :
    Calls P f args W (fun e w' => e = .returned (.bool true) ∧ Below W.heap.size W w') :=
  (h.2 W [old W] W hpre).mono fun _ _ ⟨_, _, he, ⟨hv, hp⟩, hs⟩ => by
    subst hv hp
    exact ⟨he, hs.old_below (List.Mem.head _) rfl rfl rfl⟩
/-- A row that stands in W, told of W's heap, is a frozen row. -/
theorem St.rowOf {α : Type} {k : Kd α} {W : World} {L : List HP} {w : World} {p : Option Addr} {xs : List α} (m : old W ∈ L)
    (h : xs = [] ∨ ∃ b o c e fr, p = some ⟨b, o, none⟩ ∧ W.heap[b]? = some (.cells c e fr) ∧ rowAt k (heapOf W) c o xs) (hs : St W L w) : St W (RowF k p xs :: L) w :=
  St.derive m rfl (fun _ _ hg => h.imp id fun ⟨b, o, c, e, fr, hp, hb, hr⟩ => ⟨b, o, c, e, fr, hp, (hg : Hp.le (heapOf W) _) _ _ hb, hr.mono hg⟩) hs
/-- A text's bound, as the walks take it. -/
theorem sz_le {s : ByteArray} (h : s.size ≤ maxLen) : (s.size : Int) ≤ 9223372036854775807 := by unfold maxLen at h; omega
end Go.Proofs.Ytlellgnklohclaa.L
