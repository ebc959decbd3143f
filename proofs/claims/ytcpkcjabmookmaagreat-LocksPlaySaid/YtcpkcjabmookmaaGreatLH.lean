/- The library's sort of numbers, over an owned row: the shelf's contract said in the words of the walks. -/
import Derived.Shelf.Slices.In.SortNone
import Derived.Shelf.Sort.Plain
import Derived.Test.YtcpkcjabmookmaaGreatLG
namespace Go.Proofs.YtcpkcjabmookmaaGreat.L
open Go

theorem St.grow {ρ : World} {L : List HP} {w : World} (h : St ρ L w) (os : Array Obj) : St ρ L (Sort.grow w os) := by
  obtain ⟨g, k, ap, lg, lk, d⟩ := h.body
  have up : Hp.le (heapOf w) (heapOf (Sort.grow w os)) := fun b o e => by
    have e : w.heap[b]? = some o := e
    show (w.heap ++ os)[b]? = some o
    rw [Array.getElem?_append_left (Array.getElem?_eq_some_iff.1 e).1]
    exact e
  exact ⟨h.os, h.tape, h.output, g, k, ap, Hp.le_trans lg up, Hp.le_trans lk up, d⟩
theorem putRow_at {β : Type} [Inhabited β] {w : World} {b off : Nat} {c : Array Value} {e : TypeId} {fr : Nat × Nat} (enc : β → Value) (d : Array β) (h : w.heap[b]? = some (.cells c e fr)) : (Sort.putRow enc w b off d).heap[b]? = some (.cells (Sort.putCells enc off d c) e fr) := by
  show (w.heap.modify b _)[b]? = _
  rw [Array.getElem?_modify, if_pos rfl, h]; rfl
theorem putRow_ne {β : Type} [Inhabited β] {w : World} {b off x : Nat} (enc : β → Value) (d : Array β) (h : x ≠ b) : (Sort.putRow enc w b off d).heap[x]? = w.heap[x]? := by
  show (w.heap.modify b _)[x]? = _
  rw [Array.getElem?_modify, if_neg (Ne.symm h)]
theorem St.putRow {β : Type} [Inhabited β] {ρ : World} {L : List HP} {w : World} {b off : Nat} {c : Array Value} {e : TypeId} (enc : β → Value) (d : Array β) (n : Nat) (os : Array Obj) (h : St ρ (pt b (.cells c e (0, 0)) :: L) w) :
    St ρ (pt b (.cells (Sort.putCells enc off d c) e (0, 0)) :: L) (Sort.grow (Sort.putRow enc (Sort.ahead w n) b off d) os) :=
  St.grow (h.write (w' := Sort.putRow enc (Sort.ahead w n) b off d) rfl rfl rfl (putRow_at (w := Sort.ahead w n) enc d (show w.heap[b]? = _ from h.pt_heap (List.Mem.head _))) (fun _ hx => putRow_ne enc d hx) (Nat.le_add_right _ _)) os
theorem putCells_get {β : Type} [Inhabited β] (enc : β → Value) (off : Nat) (d : Array β) (c : Array Value) (j : Nat) : (Sort.putCells enc off d c)[j]? = (c[j]?).map (fun x => if off ≤ j ∧ j < off + d.size then enc d[j - off]! else x) := by
  simp only [Sort.putCells, Array.getElem?_mapIdx]
theorem putCells_size {β : Type} [Inhabited β] (enc : β → Value) (off : Nat) (d : Array β) (c : Array Value) : (Sort.putCells enc off d c).size = c.size := by simp [Sort.putCells]
/-- slices.Sort at numbers. -/
theorem sortI {P : Program} {f : FuncId} (hc : callable P f) (hs : ∀ (blk off cap : Nat) (zs : List Int) (w : World), Sort.Holds (Value.int .i64) w blk off zs.toArray → blk < w.heap.size → zs.length < 4611686018427387904 → Calls P f #[.slice (some ⟨blk, off, none⟩) zs.length cap] w fun e w' => e = .returned (.tuple #[]) ∧ ∃ n os, w' = Sort.grow (Sort.putRow (Value.int .i64) (Sort.ahead w n) blk off (zs.mergeSort fun x y => decide (x ≤ y)).toArray) os)
    (hn : ∀ (p : Option Addr) (cap : Nat) (w : World), Calls P f #[.slice p 0 cap] w fun e w' => e = .returned (.tuple #[]) ∧ w' = w)
    (e : TypeId) (p : Option Addr) (cap : Nat) (xs : List Int) (hl : xs.length < 4611686018427387904) : Fn P f [.slice p xs.length cap].toArray [RowO (Kd.int .i64) e p cap xs] (fun r post => r = .tuple #[] ∧ post = [RowO (Kd.int .i64) e p cap (xs.mergeSort fun x y => decide (x ≤ y))]) := by
  refine ⟨hc, fun ρ L w hst => ?_⟩
  by_cases hx : xs = []
  · subst hx
    refine (hn p cap w).mono fun e' w' ⟨he, hw⟩ => ?_
    subst hw
    exact ⟨_, _, he, ⟨rfl, rfl⟩, by simpa using hst⟩
  · obtain ⟨b, o, rfl⟩ := rowO_addr (L := [RowO (Kd.int .i64) e p cap xs] ++ L) (List.Mem.head _) hx w hst
    obtain ⟨c, hst2⟩ : ∃ c : {c : Array Value // xs.length ≤ cap ∧ o + cap * 1 ≤ c.size ∧ ∀ i x, xs[i]? = some x → c[o + i]? = some (.int .i64 x)}, St ρ (pt b (.cells c.1 e (0, 0)) :: L) w := by
      refine St.open_ (B := fun c : {c : Array Value // xs.length ≤ cap ∧ o + cap * 1 ≤ c.size ∧ ∀ i x, xs[i]? = some x → c[o + i]? = some (.int .i64 x)} => pt b (.cells c.1 e (0, 0))) ?_ hst
      intro g h ha
      rcases (ha : _ ∨ _) with ⟨hp, _⟩ | ⟨b', o', c, hp, hlc, hb, hs', hr⟩
      · cases hp
      · cases hp
        refine ⟨⟨c, hlc, hs', fun i x hi => ?_⟩, hb⟩
        obtain ⟨cs, hrd, hcs⟩ := hr i x hi
        cases hrd
        have := hcs 0 _ rfl
        rw [show o + i * (Kd.int .i64).sz + 0 = o + i from by show o + i * 1 + 0 = _; omega] at this
        exact this
    obtain ⟨c, hlc, hcs, hel⟩ := c
    have hheap := hst2.pt_heap (List.Mem.head _)
    have hH : Sort.Holds (Value.int .i64) w b o xs.toArray := fun j hj => by
      have hj' : j < xs.length := by simpa using hj
      have e1 := hel j xs[j] (List.getElem?_eq_getElem hj')
      refine ⟨?_, ?_⟩
      · rw [cell_of_heap hheap e1]
        simp [hj']
      · show w.frozen? _ = _
        simp [World.frozen?, hheap]
    have hb : b < w.heap.size := (Array.getElem?_eq_some_iff.1 hheap).1
    refine (hs b o cap xs w hH hb hl).mono fun e' w' ⟨he, n, os, hw⟩ => ?_
    subst hw
    have hst3 := St.putRow (off := o) (Value.int .i64) (xs.mergeSort fun x y => decide (x ≤ y)).toArray n os hst2
    refine ⟨_, _, he, ⟨rfl, rfl⟩, St.turn (fun g h ha => ?_) hst3⟩
    refine .inr ⟨b, o, _, rfl, by rw [List.length_mergeSort]; exact hlc, ha, by rw [putCells_size]; exact hcs, fun i x hi => ⟨[.int .i64 x], rfl, fun j v hv => ?_⟩⟩
    have hil := (List.getElem?_eq_some_iff.1 hi)
    obtain ⟨hil, hix⟩ := hil
    have hil' : i < xs.length := by rw [List.length_mergeSort] at hil; exact hil
    match j, hv with
    | 0, hv =>
      simp only [List.getElem?_cons_zero, Option.some.injEq] at hv
      subst hv
      show (Sort.putCells _ _ _ _)[o + i * 1 + 0]? = _
      rw [show o + i * 1 + 0 = o + i by omega, putCells_get, hel i xs[i] (List.getElem?_eq_getElem hil'), Option.map_some, if_pos ⟨by omega, by simp only [List.size_toArray, List.length_mergeSort]; omega⟩, show o + i - o = i by omega]
      simp only [List.getElem!_toArray]
      rw [List.getElem!_of_getElem? hi]
end Go.Proofs.YtcpkcjabmookmaaGreat.L
