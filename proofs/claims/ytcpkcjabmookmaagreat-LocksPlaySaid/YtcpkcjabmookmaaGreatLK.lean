/- The library's sort of pairs by a comparison, over an owned row; what a call lays that neither takes nor gives. -/
import Derived.Shelf.SlSortCmp.NoneTotal
import Derived.Test.YtcpkcjabmookmaaGreatLH
import Derived.Test.YtcpkcjabmookmaaGreatLJ
namespace Go.Proofs.YtcpkcjabmookmaaGreat.L
open Go Go.Sort Go.Shelf Go.Lib

/-- A function that neither asks for memory nor gives any lays new blocks and draws, no more. -/
theorem Fn.lays {P : Program} {f : FuncId} {args : Array Value} {v : Value} (h : Fn P f args [] (fun r post => r = v ∧ post = [])) (W : World) : Calls P f args W fun e w' => e = .returned v ∧ ∃ q os, w' = Sort.grow (W.drewN q) os :=
  (h.2 W [old W] W (St.start W)).mono fun e w' ⟨r, post, he, ⟨hr, hp⟩, hs⟩ => by
    subst hr hp
    refine ⟨he, w'.drawn - W.drawn, w'.heap.extract W.heap.size w'.heap.size, ?_⟩
    have hb := hs.old_below (List.Mem.head _) rfl rfl rfl
    have hd := hs.output.2
    obtain ⟨heap, tape, drawn, os, output⟩ := w'
    obtain ⟨b1, b2, b3, b4, b5⟩ := hb
    simp only at b1 b2 b3 b4 b5 hd
    subst b1 b2 b3
    have hh : heap = W.heap ++ heap.extract W.heap.size heap.size := by
      apply Array.ext_getElem?
      intro i
      rw [Array.getElem?_append]
      split
      · rename_i hi
        exact b5 i hi
      · rename_i hi
        rw [Array.getElem?_extract]
        by_cases hi2 : i < heap.size
        · rw [if_pos (by omega), show W.heap.size + (i - W.heap.size) = i by omega]
        · rw [if_neg (by omega), Array.getElem?_eq_none (by omega)]
    unfold Sort.grow World.drewN
    show World.mk _ _ _ _ _ = World.mk _ _ _ _ _
    simp only [World.mk.injEq, and_true, true_and]
    exact ⟨hh, by omega⟩
/-- slices.SortFunc at pairs. -/
theorem sortP {P : Program} {f g : FuncId} {le : P2 → P2 → Bool} (hc : callable P f) (hs : ∀ (blk off cap : Nat) (d : Array P2) (w : World), HoldsK P2.cells 2 w blk off d → blk < w.heap.size → d.size < 4611686018427387904 → Calls P f #[.slice (some ⟨blk, off, none⟩) d.size cap, .func (.func g) #[] #[]] w fun e w' => e = .returned (.tuple #[]) ∧ ∃ n os, w' = sortWorldK P2.cells 2 w blk off n (d.toList.mergeSort le).toArray os)
    (hn : ∀ (p : Option Addr) (cap : Nat) (w : World), Calls P f #[.slice p 0 cap, .func (.func g) #[] #[]] w fun e w' => e = .returned (.tuple #[]) ∧ w' = w)
    (e : TypeId) (p : Option Addr) (cap : Nat) (xs : List P2) (hl : xs.length < 4611686018427387904) : Fn P f [.slice p xs.length cap, .func (.func g) #[] #[]].toArray [RowO Kd.p2 e p cap xs] (fun r post => r = .tuple #[] ∧ post = [RowO Kd.p2 e p cap (xs.mergeSort le)]) := by
  refine ⟨hc, fun ρ L w hst => ?_⟩
  by_cases hx : xs = []
  · subst hx
    refine (hn p cap w).mono fun e' w' ⟨he, hw⟩ => ?_
    subst hw
    exact ⟨_, _, he, ⟨rfl, rfl⟩, by simpa using hst⟩
  · obtain ⟨b, o, rfl⟩ := rowO_addr (L := [RowO Kd.p2 e p cap xs] ++ L) (List.Mem.head _) hx w hst
    obtain ⟨c, hst2⟩ : ∃ c : {c : Array Value // xs.length ≤ cap ∧ o + cap * 2 ≤ c.size ∧ ∀ i x j v, xs[i]? = some x → x.cells[j]? = some v → c[o + i * 2 + j]? = some v}, St ρ (pt b (.cells c.1 e (0, 0)) :: L) w := by
      refine St.open_ (B := fun c : {c : Array Value // xs.length ≤ cap ∧ o + cap * 2 ≤ c.size ∧ ∀ i x j v, xs[i]? = some x → x.cells[j]? = some v → c[o + i * 2 + j]? = some v} => pt b (.cells c.1 e (0, 0))) ?_ hst
      intro g' h ha
      rcases (ha : _ ∨ _) with ⟨hp, _⟩ | ⟨b', o', c, hp, hlc, hb, hs', hr⟩
      · cases hp
      · cases hp
        refine ⟨⟨c, hlc, hs', fun i x j v hi hv => ?_⟩, hb⟩
        obtain ⟨cs, hrd, hcs⟩ := hr i x hi
        cases hrd
        exact hcs j v hv
    obtain ⟨c, hlc, hcs, hel⟩ := c
    have hheap := hst2.pt_heap (List.Mem.head _)
    have hget : ∀ (ys : List P2) (t : Nat) (ht : t < ys.length * 2), (flatK P2.cells 2 ys.toArray)[t]! = ((ys[t / 2]'(by omega)).cells)[t % 2]! := fun ys t ht => by
      rw [get_flatK P2.cells 2 ys.toArray t (by simpa using ht)]
      have : t / 2 < ys.length := by omega
      simp [this]
    have hH : HoldsK P2.cells 2 w b o xs.toArray := fun j hj => by
      have hj' : j < xs.length * 2 := by simpa using hj
      have hj2 : j / 2 < xs.length := by omega
      have hcl : ((xs[j / 2]).cells)[j % 2]? = some (((xs[j / 2]).cells)[j % 2]!) := by
        have : j % 2 < (xs[j / 2]).cells.length := by rw [p2_sz]; omega
        rw [List.getElem?_eq_getElem this]
        simp [this]
      have e1 := hel (j / 2) xs[j / 2] (j % 2) _ (List.getElem?_eq_getElem hj2) hcl
      rw [show o + j / 2 * 2 + j % 2 = o + j by omega] at e1
      refine ⟨?_, ?_⟩
      · rw [cell_of_heap hheap e1, hget xs j hj']
        rfl
      · show w.frozen? _ = _
        simp [World.frozen?, hheap]
    have hb : b < w.heap.size := (Array.getElem?_eq_some_iff.1 hheap).1
    refine (hs b o cap xs.toArray w hH hb (by simpa using hl)).mono fun e' w' ⟨he, n, os, hw⟩ => ?_
    subst hw
    have hst3 := St.putRow (off := o) id (flatK P2.cells 2 (xs.mergeSort le).toArray) n os hst2
    refine ⟨_, _, he, ⟨rfl, rfl⟩, St.turn (fun g' h ha => ?_) hst3⟩
    refine .inr ⟨b, o, _, rfl, by rw [List.length_mergeSort]; exact hlc, ha, by rw [putCells_size]; exact hcs, fun i x hi => ⟨x.cells, rfl, fun j v hv => ?_⟩⟩
    obtain ⟨hil, hix⟩ := List.getElem?_eq_some_iff.1 hi
    have hil' : i < xs.length := by rw [List.length_mergeSort] at hil; exact hil
    have hjl := (List.getElem?_eq_some_iff.1 hv).1
    rw [p2_sz] at hjl
    show (Sort.putCells id o (flatK P2.cells 2 (xs.mergeSort le).toArray) c)[o + i * 2 + j]? = _
    have hcl : ((xs[i]).cells)[j]? = some (((xs[i]).cells)[j]!) := by
      have : j < (xs[i]).cells.length := by rw [p2_sz]; omega
      rw [List.getElem?_eq_getElem this]
      simp [this]
    rw [putCells_get, hel i xs[i] j _ (List.getElem?_eq_getElem hil') hcl, Option.map_some, if_pos ⟨by omega, by simp only [size_flatK, List.size_toArray, List.length_mergeSort]; omega⟩, show o + i * 2 + j - o = i * 2 + j by omega, hget _ _ (by rw [List.length_mergeSort]; omega)]
    have h1 : (i * 2 + j) / 2 = i := by omega
    have h2 : (i * 2 + j) % 2 = j := by omega
    simp only [h1, h2, hix, id]
    rw [List.getElem!_of_getElem? hv]
def cfP2 (a b : P2) : Int := if a.a < b.a then -1 else if b.a < a.a then 1 else if a.b < b.b then -1 else if b.b < a.b then 1 else 0
def leP2 (x y : P2) : Bool := !(ltOf cfP2) y x
theorem ltP2 (x y : P2) : ltOf cfP2 x y = decide (x.a < y.a ∨ x.a = y.a ∧ x.b < y.b) := by
  unfold ltOf cfP2
  (repeat' split) <;> first | (rw [decide_eq_decide]; omega)
theorem swoP2 : Sort.SWO (ltOf cfP2) where
  irrefl x := by rw [ltP2]; simp
  trans x y z h1 h2 := by rw [ltP2] at *; simp at *; omega
  ntrans x y z h1 h2 := by rw [ltP2] at *; simp at *; omega
theorem totP2 (x y : P2) (h1 : ltOf cfP2 x y = false) (h2 : ltOf cfP2 y x = false) : x = y := by
  rw [ltP2] at *
  simp at *
  cases x; cases y
  simp at *
  omega
end Go.Proofs.YtcpkcjabmookmaaGreat.L
