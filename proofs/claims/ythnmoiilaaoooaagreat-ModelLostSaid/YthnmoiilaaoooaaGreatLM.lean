/- Ranges over a map of one's own, in whichever order. No program in sight. -/
import Derived.Maps.RangeRun
import Derived.Test.YthnmoiilaaoooaaGreatLD
namespace Go.Proofs.YthnmoiilaaoooaaGreat.L
open Go Go.RowKit
open Go.ChangeMaps (setBlock)

/-- A range over a map under way: the entries, the one that came last, and those still to come. -/
structure ItF {κ : Type} (enc : κ → Value) (b r : Nat) (es : List (κ × Value)) (cur : Option (κ × Value)) (todo : List (κ × Value)) (ents : Array MapEntry) (clock : Nat) (seen : Array Nat) : Prop where
  ne : r ≠ b
  es : ents.toList.map (fun e => (e.key, e.val)) = es.map (fun p => (enc p.1, p.2))
  bo : bornOk ents clock
  left : (leftOf ents seen).toList.map (fun e => (e.key, e.val)) = todo.map (fun p => (enc p.1, p.2))
  cur : ∀ p, cur = some p → ∃ (e : MapEntry) (s' : Array Nat), e ∈ ents.toList ∧ seen = s'.push e.born ∧ e.key = enc p.1 ∧ e.val = p.2
abbrev ItI {κ : Type} (enc : κ → Value) (b r : Nat) (es : List (κ × Value)) (cur : Option (κ × Value)) (todo : List (κ × Value)) := { a : (Array MapEntry × Nat) × Array Nat // ItF enc b r es cur todo a.1.1 a.1.2 a.2 }
def itO {κ : Type} (enc : κ → Value) (b r : Nat) (es : List (κ × Value)) (cur : Option (κ × Value)) (todo : List (κ × Value)) : HP :=
  HP.ex (fun a : ItI enc b r es cur todo => [pt b (.map a.1.1.1 a.1.1.2), pt r (.mapIter (some b) a.1.1.2 a.1.2 a.1.1.2)])
/-- What a step of a range says. -/
def nextL {κ : Type} (enc : κ → Value) (todo : List (κ × Value)) : Option Nat → List Value
  | none => [.bool false]
  | some i => match todo[i]? with
    | some p => [.bool true, enc p.1, p.2]
    | none => [.bool false]
structure NextOk {κ : Type} (todo : List (κ × Value)) (o : Option Nat) : Prop where
  none : o = none → todo = []
  some : ∀ i, o = some i → i < todo.length
def nextCur {κ : Type} (todo : List (κ × Value)) (o : Option Nat) : Option (κ × Value) := o.bind fun i => todo[i]?
def nextTodo {κ : Type} (todo : List (κ × Value)) (o : Option Nat) : List (κ × Value) := o.elim todo fun i => todo.eraseIdx i
theorem nextL_0 {κ : Type} {enc : κ → Value} {todo : List (κ × Value)} {o : Option Nat} (h : NextOk todo o) : (nextL enc todo o)[0]? = some (.bool o.isSome) := by
  cases o with
  | none => rfl
  | some i =>
    show (match todo[i]? with
      | some p => [Value.bool true, enc p.1, p.2]
      | none => [Value.bool false])[0]? = _
    rw [List.getElem?_eq_getElem (h.some i rfl)]; rfl
theorem filter_erase : ∀ {l : List MapEntry} {i : Nat} {e : MapEntry}, (l.map (·.born)).Nodup → l[i]? = some e → l.filter (fun x => !(x.born == e.born)) = l.eraseIdx i
  | [], i, e, _, h => by cases h
  | a :: l, 0, e, hn, h => by
    obtain rfl : a = e := by simpa using h
    obtain ⟨h1, h2⟩ := List.nodup_cons.1 hn
    rw [List.filter_cons, if_neg (by simp), List.eraseIdx_cons_zero, List.filter_eq_self]
    intro x hx
    have : x.born ≠ a.born := fun (e : x.born = a.born) => h1 (by show a.born ∈ _; rw [← e]; exact List.mem_map_of_mem (f := fun x : MapEntry => x.born) hx)
    simpa using this
  | a :: l, i + 1, e, hn, h => by
    obtain ⟨h1, h2⟩ := List.nodup_cons.1 hn
    have h : l[i]? = some e := by simpa using h
    have hm := List.mem_of_getElem? h
    have : a.born ≠ e.born := fun (e2 : a.born = e.born) => h1 (by show a.born ∈ _; rw [e2]; exact List.mem_map_of_mem (f := fun x : MapEntry => x.born) hm)
    rw [List.filter_cons, if_pos (by simpa using this), List.eraseIdx_cons_succ, filter_erase h2 h]
theorem Pick.of_mem : ∀ {L : List HP} {A : HP}, A ∈ L → ∃ L', Pick L A L'
  | _ :: L, _, List.Mem.head _ => ⟨L, .here⟩
  | B :: L, _, List.Mem.tail _ m => let ⟨L', p⟩ := Pick.of_mem m; ⟨B :: L', .there p⟩
section
variable {X : Fx} {E : Env} {L L1 : List HP} {d : Option Tmp} {ty : TypeId} {pos : String} {af : Array Edge} {gd : Option (Nat × Bool)} {t k e : TypeId} {x ix y : Operand} {κ : Type} {enc : κ → Value}
theorem l_rangeM {b : Nat} {es : List (κ × Value)} (ht : X.P.underlying t = some (.map k e)) (hx : Env.ev E x = some (.map (some b))) (hp : Pick L (mpO enc b es) L1) :
    OpL X ⟨d, .range t x, ty, pos, af, gd⟩ E L (fun v' L' => ∃ r, v' = .pointer (some ⟨r, 0, none⟩) ∧ L' = itO enc b r es none es :: L1) := fun a w hk hs => by
  have hs' := hs.pick hp
  obtain ⟨⟨⟨ents, clock⟩, he, hbo⟩, hst⟩ := St.open_ (A := mpO enc b es) (B := fun a : { a : Array MapEntry × Nat // a.1.toList.map (fun e => (e.key, e.val)) = es.map (fun p => (enc p.1, p.2)) ∧ bornOk a.1 a.2 } => pt b (.map a.1.1 a.1.2)) (fun g h ha => by obtain ⟨en, cl, hb, he, hbo⟩ := ha; exact ⟨⟨(en, cl), he, hbo⟩, hb⟩) hs'
  have hb : w.heap[b]? = some (.map ents clock) := hst.pt_heap (List.Mem.head _)
  have hrun : (execOp a.eval ⟨d, .range t x, ty, pos, af, gd⟩).run X.P w = .ok (.value (.pointer (some ⟨w.heap.size, 0, none⟩))) (w.alloc (.mapIter (some b) clock #[] clock)) := by
    simp only [execOp, hk.ev hx, Sem.run_bind, run_range_map w t k e b ents clock ht hb, Result.andThen_ok, Sem.run_pure]
  unfold Oper.wp
  rw [hrun]
  refine ⟨_, _, ⟨w.heap.size, rfl, rfl⟩, rfl, ?_⟩
  have hst2 := hst.alloc (.mapIter (some b) clock #[] clock)
  have hlt := (Array.getElem?_eq_some_iff.1 hb).1
  refine St.exI (f := fun a : ItI enc b w.heap.size es none es => [pt b (.map a.1.1.1 a.1.1.2), pt w.heap.size (.mapIter (some b) a.1.1.2 a.1.2 a.1.1.2)]) ⟨((ents, clock), #[]), by omega, he, hbo, ?_, fun p hp => by cases hp⟩ (hst2.fit (M := [pt b (.map ents clock), pt w.heap.size (.mapIter (some b) clock #[] clock)]) (by repeat (first | exact Give.nil | (apply Give.perI; (repeat (first | exact List.Mem.head _ | apply List.Mem.tail))) | (apply Give.own; (repeat (first | exact Pick.here | apply Pick.there))))) (by repeat (first | exact Drop.refl | apply Drop.skip)))
  have h0 : leftOf ents #[] = ents := by unfold leftOf; rw [Array.filter_eq_self]; intro x _; simp
  show (leftOf ents #[]).toList.map _ = _
  rw [h0]; exact he
theorem l_nextM {b r : Nat} {es todo : List (κ × Value)} {cur : Option (κ × Value)} (hx : Env.ev E x = some (.pointer (some ⟨r, 0, none⟩))) (hp : Pick L (itO enc b r es cur todo) L1) :
    OpL X ⟨d, .next x false, ty, pos, af, gd⟩ E L (fun v' L' => ∃ o, NextOk todo o ∧ v' = .tuple (nextL enc todo o).toArray ∧ L' = itO enc b r es (nextCur todo o) (nextTodo todo o) :: L1) := fun a w hk hs => by
  obtain ⟨⟨⟨⟨ents, clock⟩, seen⟩, hf⟩, hst⟩ := St.exP hp hs
  have hf : ItF enc b r es cur todo ents clock seen := hf
  have hst : St X.ρ (pt b (.map ents clock) :: pt r (.mapIter (some b) clock seen clock) :: L1) w := hst
  have hb : w.heap[b]? = some (.map ents clock) := hst.pt_heap (List.Mem.head _)
  have hr : w.heap[r]? = some (.mapIter (some b) clock seen clock) := hst.pt_heap (List.Mem.tail _ (List.Mem.head _))
  unfold Oper.wp
  rcases run_next_at (P := X.P) w ty r b clock clock seen ents clock hr hb hf.bo.2 (Nat.le_refl _) with ⟨h0, hrun⟩ | ⟨e, he, w1, hal, hrun⟩
  · have hr2 : (execOp a.eval ⟨d, .next x false, ty, pos, af, gd⟩).run X.P w = .ok (.value (.tuple #[.bool false])) w := by
      simp only [execOp, hk.ev hx, Sem.run_bind, hrun, Result.andThen_ok, Sem.run_pure]
    rw [hr2]
    have htodo : todo = [] := by
      have := congrArg List.length hf.left
      rw [List.length_map, List.length_map, Array.length_toList, h0] at this
      exact List.length_eq_zero_iff.1 this.symm
    refine ⟨_, _, ⟨none, ⟨fun _ => htodo, fun i hi => by cases hi⟩, rfl, rfl⟩, rfl, ?_⟩
    exact St.exI (f := fun a : ItI enc b r es none todo => [pt b (.map a.1.1.1 a.1.1.2), pt r (.mapIter (some b) a.1.1.2 a.1.2 a.1.1.2)]) ⟨((ents, clock), seen), hf.ne, hf.es, hf.bo, hf.left, fun p hp => by cases hp⟩ hst
  · have hr2 : (execOp a.eval ⟨d, .next x false, ty, pos, af, gd⟩).run X.P w = .ok (.value (.tuple #[.bool true, e.key, e.val])) (setBlock w1 r (.mapIter (some b) clock (seen.push e.born) clock)) := by
      simp only [execOp, hk.ev hx, Sem.run_bind, hrun, Result.andThen_ok, Sem.run_pure]
    rw [hr2]
    obtain ⟨i, hi, hie⟩ := List.mem_iff_getElem.1 he
    have hil : i < todo.length := by
      have := congrArg List.length hf.left
      rw [List.length_map, List.length_map] at this
      omega
    have hie2 : (leftOf ents seen).toList[i]? = some e := by rw [List.getElem?_eq_getElem hi, hie]
    obtain ⟨p, hpi⟩ : ∃ p, todo[i]? = some p := ⟨_, List.getElem?_eq_getElem hil⟩
    have hkv : e.key = enc p.1 ∧ e.val = p.2 := by
      have := congrArg (fun l => l[i]?) hf.left
      simp only [List.getElem?_map, hie2, hpi, Option.map_some, Option.some.injEq, Prod.mk.injEq] at this
      exact this
    obtain ⟨hk1, hk2⟩ := hkv
    have hem : e ∈ ents.toList := by
      have := he
      simp only [leftOf, Array.toList_filter, List.mem_filter] at this
      exact this.1
    refine ⟨_, _, ⟨some i, ⟨fun h => (by cases h), fun j hj => (by cases hj; exact hil)⟩, ?_, rfl⟩, rfl, ?_⟩
    · show _ = Value.tuple (nextL enc todo (some i)).toArray
      unfold nextL
      simp only [hpi, ← hk1, ← hk2]
    · have hw1 : St X.ρ (pt r (.mapIter (some b) clock seen clock) :: pt b (.map ents clock) :: L1) w1 := by
        have h2 := hst.fit (M := [pt r (.mapIter (some b) clock seen clock), pt b (.map ents clock)]) (by repeat (first | exact Give.nil | (apply Give.perI; (repeat (first | exact List.Mem.head _ | apply List.Mem.tail))) | (apply Give.own; (repeat (first | exact Pick.here | apply Pick.there))))) (by repeat (first | exact Drop.refl | apply Drop.skip))
        rcases hal with rfl | rfl
        · exact h2
        · exact h2.drewN (w.drawn + 1) (Nat.le_succ _)
      have hput := hw1.put (.mapIter (some b) clock (seen.push e.born) clock)
      refine St.exI (f := fun a : ItI enc b r es (some p) (todo.eraseIdx i) => [pt b (.map a.1.1.1 a.1.1.2), pt r (.mapIter (some b) a.1.1.2 a.1.2 a.1.1.2)]) ⟨((ents, clock), seen.push e.born), hf.ne, hf.es, hf.bo, ?_, fun p' hp' => by cases hp'; exact ⟨e, seen, hem, rfl, hk1, hk2⟩⟩ (hput.fit (M := [pt b (.map ents clock), pt r (.mapIter (some b) clock (seen.push e.born) clock)]) (by repeat (first | exact Give.nil | (apply Give.perI; (repeat (first | exact List.Mem.head _ | apply List.Mem.tail))) | (apply Give.own; (repeat (first | exact Pick.here | apply Pick.there))))) (by repeat (first | exact Drop.refl | apply Drop.skip))) |> (fun h => by
        have : nextCur todo (some i) = some p := hpi
        rw [this]; exact h)
      have hnd : ((leftOf ents seen).toList.map (·.born)).Nodup := by
        refine List.Nodup.sublist (List.Sublist.map _ ?_) hf.bo.1
        simp only [leftOf, Array.toList_filter]
        exact List.filter_sublist
      have hl2 : (leftOf ents (seen.push e.born)).toList = (leftOf ents seen).toList.eraseIdx i := by
        have h1 : (leftOf ents (seen.push e.born)).toList = (leftOf ents seen).toList.filter (fun x => !(x.born == e.born)) := by
          simp only [leftOf, Array.toList_filter, List.filter_filter]
          refine List.filter_congr fun x _ => ?_
          simp only [Array.contains_push, Bool.not_or]
          rw [Bool.and_comm]
        rw [h1]
        exact filter_erase hnd hie2
      rw [hl2, Go.ChangeMaps.map_eraseIdx, hf.left, ← Go.ChangeMaps.map_eraseIdx]
theorem q_entryM {b r : Nat} {es todo : List (κ × Value)} {p : κ × Value} (hx : Env.ev E x = some (.pointer (some ⟨r, 0, none⟩))) (m : itO enc b r es (some p) todo ∈ L) :
    OpQ X ⟨d, .entry x, ty, pos, af, gd⟩ E L (.tuple [enc p.1, p.2].toArray) := fun a w hk hs => by
  obtain ⟨L1, hp⟩ := Pick.of_mem m
  obtain ⟨⟨⟨⟨ents, clock⟩, seen⟩, hf⟩, hst⟩ := St.exP hp hs
  have hf : ItF enc b r es (some p) todo ents clock seen := hf
  have hst : St X.ρ (pt b (.map ents clock) :: pt r (.mapIter (some b) clock seen clock) :: L1) w := hst
  have hb : w.heap[b]? = some (.map ents clock) := hst.pt_heap (List.Mem.head _)
  have hr : w.heap[r]? = some (.mapIter (some b) clock seen clock) := hst.pt_heap (List.Mem.tail _ (List.Mem.head _))
  obtain ⟨e, s', hem, hse, hk1, hk2⟩ := hf.cur p rfl
  subst hse
  have hrun := run_entry_at (P := X.P) w r b clock s' ents clock e hr hb hem hf.bo.1
  simp only [execOp, hk.ev hx, Sem.run_bind, hrun, Result.andThen_ok, Sem.run_pure, hk1, hk2]
end
theorem itO_back {κ : Type} {enc : κ → Value} {b r : Nat} {es todo : List (κ × Value)} {cur : Option (κ × Value)} {ρ : World} {L : List HP} {w : World} (h : St ρ (itO enc b r es cur todo :: L) w) : St ρ (mpO enc b es :: L) w := by
  obtain ⟨⟨⟨⟨ents, clock⟩, seen⟩, hf⟩, h2⟩ := St.exO h
  have h2 : St ρ (pt b (.map ents clock) :: pt r (.mapIter (some b) clock seen clock) :: L) w := h2
  have hf : ItF enc b r es cur todo ents clock seen := hf
  have h3 : St ρ (mpO enc b es :: pt r (.mapIter (some b) clock seen clock) :: L) w := St.turn (A := pt b (.map ents clock)) (fun g hh ha => ⟨ents, clock, ha, hf.es, hf.bo⟩) h2
  exact h3.fit (M := [mpO enc b es]) (by repeat (first | exact Give.nil | (apply Give.perI; (repeat (first | exact List.Mem.head _ | apply List.Mem.tail))) | (apply Give.own; (repeat (first | exact Pick.here | apply Pick.there))))) (by repeat (first | exact Drop.refl | apply Drop.skip))
end Go.Proofs.YthnmoiilaaoooaaGreat.L
