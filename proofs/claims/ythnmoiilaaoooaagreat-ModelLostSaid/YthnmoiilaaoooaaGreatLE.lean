/- A slice grown of nothing; slices of slices. No program in sight. -/
import Derived.Test.YthnmoiilaaoooaaGreatLD
namespace Go.Proofs.YthnmoiilaaoooaaGreat.L
open Go Go.RowKit

section
variable {X : Fx} {E : Env} {L L1 : List HP} {d : Option Tmp} {ty : TypeId} {pos : String} {af : Array Edge} {gd : Option (Nat × Bool)} {t t2 : TypeId} {x y : Operand}
theorem q_cap {p : Option Addr} {n c : Nat} {a e : TypeId} (ht : X.P.underlying a = some (.slice e)) (hx : Env.ev E x = some (.slice p n c)) : OpQ X ⟨d, .call ⟨.builtin .cap, [x].toArray, [a].toArray⟩, ty, pos, af, gd⟩ E L (.int .i64 c) := fun _ w hk _ => by
  simp [execOp, resolve, invoke, builtin, hk.ev hx, underlying, ht, Builtin.cap_, goInt]
/-- append(nil, make([]T, n)...) -/
theorem l_growNil {α : Type} (k : Kd α) {e bytes n : Nat} (ht : slElem X.P t = some (e, k.sz, bytes)) (ht2 : X.P.underlying t2 = some (.int .i64)) (hz : ∃ z, zeroOf X.P e = some z ∧ z.length = k.sz)
    (hx : Env.ev E x = some (.slice none 0 0)) (hy : Env.ev E y = some (.int .i64 (n : Int))) (h0 : 0 < n) (hbn : n ≤ 9223372036854775807) (hbig : n * bytes ≤ 281474976710656) :
    OpL X ⟨d, .call ⟨.builtin .append, [x, y].toArray, [t, t2].toArray⟩, ty, pos, af, gd⟩ E L (fun v L' => ∃ b cap', v = .slice (some ⟨b, 0, none⟩) n cap' ∧ L' = RowO k e (some ⟨b, 0, none⟩) cap' [] :: L) := fun a w hk hst => by
  have e1 := hk.ev hx
  have e2 := hk.ev hy
  unfold slElem at ht
  cases hu : X.P.underlying t with
  | none => rw [hu] at ht; simp at ht
  | some dd =>
    cases dd <;> rw [hu] at ht <;> simp only [reduceCtorEq] at ht
    rename_i e'
    cases hi : X.P.info? e' with
    | none => rw [hi] at ht; simp at ht
    | some inf =>
      rw [hi] at ht
      simp only [Option.some.injEq, Prod.mk.injEq] at ht
      obtain ⟨rfl, hisz, hiby⟩ := ht
      obtain ⟨z, hz1, hz2⟩ := hz
      unfold zeroOf at hz1
      rw [hi] at hz1
      simp only [Option.bind_some] at hz1
      obtain ⟨zv, hzv, hzc⟩ := Option.map_eq_some_iff.1 hz1
      have hzl : zv.cells.size = k.sz := by rw [← hz2, ← hzc]; simp
      have hw : IntKind.i64.wrap (n : Int) = n := wrap_i64 (by omega) (by omega)
      have hcap : Builtin.nextslicecap n 0 = n := by unfold Builtin.nextslicecap; rw [if_pos (by omega)]
      have hforced : (Question.appendCap n 0 e').forced = false := rfl
      let nc := (Question.appendCap n 0 e').cut (w.tape w.drawn (Question.appendCap n 0 e'))
      have hnc : n ≤ nc := Nat.le_add_right _ _
      have hni : ¬ n = 0 := by omega
      have hneg : ¬ (n : Int) < 0 := by omega
      have hb1 : ¬ ((n : Int) * (inf.bytes : Int) > 2 ^ 48) := by
        rw [hiby]
        have : ((n * bytes : Nat) : Int) ≤ 281474976710656 := by omega
        rw [Int.natCast_mul] at this
        omega
      have hb2 : ¬ (n * inf.bytes > 2 ^ 48) := by rw [hiby]; omega
      have hmax : ¬ ((n : Int) > IntKind.i64.max) := by rw [IntKind.max_i64]; omega
      obtain ⟨new, hnew, hnsz⟩ : ∃ new : Array Value, (∀ w', (if n * k.sz = 0 then (pure #[] : Sem (Array Value)) else do pure (Builtin.zeroCells (← zeroValue e').cells n)).run X.P w' = .ok new w') ∧ new.size = n * k.sz := by
        by_cases hk0 : n * k.sz = 0
        · exact ⟨#[], fun w' => by simp [hk0], by simp [hk0]⟩
        · exact ⟨Builtin.zeroCells zv.cells n, fun w' => by simp [hk0, zeroValue, typeInfo, hi, hzv], by simp [Builtin.zeroCells, hzl]⟩
      let arr : Array Value := new ++ Builtin.zeroCells zv.cells (nc - n)
      have hrun : (Builtin.append_ #[t, t2] ty #[.slice none 0 0, .int .i64 (n : Int)]).run X.P w = .ok (.slice (some ⟨w.heap.size, 0, none⟩) n nc) { w with drawn := w.drawn + 1, heap := w.heap.push (.cells arr e') } := by
        have hnew' := hnew w.drew
        have hb3 : ¬ (281474976710656 < (n : Int) * (inf.bytes : Int)) := by simpa using hb1
        have hb4 : ¬ (281474976710656 < n * inf.bytes) := by simpa using hb2
        have hm2 : ¬ (9223372036854775807 < (n : Int)) := by omega
        by_cases hk0 : n * k.sz = 0
        · rw [if_pos hk0] at hnew'
          have he : new = #[] := by simpa using hnew'.symm
          subst he
          rcases Nat.mul_eq_zero.1 hk0 with h | h
          · exact absurd h hni
          · simp [Builtin.append_, underlying, hu, sizeOf, typeInfo, hi, hisz, ht2, asInt, asIntOf, hw, hni, hneg, hb3, hb4, hm2, hcap, hforced, Builtin.firstCells, zeroValue, hzv, newRow, nc, arr, h]
            rfl
        · rw [if_neg hk0] at hnew'
          have he : new = Builtin.zeroCells zv.cells n := by simpa [zeroValue, typeInfo, hi, hzv] using hnew'.symm
          subst he

          simp [Builtin.append_, underlying, hu, sizeOf, typeInfo, hi, hisz, ht2, asInt, asIntOf, hw, hni, hneg, hb3, hb4, hm2, hcap, hforced, Builtin.firstCells, zeroValue, hzv, newRow, nc, arr, hk0]
          rfl
      have harr : arr.size = 0 + nc * k.sz := by
        have : nc * k.sz = n * k.sz + (nc - n) * k.sz := by rw [← Nat.add_mul]; congr 1; omega
        simp only [arr, Array.size_append, hnsz, Builtin.zeroCells, Array.size_map, Array.size_range, hzl]
        omega
      unfold Oper.wp
      have : (execOp a.eval ⟨d, .call ⟨.builtin .append, [x, y].toArray, [t, t2].toArray⟩, ty, pos, af, gd⟩).run X.P w = .ok (.value (.slice (some ⟨w.heap.size, 0, none⟩) n nc)) { w with drawn := w.drawn + 1, heap := w.heap.push (.cells arr e') } := by
        simp only [execOp, resolve, invoke, builtin, Sem.run_bind, Sem.run_pure, Result.andThen_ok, List.map_toArray, List.map_cons, List.map_nil, e1, e2]
        rw [hrun]
        rfl
      rw [this]
      have hL1 := (hst.drewN (w.drawn + 1) (Nat.le_succ _)).alloc (.cells arr e')
      refine ⟨_, _, ⟨w.heap.size, nc, rfl, rfl⟩, rfl, rowO_shut (Nat.le_of_eq harr.symm) (by simp) ?_⟩
      obtain ⟨g, q, a1, b1, c1, h1, h2, ap, l1, l2, hb, dd⟩ := hL1.body
      exact ⟨hL1.os, hL1.tape, hL1.output, g, q, a1, b1, c1, h1, h2, ap, l1, l2, hb, sepAll_cons_per (A := rowP k arr 0 []) rfl (h1 := fun _ => none) (fun i x hx => by simp at hx) dd⟩
end

/-! ### Slices of slices: each with what it says, and where -/
structure Sl (α : Type) where
  q : Option Addr
  c : Nat
  l : List α
def Sl.cells {α : Type} (s : Sl α) : List Value := [.slice s.q s.l.length s.c]
def Kd.sl {α : Type} : Kd (Sl α) := Kd.flat 1 Sl.cells (fun _ => rfl) (fun _ v h => by simp [Sl.cells] at h; subst h; rfl)
/-- Each of them is a frozen row. -/
def NestSl {α : Type} (k : Kd α) (l : List (Sl α)) : HP := HP.per (fun g => ∀ s ∈ l, (RowF k s.q s.l).holds g (fun _ => none)) (fun hg h s hs => (RowF k s.q s.l).mono hg (h s hs))
instance {α : Type} {k : Kd α} {l : List (Sl α)} : Pers (NestSl k l) := ⟨rfl⟩
theorem nestSl_at {α : Type} {k : Kd α} {l : List (Sl α)} {ρ : World} {L : List HP} {w : World} {s : Sl α} (m : NestSl k l ∈ L) (hs : s ∈ l) (h : St ρ L w) : St ρ (RowF k s.q s.l :: L) w :=
  St.derive m rfl (fun _ _ hn => (RowF k s.q s.l).free rfl ((hn : ∀ s ∈ l, _) s hs)) h
theorem nestSl_nil {α : Type} {k : Kd α} {ρ : World} {L : List HP} {w : World} (h : St ρ L w) : St ρ (NestSl k [] :: L) w := by
  obtain ⟨g, q, a, b, c, d⟩ := h.body
  exact ⟨h.os, h.tape, h.output, g, q, a, b, c, sepAll_cons_per (A := NestSl k []) rfl (h1 := fun _ => none) (fun s hs => by cases hs) d⟩
theorem nestSl_cons {α : Type} {k : Kd α} {l : List (Sl α)} {ρ : World} {L : List HP} {w : World} (s : Sl α) (m : NestSl k l ∈ L) (ms : RowF k s.q s.l ∈ L) (h : St ρ L w) : St ρ (NestSl k (s :: l) :: L) w :=
  St.derive2 m ms rfl (fun g h1 h2 hn hr => fun t ht => by
    rcases List.mem_cons.1 ht with rfl | ht
    · exact (RowF k t.q t.l).free rfl hr
    · exact (hn : ∀ s ∈ l, _) t ht) h
end Go.Proofs.YthnmoiilaaoooaaGreat.L
