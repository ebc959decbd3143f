/- A frozen row grown by another: both parts cuts of frozen rows. No program in sight. -/
import Derived.Test.YtfpkeanimkgpaaaLF
namespace Go.Proofs.Ytfpkeanimkgpaaa.L
open Go Go.RowKit

section
variable {X : Fx} {E : Env} {L L1 : List HP} {d : Option Tmp} {ty : TypeId} {pos : String} {af : Array Edge} {gd : Option (Nat × Bool)} {x y : Operand}
theorem run_appendG {P : Program} {w : World} {α : Type} {k : Kd α} {ρ : World} {t t2 e bytes m : Nat} {p : Option Addr} {cap : Nat} {xs ys : List α} {x : Value} {new : Array Value} {ds : TypeDesc}
    (ht : slElem P t = some (e, k.sz, bytes)) (ht2 : P.underlying t2 = some ds) (hds : ∀ q, ds ≠ .int q) (hlen : ∀ w, (Builtin.lenOf x).run P w = .ok m w) (hm : ys.length = m)
    (hnew : ∀ n, (Builtin.firstCells k.sz m x).run P { w with drawn := n } = .ok new { w with drawn := n }) (hsz : new.size = m * k.sz)
    (mrow : rowP k new 0 ys ∈ L1) (hz : ∃ z, zeroOf P e = some z ∧ z.length = k.sz) (hby : bytes ≠ 0) (hbig : (2 * (xs.length + m) + 768) * bytes ≤ 281474976710656)
    (hfit : ¬ xs.length + m ≤ cap) {old : Array Value} (hcp : cap ≤ xs.length) (hold : ∀ n, (Builtin.firstCells k.sz xs.length (.slice p xs.length cap)).run P { w with drawn := n } = .ok old { w with drawn := n }) (holdsz : old.size = xs.length * k.sz) (hdrop : St ρ (rowP k old 0 xs :: L1) w) :
    ∃ p' cap' w', (Builtin.append_ #[t, t2] ty #[.slice p xs.length cap, x]).run P w = .ok (.slice p' (xs ++ ys).length cap') w' ∧ St ρ (RowO k e p' cap' (xs ++ ys) :: L1) w' := by
  have ht0 := ht
  unfold slElem at ht
  cases hu : P.underlying t with
  | none => rw [hu] at ht; simp at ht
  | some dd =>
    cases dd <;> rw [hu] at ht <;> simp only [reduceCtorEq] at ht
    rename_i e'
    cases hi : P.info? e' with
    | none => rw [hi] at ht; simp at ht
    | some inf =>
      rw [hi] at ht
      simp only [Option.some.injEq, Prod.mk.injEq] at ht
      obtain ⟨rfl, hisz, hiby⟩ := ht
      have hlenapp : (xs ++ ys).length = xs.length + m := by simp [hm]
      obtain ⟨z, hz1, hz2⟩ := hz
      unfold zeroOf at hz1
      rw [hi] at hz1
      simp only [Option.bind_some] at hz1
      obtain ⟨zv, hzv, hzc⟩ := Option.map_eq_some_iff.1 hz1
      have hn2 : Builtin.nextslicecap (xs.length + m) cap ≤ 2 * (xs.length + m) + 768 := nextcap_le (by omega)
      have hbig' : ¬ (Builtin.nextslicecap (xs.length + m) cap * inf.bytes > 2 ^ 48) := by
        have := Nat.mul_le_mul_right inf.bytes hn2
        rw [hiby] at this ⊢
        omega
      have hforced : (Question.appendCap (xs.length + m) cap e').forced = false := rfl
      let nc := (Question.appendCap (xs.length + m) cap e').cut (w.tape w.drawn (Question.appendCap (xs.length + m) cap e'))
      have hnc : xs.length + m ≤ nc := Nat.le_add_right _ _
      let arr : Array Value := old ++ new ++ Builtin.zeroCells zv.cells (nc - (xs.length + m))
      have hrun : (Builtin.append_ #[t, t2] ty #[.slice p xs.length cap, x]).run P w = .ok (.slice (some ⟨w.heap.size, 0, none⟩) (xs.length + m) nc) { w with drawn := w.drawn + 1, heap := w.heap.push (.cells arr e') } := by
        have hold' : (Builtin.firstCells k.sz xs.length (.slice p xs.length cap)).run P w.drew = .ok old w.drew := hold (w.drawn + 1)
        have hn1' : (Builtin.firstCells k.sz m x).run P w.drew = .ok new w.drew := hnew (w.drawn + 1)
        have hb0 : ¬ inf.bytes = 0 := by rw [hiby]; exact hby
        simp [Builtin.append_, underlying, hu, sizeOf, typeInfo, hi, hisz, ht2, hlen, hfit, hbig', hforced, hold', hn1', zeroValue, hzv, newRow, nc, arr, hb0]
        rfl
      refine ⟨_, _, _, by rw [hlenapp]; exact hrun, ?_⟩
      have hL1 := (hdrop.drewN (w.drawn + 1) (Nat.le_succ _)).alloc (.cells arr e')
      have hzl : zv.cells.size = k.sz := by rw [← hz2, ← hzc]; simp
      have harr : arr.size = 0 + nc * k.sz := by
        have : nc * k.sz = (xs.length * k.sz + m * k.sz) + (nc - (xs.length + m)) * k.sz := by rw [← Nat.add_mul, ← Nat.add_mul]; congr 1; omega
        simp only [arr, Array.size_append, holdsz, hsz, Builtin.zeroCells, Array.size_map, Array.size_range, hzl]
        omega
      have hL3 := St.derive2 (B := rowP k arr 0 (xs ++ ys)) (List.Mem.tail _ (List.Mem.head _)) (List.Mem.tail _ (List.Mem.tail _ mrow)) rfl
          (fun g _ _ h1 h2 => rowAt.append (h1 : rowAt k g old 0 xs) (h2 : rowAt k g new 0 ys)
            (fun j hj => by
              rw [Nat.zero_add]
              simp only [arr]
              rw [Array.getElem?_append_left (by simp [holdsz, hsz]; omega), Array.getElem?_append_left (by omega)])
            (fun j hj => by
              rw [hm] at hj
              simp only [arr, Nat.zero_add]
              rw [Array.getElem?_append_left (by simp [holdsz, hsz]; omega), Array.getElem?_append_right (by omega)]
              congr 1
              omega)) hL1
      have hL4 := ((hL3.pick (.there .here)).pick (.there (.there .here))).tail
      exact rowO_shut (Nat.le_of_eq harr.symm) (by omega) hL4
/-- append(s, t...), s full and frozen, t frozen: what comes is frozen. -/
theorem l_appendF {α : Type} (k : Kd α) {A B : HP} {t t2 e bytes s m : Nat} {p q : Option Addr} {c2 : Nat} {xs ys : List α} {e2 : TypeId} (ht : slElem X.P t = some (e, k.sz, bytes)) (ht2 : X.P.underlying t2 = some (.slice e2))
    (hz : ∃ z, zeroOf X.P e = some z ∧ z.length = k.sz) (hby : bytes ≠ 0)
    (hx : Env.ev E x = some (.slice p s s)) (hy : Env.ev E y = some (.slice q m c2)) (hA : IsRow A k p xs) (mp : A ∈ L) (hB : IsRow B k q ys) (mq : B ∈ L) (hs : s = xs.length) (hm : m = ys.length)
    (hfz : ∀ w, St X.ρ L w → St X.ρ (RowF k p xs :: L) w) (hbig : (2 * (xs.length + ys.length) + 768) * bytes ≤ 281474976710656) :
    OpL X ⟨d, .call ⟨.builtin .append, [x, y].toArray, [t, t2].toArray⟩, ty, pos, af, gd⟩ E L (fun v L' => ∃ p' cap', v = .slice p' (xs ++ ys).length cap' ∧ L' = RowF k p' (xs ++ ys) :: L) := fun a w hk hst => by
  obtain ⟨new, hnew, hsz, hone, h2⟩ := row_cells (P := X.P) (c := c2) hB mq hm hst
  subst hm hs
  have e1 := hk.ev hx
  have e2 := hk.ev hy
  by_cases hys : ys = []
  · subst hys
    have hrun : (Builtin.append_ #[t, t2] ty #[.slice p xs.length xs.length, .slice q 0 c2]).run X.P w = .ok (.slice p xs.length xs.length) w := by
      have hn1 := hnew w rfl
      unfold slElem at ht
      cases hu : X.P.underlying t with
      | none => rw [hu] at ht; simp at ht
      | some dd =>
        cases dd <;> rw [hu] at ht <;> simp only [reduceCtorEq] at ht
        rename_i e'
        cases hi : X.P.info? e' with
        | none => rw [hi] at ht; simp at ht
        | some inf =>
          rw [hi] at ht
          simp only [Option.some.injEq, Prod.mk.injEq] at ht
          obtain ⟨rfl, hisz, hiby⟩ := ht
          have hne : new = #[] := by
            have : new.size = 0 := by rw [hsz]; simp
            exact Array.eq_empty_of_size_eq_zero this
          subst hne
          have hn1 : (Builtin.firstCells k.sz 0 (.slice q 0 c2)).run X.P w = .ok #[] w := hn1
          cases p <;> simp [Builtin.append_, underlying, hu, sizeOf, typeInfo, hi, hisz, ht2, Builtin.lenOf, hn1, storeCells]
    unfold Oper.wp
    have : (execOp a.eval ⟨d, .call ⟨.builtin .append, [x, y].toArray, [t, t2].toArray⟩, ty, pos, af, gd⟩).run X.P w = .ok (.value (.slice p xs.length xs.length)) w := by
      simp only [execOp, resolve, invoke, builtin, Sem.run_bind, Sem.run_pure, Result.andThen_ok, List.map_toArray, List.map_cons, List.map_nil, e1, e2]
      rw [show (([] : List α).length) = 0 from rfl, hrun]
      rfl
    rw [this]
    exact ⟨_, _, ⟨p, xs.length, by rw [List.append_nil], rfl⟩, rfl, by rw [List.append_nil]; exact hfz w hst⟩
  · obtain ⟨old, hold, holdsz, _, h3⟩ := row_cells (P := X.P) (c := xs.length) hA (List.Mem.tail (rowP k new 0 ys) mp) rfl h2
    have hyl := List.length_pos_iff.2 hys
    obtain ⟨p', cap', w', hrun, hst'⟩ := run_appendG (ty := ty) (L1 := rowP k new 0 ys :: L) ht ht2 (fun _ h => by cases h) (x := .slice q ys.length c2) (m := ys.length) (fun w => by simp [Builtin.lenOf]) rfl
      (new := new) (fun n => hnew _ rfl) hsz (List.Mem.head _) hz hby hbig (by omega) (Nat.le_refl _) (fun n => hold _ rfl) holdsz h3
    unfold Oper.wp
    have : (execOp a.eval ⟨d, .call ⟨.builtin .append, [x, y].toArray, [t, t2].toArray⟩, ty, pos, af, gd⟩).run X.P w = .ok (.value (.slice p' (xs ++ ys).length cap')) w' := by
      simp only [execOp, resolve, invoke, builtin, Sem.run_bind, Sem.run_pure, Result.andThen_ok, List.map_toArray, List.map_cons, List.map_nil, e1, e2]
      rw [hrun]
      rfl
    rw [this]
    exact ⟨_, _, ⟨p', cap', rfl, rfl⟩, rfl, rowO_freeze ((hst'.pick (.there .here)).tail)⟩
end
end Go.Proofs.Ytfpkeanimkgpaaa.L
