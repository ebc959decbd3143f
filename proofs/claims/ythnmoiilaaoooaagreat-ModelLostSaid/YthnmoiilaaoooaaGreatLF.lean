/- Owned rows that are turned in place: stores into elements, copy, append within a row, clear. No program in sight. -/
import Derived.Test.YthnmoiilaaoooaaGreatLE
namespace Go.Proofs.YthnmoiilaaoooaaGreat.L
open Go Go.RowKit
set_option linter.unusedSimpArgs false

section
variable {α : Type} {k : Kd α} {g : Hp} {c c' : Array Value} {o o' : Nat} {xs ys : List α}
theorem rowAt.take (h : rowAt k g c o xs) (n : Nat) : rowAt k g c o (xs.take n) := fun i x hx => by
  rw [List.getElem?_take] at hx
  split at hx
  · exact h i x hx
  · cases hx
theorem rowAt.drop (h : rowAt k g c o xs) (n : Nat) : rowAt k g c (o + n * k.sz) (xs.drop n) := fun i x hx => by
  rw [List.getElem?_drop] at hx
  obtain ⟨cs, h1, h2⟩ := h _ x hx
  refine ⟨cs, h1, fun j v hv => ?_⟩
  have := h2 j v hv
  rwa [Nat.add_mul, ← Nat.add_assoc] at this
theorem row_bound {n i j : Nat} {sz l : Nat} (hi : i < n) (hl : l = sz) (hj : j < l) : i * sz + j < n * sz := by
  have hm : (i + 1) * sz ≤ n * sz := Nat.mul_le_mul_right _ hi
  rw [Nat.succ_mul] at hm
  omega
theorem rowAt.same (h : rowAt k g c o xs) (e : ∀ j, j < xs.length * k.sz → c'[o' + j]? = c[o + j]?) : rowAt k g c' o' xs := fun i x hx => by
  obtain ⟨cs, h1, h2⟩ := h i x hx
  refine ⟨cs, h1, fun j v hv => ?_⟩
  have hb := row_bound (List.getElem?_eq_some_iff.1 hx).1 (k.len h1) (List.getElem?_eq_some_iff.1 hv).1
  rw [Nat.add_assoc, e _ hb, ← Nat.add_assoc]
  exact h2 j v hv
/-- A row into which another one is written. -/
theorem rowAt.splice {new : Array Value} {i cap : Nat} (h : rowAt k g c o xs) (hn : rowAt k g new 0 ys) (hs : new.size = ys.length * k.sz) (hi : i ≤ xs.length) (hf : i + ys.length ≤ cap) (hc : o + cap * k.sz ≤ c.size) :
    rowAt k g (spl c (o + i * k.sz) new.toList) o (xs.take i ++ ys ++ xs.drop (i + ys.length)) := by
  have hfit : o + i * k.sz + new.toList.length ≤ c.size := by
    have := Nat.mul_le_mul_right k.sz hf
    rw [Nat.add_mul] at this
    simp only [Array.length_toList]
    omega
  have hget := fun j => spl_get new.toList c (o + i * k.sz) j hfit
  have hlen : new.toList.length = ys.length * k.sz := by simp [hs]
  have ht : (xs.take i).length = i := by rw [List.length_take]; omega
  refine rowAt.append (rowAt.append (h.take i) hn (d := spl c (o + i * k.sz) new.toList) (q := o) (fun j hj => ?_) (fun j hj => ?_)) (h.drop (i + ys.length)) (fun j _ => rfl) (fun j hj => ?_)
  · rw [ht] at hj
    rw [hget, if_neg (by omega)]
  · rw [ht, hget, if_pos (by omega), Nat.zero_add, Array.getElem?_toList]
    congr 1
    omega
  · rw [hget, if_neg, List.length_append, ht]
    rw [List.length_append, ht, hlen, Nat.add_mul]
    omega
end
theorem isRow_take {α : Type} {A : HP} {k : Kd α} {p : Option Addr} {xs : List α} (h : IsRow A k p xs) (n : Nat) : IsRow A k p (xs.take n) := fun g q ha => by
  rcases h g q ha with rfl | ⟨b, o, c, e, fr, hp, hb, hr⟩
  · exact .inl (by simp)
  · exact .inr ⟨b, o, c, e, fr, hp, hb, hr.take n⟩
section
variable {P : Program} {α : Type} {k : Kd α} {ρ : World} {L1 : List HP} {w : World}
theorem run_copyO {t t2 ty e e' bytes ns nd capd m i b o cap : Nat} {xs ys : List α} {x : Value} {new c : Array Value} (ht : slElem P t = some (e, k.sz, bytes)) (hlen : (Builtin.lenOf x).run P w = .ok ns w) (hm : Nat.min ns nd = m)
    (hnew : (Builtin.firstCells k.sz m x).run P w = .ok new w) (hsz : new.size = m * k.sz) (hone : ∀ v ∈ new.toList, v.oneCell' = true) (hys : ys.length = m) (hcs : o + cap * k.sz ≤ c.size) (hl : xs.length ≤ cap) (hi : i ≤ xs.length) (hfit : i + m ≤ cap)
    (hst : St ρ (pt b (.cells c e' (0, 0)) :: rowP k c o xs :: rowP k new 0 ys :: L1) w) :
    ∃ w', (Builtin.copy_ #[t, t2] ty #[.slice (some ⟨b, o + i * k.sz, none⟩) nd capd, x]).run P w = .ok (goInt m) w' ∧ St ρ (RowO k e' (some ⟨b, o, none⟩) cap (xs.take i ++ ys ++ xs.drop (i + m)) :: L1) w' := by
  subst hys
  have hb := hst.pt_heap (List.Mem.head _)
  have hmul : (i + ys.length) * k.sz ≤ cap * k.sz := Nat.mul_le_mul_right _ hfit
  rw [Nat.add_mul] at hmul
  have hrun := run_storeCells (P := P) (b := b) (o := o + i * k.sz) new.toList 0 w c hb hone (by simp [hsz]; omega)
  rw [Nat.add_zero] at hrun
  unfold slElem at ht
  cases hu : P.underlying t with
  | none => rw [hu] at ht; simp at ht
  | some dd =>
    cases dd <;> rw [hu] at ht <;> simp only [reduceCtorEq] at ht
    rename_i e1
    cases hinf : P.info? e1 with
    | none => rw [hinf] at ht; simp at ht
    | some inf =>
      rw [hinf] at ht
      simp only [Option.some.injEq, Prod.mk.injEq] at ht
      obtain ⟨rfl, hisz, _⟩ := ht
      refine ⟨putBlk w b (.cells (spl c (o + i * k.sz) new.toList) e' (0, 0)), ?_, ?_⟩
      · simp only [Builtin.copy_, underlying, hu, sizeOf, typeInfo, hinf, hisz, Sem.run_bind, Sem.run_pure, run_program, Result.andThen_ok, hlen, hm, hnew, hrun]
        simp [hu, hinf, hisz, hlen, hm, hnew, hrun, Result.andThen_ok]
      · have hL2 := hst.put (.cells (spl c (o + i * k.sz) new.toList) e' (0, 0))
        have hL3 := St.derive2 (B := rowP k (spl c (o + i * k.sz) new.toList) o (xs.take i ++ ys ++ xs.drop (i + ys.length))) (List.Mem.tail _ (List.Mem.head _)) (List.Mem.tail _ (List.Mem.tail _ (List.Mem.head _))) rfl
            (fun g _ _ h1 h2 => rowAt.splice (h1 : rowAt k g c o xs) (h2 : rowAt k g new 0 ys) hsz hi hfit hcs) hL2
        have hL4 := ((((hL3.pick (.there .here)).pick (.there (.there .here))).tail).pick (.there (.there .here))).tail
        refine rowO_shut (c := spl c (o + i * k.sz) new.toList) (by rw [spl_size]; exact hcs) ?_ hL4
        simp only [List.length_append, List.length_take, List.length_drop]; omega
/-- append within room: in place. -/
theorem run_appendIn {t t2 ty e e' bytes m i b o cap : Nat} {xs ys : List α} {x : Value} {new c : Array Value} {ds : TypeDesc} (ht : slElem P t = some (e, k.sz, bytes)) (ht2 : P.underlying t2 = some ds) (hds : ∀ q, ds ≠ .int q) (hlen : (Builtin.lenOf x).run P w = .ok m w)
    (hnew : (Builtin.firstCells k.sz m x).run P w = .ok new w) (hsz : new.size = m * k.sz) (hone : ∀ v ∈ new.toList, v.oneCell' = true) (hys : ys.length = m) (hcs : o + cap * k.sz ≤ c.size) (hi : i ≤ xs.length) (hfit : i + m ≤ cap)
    (hst : St ρ (pt b (.cells c e' (0, 0)) :: rowP k c o xs :: rowP k new 0 ys :: L1) w) :
    ∃ w', (Builtin.append_ #[t, t2] ty #[.slice (some ⟨b, o, none⟩) i cap, x]).run P w = .ok (.slice (some ⟨b, o, none⟩) (i + m) cap) w' ∧ St ρ (RowO k e' (some ⟨b, o, none⟩) cap (xs.take i ++ ys) :: L1) w' := by
  subst hys
  have hb := hst.pt_heap (List.Mem.head _)
  have hmul : (i + ys.length) * k.sz ≤ cap * k.sz := Nat.mul_le_mul_right _ hfit
  rw [Nat.add_mul] at hmul
  have hrun := run_storeCells (P := P) (b := b) (o := o + i * k.sz) new.toList 0 w c hb hone (by simp [hsz]; omega)
  rw [Nat.add_zero] at hrun
  unfold slElem at ht
  cases hu : P.underlying t with
  | none => rw [hu] at ht; simp at ht
  | some dd =>
    cases dd <;> rw [hu] at ht <;> simp only [reduceCtorEq] at ht
    rename_i e1
    cases hinf : P.info? e1 with
    | none => rw [hinf] at ht; simp at ht
    | some inf =>
      rw [hinf] at ht
      simp only [Option.some.injEq, Prod.mk.injEq] at ht
      obtain ⟨rfl, hisz, _⟩ := ht
      refine ⟨putBlk w b (.cells (spl c (o + i * k.sz) new.toList) e' (0, 0)), ?_, ?_⟩
      · have h0 : (storeCells ((⟨b, o, none⟩ : Addr).add (i * k.sz)) new.toList).run P w = .ok () (putBlk w b (.cells (spl c (o + i * k.sz) new.toList) e' (0, 0))) := by rw [add_addr]; exact hrun
        simp [Builtin.append_, underlying, hu, sizeOf, typeInfo, hinf, hisz, ht2, hlen, hfit, hnew, h0, Result.andThen_ok]
      · have hL2 := hst.put (.cells (spl c (o + i * k.sz) new.toList) e' (0, 0))
        have hL3 := St.derive2 (B := rowP k (spl c (o + i * k.sz) new.toList) o (xs.take i ++ ys)) (List.Mem.tail _ (List.Mem.head _)) (List.Mem.tail _ (List.Mem.tail _ (List.Mem.head _))) rfl
            (fun g _ _ h1 h2 => by
              have h := (rowAt.splice (h1 : rowAt k g c o xs) (h2 : rowAt k g new 0 ys) hsz hi hfit hcs).take (i + ys.length)
              rwa [List.take_append_of_le_length (by rw [List.length_append, List.length_take]; omega), List.take_of_length_le (by rw [List.length_append, List.length_take]; omega)] at h) hL2
        have hL4 := ((((hL3.pick (.there .here)).pick (.there (.there .here))).tail).pick (.there (.there .here))).tail
        refine rowO_shut (c := spl c (o + i * k.sz) new.toList) (by rw [spl_size]; exact hcs) ?_ hL4
        simp only [List.length_append, List.length_take]; omega
/-- clear of what is spare. -/
theorem run_clearSpare {t ty e e' bytes n i b o cap cc : Nat} {xs : List α} {z : List Value} {c : Array Value} (ht : slElem P t = some (e, k.sz, bytes)) (hz : zeroOf P e = some z) (hzl : z.length = k.sz) (hz1 : ∀ v ∈ z, v.oneCell' = true) (hk : 0 < k.sz)
    (hcs : o + cap * k.sz ≤ c.size) (hl : xs.length ≤ i) (hfit : i + n ≤ cap) (hst : St ρ (pt b (.cells c e' (0, 0)) :: rowP k c o xs :: L1) w) :
    ∃ w', (Builtin.clear_ #[t] ty #[.slice (some ⟨b, o + i * k.sz, none⟩) n cc]).run P w = .ok (.tuple #[]) w' ∧ St ρ (RowO k e' (some ⟨b, o, none⟩) cap xs :: L1) w' := by
  have hb := hst.pt_heap (List.Mem.head _)
  have hmul : (i + n) * k.sz ≤ cap * k.sz := Nat.mul_le_mul_right _ hfit
  rw [Nat.add_mul] at hmul
  unfold slElem at ht
  cases hu : P.underlying t with
  | none => rw [hu] at ht; simp at ht
  | some dd =>
    cases dd <;> rw [hu] at ht <;> simp only [reduceCtorEq] at ht
    rename_i e1
    cases hinf : P.info? e1 with
    | none => rw [hinf] at ht; simp at ht
    | some inf =>
      rw [hinf] at ht
      simp only [Option.some.injEq, Prod.mk.injEq] at ht
      obtain ⟨rfl, hisz, _⟩ := ht
      unfold zeroOf at hz
      rw [hinf] at hz
      simp only [Option.bind_some] at hz
      obtain ⟨zv, hzv, hzc⟩ := Option.map_eq_some_iff.1 hz
      have hzs : zv.cells.size = k.sz := by rw [← hzl, ← hzc]; simp
      have hzo : ∀ v ∈ (Builtin.zeroCells zv.cells n).toList, v.oneCell' = true := fun v hv => by
        simp only [Builtin.zeroCells, Array.toList_map, List.mem_map] at hv
        obtain ⟨j, _, rfl⟩ := hv
        have hlt : j % zv.cells.size < zv.cells.size := Nat.mod_lt _ (by omega)
        rw [getElem!_pos zv.cells _ hlt]
        exact hz1 _ (by rw [← hzc]; exact Array.getElem_mem_toList hlt)
      have hzn : (Builtin.zeroCells zv.cells n).size = n * k.sz := by simp [Builtin.zeroCells, hzs]
      by_cases hn : n = 0
      · subst hn
        exact ⟨w, by simp [Builtin.clear_, underlying, hu], rowO_shut hcs (by omega) hst⟩
      · have hrun := run_storeCells (P := P) (b := b) (o := o + i * k.sz) (Builtin.zeroCells zv.cells n).toList 0 w c hb hzo (by simp [hzn]; omega)
        rw [Nat.add_zero] at hrun
        refine ⟨putBlk w b (.cells (spl c (o + i * k.sz) (Builtin.zeroCells zv.cells n).toList) e' (0, 0)), ?_, ?_⟩
        rotate_left
        · have hL2 := hst.put (.cells (spl c (o + i * k.sz) (Builtin.zeroCells zv.cells n).toList) e' (0, 0))
          have hle : xs.length * k.sz ≤ i * k.sz := Nat.mul_le_mul_right _ hl
          have hL3 := St.derive (B := rowP k (spl c (o + i * k.sz) (Builtin.zeroCells zv.cells n).toList) o xs) (List.Mem.tail _ (List.Mem.head _)) rfl
            (fun g _ h1 => (h1 : rowAt k g c o xs).same (fun j hj => by rw [spl_get _ _ _ _ (by simp [hzn]; omega), if_neg (by omega)])) hL2
          have hL4 := ((hL3.pick (.there .here)).pick (.there (.there .here))).tail
          exact rowO_shut (c := spl c (o + i * k.sz) (Builtin.zeroCells zv.cells n).toList) (by rw [spl_size]; exact hcs) (by omega) hL4
        · cases n with
          | zero => exact absurd rfl hn
          | succ n => simp [Builtin.clear_, underlying, hu, zeroValue, typeInfo, hinf, hzv, hrun, Result.andThen_ok]
end
section
variable {X : Fx} {E : Env} {L L1 : List HP} {d : Option Tmp} {ty : TypeId} {pos : String} {af : Array Edge} {gd : Option (Nat × Bool)} {t t2 : TypeId} {x y : Operand}
theorem cutAddr_in {b o cap i sz : Nat} (h : i < cap) : cutAddr (some ⟨b, o, none⟩) cap i sz = some ⟨b, o + i * sz, none⟩ := by
  unfold cutAddr
  rw [if_neg (by omega), Option.map_some, add_addr]
/-- copy(s[i:], y), y another row. -/
theorem l_copyA {α : Type} (k : Kd α) {A : HP} {p q : Option Addr} {e e' bytes cap i nd capd ns c2 m : Nat} {xs ys : List α} (ht : slElem X.P t = some (e, k.sz, bytes)) (hx : Env.ev E x = some (.slice (cutAddr p cap i k.sz) nd capd)) (hy : Env.ev E y = some (.slice q ns c2))
    (hp : Pick L (RowO k e' p cap xs) L1) (hA : IsRow A k q ys) (mq : A ∈ L1) (hns : ns = ys.length) (hm : Nat.min ns nd = m) (hi : i ≤ xs.length) (hic : i < cap) (hfit : i + m ≤ cap) :
    OpL X ⟨d, .call ⟨.builtin .copy, [x, y].toArray, [t, t2].toArray⟩, ty, pos, af, gd⟩ E L (fun v L' => v = .int .i64 m ∧ L' = RowO k e' p cap (xs.take i ++ ys.take m ++ xs.drop (i + m)) :: L1) := fun a w hk hst => by
  have h1 := hst.pick hp
  have hml : m ≤ ys.length := by rw [← hm, ← hns]; exact Nat.min_le_left _ _
  rcases rowO_open h1 with ⟨_, hc0, _⟩ | ⟨b, o, c, rfl, hl, hcs, h2⟩
  · omega
  obtain ⟨new, hnew, hsz, hone, h3⟩ := row_cells (P := X.P) (n := m) (c := c2) (isRow_take hA m) (List.Mem.tail (pt b (.cells c e' (0, 0))) (List.Mem.tail (rowP k c o xs) mq)) (by rw [List.length_take]; omega) h2
  have hnew' : (Builtin.firstCells k.sz m (.slice q ns c2)).run X.P w = .ok new w := by
    have := hnew w rfl
    cases q <;> exact this
  have h4 : St X.ρ (pt b (.cells c e' (0, 0)) :: rowP k c o xs :: rowP k new 0 (ys.take m) :: L1) w := (h3.pick (.there (.there .here))).pick (.there (.there .here))
  obtain ⟨w', hrun, hst'⟩ := run_copyO (t2 := t2) (ty := ty) (capd := capd) (i := i) ht (by simp [Builtin.lenOf]) hm hnew' hsz hone (by rw [List.length_take]; omega) hcs hl hi hfit h4
  unfold Oper.wp
  have : (execOp a.eval ⟨d, .call ⟨.builtin .copy, [x, y].toArray, [t, t2].toArray⟩, ty, pos, af, gd⟩).run X.P w = .ok (.value (.int .i64 m)) w' := by
    rw [cutAddr_in hic] at hx
    simp only [execOp, resolve, invoke, builtin, Sem.run_bind, Sem.run_pure, Result.andThen_ok, List.map_toArray, List.map_cons, List.map_nil, hk.ev hx, hk.ev hy]
    rw [hrun]
    rfl
  rw [this]
  exact ⟨_, _, ⟨rfl, rfl⟩, rfl, hst'⟩
theorem isO_cut {α : Type} {k : Kd α} {e : TypeId} {p : Option Addr} {cap : Nat} {xs : List α} (s0 : Nat) : IsRow (RowO k e p cap xs) k (cutAddr p cap s0 k.sz) (xs.drop s0) := fun g h ha => by
  rcases (ha : _ ∨ _) with ⟨_, _, hx⟩ | ⟨b, o, c, rfl, hl, hb, _, hr⟩
  · exact .inl (by rw [hx]; simp)
  · by_cases hs : cap ≤ s0
    · exact .inl (List.drop_eq_nil_of_le (by omega))
    · exact .inr ⟨b, _, c, e, (0, 0), cutAddr_in (by omega), .inr hb, hr.drop s0⟩
/-- copy(s[i:], s[s0:]) -/
theorem l_copyS {α : Type} (k : Kd α) {p : Option Addr} {e e' bytes cap i s0 nd capd ns c2 m : Nat} {xs : List α} (ht : slElem X.P t = some (e, k.sz, bytes)) (hx : Env.ev E x = some (.slice (cutAddr p cap i k.sz) nd capd)) (hy : Env.ev E y = some (.slice (cutAddr p cap s0 k.sz) ns c2))
    (hp : Pick L (RowO k e' p cap xs) L1) (hm : Nat.min ns nd = m) (hi : i ≤ xs.length) (hic : i < cap) (hfit : i + m ≤ cap) (hsm : s0 + m ≤ xs.length) :
    OpL X ⟨d, .call ⟨.builtin .copy, [x, y].toArray, [t, t2].toArray⟩, ty, pos, af, gd⟩ E L (fun v L' => v = .int .i64 m ∧ L' = RowO k e' p cap (xs.take i ++ (xs.drop s0).take m ++ xs.drop (i + m)) :: L1) := fun a w hk hst => by
  have h1 := hst.pick hp
  obtain ⟨new, hnew, hsz, hone, h2⟩ := row_cells (P := X.P) (n := m) (c := c2) (isRow_take (isO_cut (e := e') (p := p) (cap := cap) (xs := xs) s0) m) (List.Mem.head L1) (by rw [List.length_take, List.length_drop]; omega) h1
  rcases rowO_open (h2.pick (.there .here)) with ⟨_, hc0, _⟩ | ⟨b, o, c, rfl, hl, hcs, h3⟩
  · omega
  have hnew' : (Builtin.firstCells k.sz m (.slice (cutAddr (some ⟨b, o, none⟩) cap s0 k.sz) ns c2)).run X.P w = .ok new w := by
    have := hnew w rfl
    revert this
    cases cutAddr (some ⟨b, o, none⟩) cap s0 k.sz <;> exact id
  obtain ⟨w', hrun, hst'⟩ := run_copyO (t2 := t2) (ty := ty) (capd := capd) (i := i) ht (by simp [Builtin.lenOf]) hm hnew' hsz hone (by rw [List.length_take, List.length_drop]; omega) hcs hl hi hfit h3
  unfold Oper.wp
  have : (execOp a.eval ⟨d, .call ⟨.builtin .copy, [x, y].toArray, [t, t2].toArray⟩, ty, pos, af, gd⟩).run X.P w = .ok (.value (.int .i64 m)) w' := by
    rw [cutAddr_in hic] at hx
    simp only [execOp, resolve, invoke, builtin, Sem.run_bind, Sem.run_pure, Result.andThen_ok, List.map_toArray, List.map_cons, List.map_nil, hk.ev hx, hk.ev hy]
    rw [hrun]
    rfl
  rw [this]
  exact ⟨_, _, ⟨rfl, rfl⟩, rfl, hst'⟩
/-- append(s[:i], s[s0:]...) -/
theorem l_appendIn {α : Type} (k : Kd α) {p : Option Addr} {e e' e2 bytes cap i s0 c2 m : Nat} {xs : List α} (ht : slElem X.P t = some (e, k.sz, bytes)) (ht2 : X.P.underlying t2 = some (.slice e2)) (hx : Env.ev E x = some (.slice p i cap)) (hy : Env.ev E y = some (.slice (cutAddr p cap s0 k.sz) m c2))
    (hp : Pick L (RowO k e' p cap xs) L1) (hi : i ≤ xs.length) (hfit : i + m ≤ cap) (hsm : s0 + m ≤ xs.length) (hcap : 0 < cap) :
    OpL X ⟨d, .call ⟨.builtin .append, [x, y].toArray, [t, t2].toArray⟩, ty, pos, af, gd⟩ E L (fun v L' => v = .slice p (i + m) cap ∧ L' = RowO k e' p cap (xs.take i ++ (xs.drop s0).take m) :: L1) := fun a w hk hst => by
  have h1 := hst.pick hp
  obtain ⟨new, hnew, hsz, hone, h2⟩ := row_cells (P := X.P) (n := m) (c := c2) (isRow_take (isO_cut (e := e') (p := p) (cap := cap) (xs := xs) s0) m) (List.Mem.head L1) (by rw [List.length_take, List.length_drop]; omega) h1
  rcases rowO_open (h2.pick (.there .here)) with ⟨_, hc0, _⟩ | ⟨b, o, c, rfl, hl, hcs, h3⟩
  · omega
  have hnew' := hnew w rfl
  obtain ⟨w', hrun, hst'⟩ := run_appendIn (t2 := t2) (ty := ty) (i := i) ht ht2 (fun _ h => by cases h) (by simp [Builtin.lenOf]) hnew' hsz hone (by rw [List.length_take, List.length_drop]; omega) hcs hi hfit h3
  unfold Oper.wp
  have : (execOp a.eval ⟨d, .call ⟨.builtin .append, [x, y].toArray, [t, t2].toArray⟩, ty, pos, af, gd⟩).run X.P w = .ok (.value (.slice (some ⟨b, o, none⟩) (i + m) cap)) w' := by
    simp only [execOp, resolve, invoke, builtin, Sem.run_bind, Sem.run_pure, Result.andThen_ok, List.map_toArray, List.map_cons, List.map_nil, hk.ev hx, hk.ev hy]
    rw [hrun]
    rfl
  rw [this]
  exact ⟨_, _, ⟨rfl, rfl⟩, rfl, hst'⟩
/-- clear(s[i:..]), behind what s says. -/
theorem l_clearS {α : Type} (k : Kd α) {p : Option Addr} {e e' bytes cap i n cc : Nat} {xs : List α} {z : List Value} (ht : slElem X.P t = some (e, k.sz, bytes)) (hz : zeroOf X.P e = some z) (hzl : z.length = k.sz) (hz1 : ∀ v ∈ z, v.oneCell' = true) (hk0 : 0 < k.sz) (hx : Env.ev E x = some (.slice (cutAddr p cap i k.sz) n cc))
    (hp : Pick L (RowO k e' p cap xs) L1) (hl : xs.length ≤ i) (hic : i < cap) (hfit : i + n ≤ cap) :
    OpL X ⟨d, .call ⟨.builtin .clear, [x].toArray, [t].toArray⟩, ty, pos, af, gd⟩ E L (fun v L' => v = .tuple #[] ∧ L' = RowO k e' p cap xs :: L1) := fun a w hk hst => by
  have h1 := hst.pick hp
  rcases rowO_open h1 with ⟨_, hc0, _⟩ | ⟨b, o, c, rfl, _, hcs, h3⟩
  · omega
  obtain ⟨w', hrun, hst'⟩ := run_clearSpare (ty := ty) (cc := cc) (i := i) ht hz hzl hz1 hk0 hcs hl hfit h3
  unfold Oper.wp
  have : (execOp a.eval ⟨d, .call ⟨.builtin .clear, [x].toArray, [t].toArray⟩, ty, pos, af, gd⟩).run X.P w = .ok (.value (.tuple #[])) w' := by
    rw [cutAddr_in hic] at hx
    simp only [execOp, resolve, invoke, builtin, Sem.run_bind, Sem.run_pure, Result.andThen_ok, List.map_toArray, List.map_cons, List.map_nil, hk.ev hx]
    rw [hrun]
    rfl
  rw [this]
  exact ⟨_, _, ⟨rfl, rfl⟩, rfl, hst'⟩
/-! ### Stores into elements -/
theorem rowAt.setE {α : Type} {sz : Nat} {enc : α → List Value} {hl : ∀ x, (enc x).length = sz} {h1 : ∀ x, ∀ v ∈ enc x, v.oneCell' = true} {g : Hp} {c c' : Array Value} {o n : Nat} {xs : List α} {el' : α} (h : rowAt (Kd.flat sz enc hl h1) g c o xs)
    (hout : ∀ i j, i ≠ n → j < sz → c'[o + i * sz + j]? = c[o + i * sz + j]?) (hin : ∀ j v, (enc el')[j]? = some v → c'[o + n * sz + j]? = some v) : rowAt (Kd.flat sz enc hl h1) g c' o (xs.set n el') := fun i x hx => by
  rw [List.getElem?_set] at hx
  split at hx
  · rename_i e
    subst e
    split at hx
    · cases hx
      exact ⟨enc el', rfl, hin⟩
    · cases hx
  · rename_i e
    obtain ⟨cs, h1', h2⟩ := h i x hx
    cases (h1' : cs = enc x)
    refine ⟨enc x, rfl, fun j v hv => ?_⟩
    have hj : j < sz := by rw [← hl x]; exact (List.getElem?_eq_some_iff.1 hv).1
    show c'[o + i * sz + j]? = some v
    rw [hout i j (fun h => e h.symm) hj]
    exact h2 j v hv
theorem l_storeE {α : Type} {sz : Nat} {enc : α → List Value} {hl : ∀ x, (enc x).length = sz} {h1 : ∀ x, ∀ v ∈ enc x, v.oneCell' = true} {p : Option Addr} {e cap n j : Nat} {xs : List α} {el : α} {v : Value} (el' : α) (ht : cellK X.P t = some (false, 1)) (hx : Env.ev E x = some (.pointer (some (elA p n sz j)))) (hy : Env.ev E y = some v)
    (hv : v.oneCell' = true) (hp : Pick L (RowO (Kd.flat sz enc hl h1) e p cap xs) L1) (he : xs[n]? = some el) (hj : j < sz) (hset : (enc el).set j v = enc el') :
    OpL X ⟨d, .store t x y, ty, pos, af, gd⟩ E L (fun v' L' => v' = undef ∧ L' = RowO (Kd.flat sz enc hl h1) e p cap (xs.set n el') :: L1) := fun a w hk hs => by
  have hs' := hs.pick hp
  have hn : n < xs.length := (List.getElem?_eq_some_iff.1 he).1
  rcases rowO_open hs' with ⟨_, _, hx0, _⟩ | ⟨b, o, c, rfl, hlc, hcs, h2⟩
  · rw [hx0] at hn; simp at hn
  have hb : w.heap[b]? = some (.cells c e (0, 0)) := h2.pt_heap (List.Mem.head _)
  have hcells : v.cells = #[v] := by cases v <;> first | rfl | (simp [Value.oneCell'] at hv)
  have hcs' : o + cap * sz ≤ c.size := hcs
  have hmul : (n + 1) * sz ≤ cap * sz := Nat.mul_le_mul_right _ (by omega)
  rw [Nat.succ_mul] at hmul
  have hrun := run_storeCells (P := X.P) (b := b) (o := o + n * sz + j) [v] 0 w c hb (by simpa using hv) (by simp; omega)
  rw [Nat.add_zero] at hrun
  rw [elA_some] at hx
  unfold Oper.wp
  have : (execOp a.eval ⟨d, .store t x y, ty, pos, af, gd⟩).run X.P w = .ok .skip (putBlk w b (.cells (spl c (o + n * sz + j) [v]) e (0, 0))) := by
    simp only [execOp, hk.ev hx, hk.ev hy, Instr.storeAt, Instr.sureAddr, storeVar, Sem.run_bind, Sem.run_pure, Result.andThen_ok, run_sizeK ht, hcells]
    simp only [List.size_toArray, List.length_cons, List.length_nil, Nat.zero_add, ne_eq, not_true_eq_false, if_false]
    rw [hrun]
    simp
  rw [this]
  refine ⟨undef, _, ⟨rfl, rfl⟩, rfl, ?_⟩
  have hL2 := h2.put (.cells (spl c (o + n * sz + j) [v]) e (0, 0))
  have hget := fun q => spl_get [v] c (o + n * sz + j) q (by simp; omega)
  have key : ∀ {i q : Nat}, i ≠ n → q < sz → ¬ (o + i * sz + q = o + n * sz + j) := fun {i q} hi hq e => by
    rcases Nat.lt_or_gt_of_ne hi with h | h
    · have := Nat.mul_le_mul_right sz (show i + 1 ≤ n from h); rw [Nat.succ_mul] at this; omega
    · have := Nat.mul_le_mul_right sz (show n + 1 ≤ i from h); rw [Nat.succ_mul] at this; omega
  have hL3 := St.derive (B := rowP (Kd.flat sz enc hl h1) (spl c (o + n * sz + j) [v]) o (xs.set n el')) (List.Mem.tail _ (List.Mem.head _)) rfl
    (fun g _ hr => rowAt.setE (hr : rowAt (Kd.flat sz enc hl h1) g c o xs) (fun i q hi hq => by
        have := key hi hq
        rw [hget, if_neg (by simp only [List.length_singleton]; omega)])
      (fun q u hu => by
        rw [← hset, List.getElem?_set] at hu
        split at hu
        · rename_i e
          subst e
          split at hu
          · cases hu
            rw [hget, if_pos (by simp only [List.length_singleton]; omega), Nat.sub_self]; rfl
          · cases hu
        · rename_i e
          rw [hget, if_neg (by simp only [List.length_singleton]; omega)]
          obtain ⟨cs, h3, h4⟩ := (hr : rowAt (Kd.flat sz enc hl h1) g c o xs) n el he
          cases (h3 : cs = enc el)
          exact h4 q u hu)) hL2
  exact rowO_shut (c := spl c (o + n * sz + j) [v]) (by rw [spl_size]; exact hcs) (by rw [List.length_set]; exact hlc) (((hL3.pick (.there .here)).pick (.there (.there .here))).tail)
end
end Go.Proofs.YthnmoiilaaoooaaGreat.L
