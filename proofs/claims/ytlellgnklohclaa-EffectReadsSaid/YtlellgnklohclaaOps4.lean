/- The operations that make or turn memory: variables, structs, stores, literals, append. -/
import Derived.Test.YtlellgnklohclaaOps3
namespace Go.Proofs.Ytlellgnklohclaa.L
open Go Go.RowKit

/-! ### Lists of cells, turned at a place: relations, so that what comes out is laid out -/
inductive SetAt : List Value → Nat → Value → List Value → Prop where
  | here {x v xs} : SetAt (x :: xs) 0 v (v :: xs)
  | there {x v xs ys n} : SetAt xs n v ys → SetAt (x :: xs) (n + 1) v (x :: ys)
theorem SetAt.spec {xs ys : List Value} {n : Nat} {v : Value} (h : SetAt xs n v ys) : ys = xs.set n v ∧ n < xs.length := by
  induction h with
  | here => exact ⟨rfl, by simp⟩
  | there _ ih => exact ⟨by rw [List.set_cons_succ, ← ih.1], by simp; exact ih.2⟩
inductive SetN : List Value → Nat → List Value → List Value → Prop where
  | nil {xs n} : SetN xs n [] xs
  | cons {xs ys zs n v vs} : SetAt xs n v ys → SetN ys (n + 1) vs zs → SetN xs n (v :: vs) zs
theorem SetN.spec {xs ys vs : List Value} {n : Nat} (h : SetN xs n vs ys) : spl xs.toArray n vs = ys.toArray ∧ (vs = [] ∨ n + vs.length ≤ xs.length) := by
  induction h with
  | nil => exact ⟨rfl, .inl rfl⟩
  | cons h1 _ ih =>
    obtain ⟨e1, l1⟩ := h1.spec
    obtain ⟨e2, l2⟩ := ih
    refine ⟨?_, .inr ?_⟩
    · rw [spl, ← e2, e1]; simp
    · rcases l2 with rfl | l2
      · simp; omega
      · rw [e1] at l2; simp at l2 ⊢; omega
inductive Fill (place : Nat → Option (Nat × Nat)) : List Value → List (Nat × Value) → List Value → Prop where
  | nil {xs} : Fill place xs [] xs
  | cons {xs ys zs i v u us rest off size} : place i = some (off, size) → v.cells = (u :: us).toArray → us.length + 1 = size → SetN xs off (u :: us) ys → Fill place ys rest zs → Fill place xs ((i, v) :: rest) zs
theorem foldl_spl : ∀ (vs : List Value) (c : Array Value) (n k : Nat), (vs.toArray.zipIdx k).foldl (fun cs (p : Value × Nat) => cs.setIfInBounds (n + p.2) p.1) c = spl c (n + k) vs
  | [], c, n, k => by rw [Array.zipIdx_toArray]; simp [spl]
  | v :: vs, c, n, k => by
    have := foldl_spl vs (c.setIfInBounds (n + k) v) n (k + 1)
    rw [spl, show n + k + 1 = n + (k + 1) by omega, ← this, Array.zipIdx_toArray, Array.zipIdx_toArray, List.zipIdx_cons]
    simp
theorem Fill.spec {place : Nat → Option (Nat × Nat)} {xs ys : List Value} {parts : List (Nat × Value)} (h : Fill place xs parts ys) : Instr.fill place xs.toArray parts = some ys.toArray := by
  induction h with
  | nil => rfl
  | @cons xs ys zs i v u us rest off size hp hv hl hs _ ih =>
    obtain ⟨e, l⟩ := hs.spec
    have h1 : v.cells.size = size := by rw [hv]; simpa using hl
    have h2 : ¬ (off + v.cells.size > xs.toArray.size) := by
      rw [h1, ← hl]
      rcases l with l | l
      · cases l
      · simp at l ⊢; omega
    have h3 : (v.cells.zipIdx.foldl (fun cs (p : Value × Nat) => cs.setIfInBounds (off + p.2) p.1) xs.toArray) = ys.toArray := by
      rw [hv, ← e]; exact foldl_spl (u :: us) xs.toArray off 0
    have h3' : (v.cells.zipIdx.foldl (fun cs x => match x with | (c, j) => cs.setIfInBounds (off + j) c) xs.toArray) = ys.toArray := h3
    have h4 : ¬ (v.cells.size ≠ size) := fun h => h h1
    simp only [Instr.fill, hp, h4, h2, or_self, if_false, decide_eq_true_eq, Bool.or_eq_true, h3']
    simpa using ih

/-! ### What the tables say of a struct's fields, and of a literal's zeros -/
def structTab (P : Program) (t : TypeId) : Option (List (Nat × Nat) × List Value) :=
  match P.underlying t, (P.info? t).bind (·.zero) with
  | some (.struct fs), some z => ((fs.toList.mapM fun f => (P.info? f.type).map fun i => (f.offset, i.size)) : Option (List (Nat × Nat))).map fun l => (l, z.cells.toList)
  | _, _ => none
def slZeros (P : Program) (t : TypeId) (len : Nat) : Option (TypeId × Nat × List Value) :=
  match P.underlying t with
  | some (.slice e) => match P.info? e with
    | some i => match i.zero with
      | some z => if len * i.size > 2 ^ 24 then none else if len * i.size = 0 then none else some (e, i.size, ((Array.range (len * i.size)).map (fun j => z.cells[j % z.cells.size]!)).toList)
      | none => none
    | none => none
  | _ => none
def Env.parts (E : Env) : List (Nat × Operand) → Option (List (Nat × Value))
  | [] => some []
  | (i, x) :: l => match Env.ev E x, Env.parts E l with | some v, some vs => some ((i, v) :: vs) | _, _ => none
theorem Know.parts {N : Nat} {E : Env} {a : Act} (h : Know N E a) : ∀ {l : List (Nat × Operand)} {vs : List (Nat × Value)}, Env.parts E l = some vs → l.map (fun (i, x) => (i, a.eval x)) = vs
  | [], vs, e => by cases e; rfl
  | (i, x) :: l, vs, e => by
    simp only [Env.parts] at e
    cases hx : Env.ev E x with
    | none => rw [hx] at e; simp at e
    | some v =>
      cases hl : Env.parts E l with
      | none => rw [hx, hl] at e; simp at e
      | some us =>
        rw [hx, hl] at e
        cases e
        have := h.parts hl
        rw [List.map_cons, this]
        simp only [h.ev hx]
theorem mapM_places {P : Program} {w : World} : ∀ (fs : List Field) (l : List (Nat × Nat)), (fs.mapM (m := Option) fun f => (P.info? f.type).map fun i => (f.offset, i.size)) = some l →
    (fs.mapM (m := Sem) fun f => do pure (f.offset, ← sizeOf f.type)).run P w = .ok l w
  | [], l, h => by simp at h; subst h; rfl
  | f :: fs, l, h => by
    rw [List.mapM_cons] at h ⊢
    cases hi : P.info? f.type with
    | none => rw [hi] at h; simp at h
    | some i =>
      rw [hi] at h
      cases hr : fs.mapM (m := Option) fun f => (P.info? f.type).map fun i => (f.offset, i.size) with
      | none => rw [hr] at h; simp at h
      | some l' =>
        rw [hr] at h
        simp at h
        subst h
        have := mapM_places (P := P) (w := w) fs l' hr
        simp only [Sem.run_bind, Sem.run_pure, sizeOf, typeInfo, run_program, Result.andThen_ok, hi] at this ⊢
        rw [this]
        rfl
section
variable {X : Fx} {E : Env} {L : List HP} {d : Option Tmp} {ty : TypeId} {pos : String} {af : Array Edge} {gd : Option (Nat × Bool)} {t : TypeId}
theorem q_build {parts : List (Nat × Operand)} {vs : List (Nat × Value)} {places : List (Nat × Nat)} {zeros cs : List Value} (ht : structTab X.P t = some (places, zeros)) (hp : Env.parts E parts = some vs)
    (hf : Fill (fun i => places[i]?) zeros vs cs) : OpQ X ⟨d, .build t parts.toArray, ty, pos, af, gd⟩ E L (.agg cs.toArray) := fun a w hk _ => by
  unfold structTab at ht
  cases hu : X.P.underlying t with
  | none => rw [hu] at ht; simp at ht
  | some ds =>
    cases hz : (X.P.info? t).bind (·.zero) with
    | none => rw [hu, hz] at ht; cases ds <;> simp at ht
    | some z =>
      rw [hu, hz] at ht
      cases ds <;> simp only [reduceCtorEq] at ht
      rename_i fs
      cases hm : fs.toList.mapM (m := Option) fun f => (X.P.info? f.type).map fun i => (f.offset, i.size) with
      | none => rw [hm] at ht; simp at ht
      | some l =>
        rw [hm] at ht
        simp only [Option.map_some, Option.some.injEq, Prod.mk.injEq] at ht
        obtain ⟨rfl, rfl⟩ := ht
        obtain ⟨inf, hinf, hzz⟩ := Option.bind_eq_some_iff.1 hz
        have h1 := mapM_places (P := X.P) (w := w) fs.toList l hm
        have h2 := hf.spec
        have h3 := hk.parts hp
        have h4 : fs.mapM (m := Sem) (fun f => do pure (f.offset, ← sizeOf f.type)) = (do let l ← fs.toList.mapM (m := Sem) (fun f => do pure (f.offset, ← sizeOf f.type)); pure l.toArray) := by
          rw [Array.mapM_eq_mapM_toList]; rfl
        simp only [execOp, Instr.build, Sem.run_bind, zeroValue, typeInfo, run_program, Result.andThen_ok, hinf, Sem.run_pure, hzz, underlying, hu, h4, h1]
        have h5 : (parts.toArray.map fun (p : Nat × Operand) => (p.1, a.eval p.2)).toList = vs := by
          rw [← h3]; simp
        have h6 : (fun i : Nat => l.toArray[i]?) = (fun i : Nat => l[i]?) := by funext i; simp
        have h7 : z.cells = z.cells.toList.toArray := by simp
        rw [h6, h7]
        have h5' : (Array.map (fun x => match x with | (i, x) => (i, a.eval x)) parts.toArray).toList = vs := h5
        rw [h5', h2]
        rfl
/-- A new variable. -/
theorem l_box {e : TypeId} {x : Operand} {v : Value} {cs : List Value} (hx : Env.ev E x = some v) (hc : v.cells = cs.toArray) :
    OpL X ⟨d, .box e x, ty, pos, af, gd⟩ E L (fun v' L' => ∃ b, v' = .pointer (some ⟨b, 0, none⟩) ∧ L' = pv b e cs :: L) := fun a w hk hs => by
  unfold Oper.wp
  have : (execOp a.eval ⟨d, .box e x, ty, pos, af, gd⟩).run X.P w = .ok (.value (.pointer (some ⟨w.heap.size, 0, none⟩))) { w with heap := w.heap.push (.cells cs.toArray e) } := by
    simp [execOp, hk.ev hx, Instr.box, newVar, newRow, hc]
  rw [this]
  exact ⟨_, _, ⟨w.heap.size, rfl, rfl⟩, rfl, hs.alloc _⟩
theorem l_alloc {e : TypeId} {cs : List Value} (hz : zeroOf X.P e = some cs) :
    OpL X ⟨d, .alloc e, ty, pos, af, gd⟩ E L (fun v' L' => ∃ b, v' = .pointer (some ⟨b, 0, none⟩) ∧ L' = pv b e cs :: L) := fun a w hk hs => by
  unfold zeroOf at hz
  obtain ⟨z, hz1, hz2⟩ := Option.map_eq_some_iff.1 hz
  obtain ⟨inf, hinf, hzz⟩ := Option.bind_eq_some_iff.1 hz1
  have hc : z.cells = cs.toArray := by rw [← hz2]
  unfold Oper.wp
  have : (execOp a.eval ⟨d, .alloc e, ty, pos, af, gd⟩).run X.P w = .ok (.value (.pointer (some ⟨w.heap.size, 0, none⟩))) { w with heap := w.heap.push (.cells cs.toArray e) } := by
    simp [execOp, Instr.alloc, zeroValue, typeInfo, hinf, hzz, newVar, newRow, hc]
  rw [this]
  exact ⟨_, _, ⟨w.heap.size, rfl, rfl⟩, rfl, hs.alloc _⟩
/-- A slice literal. -/
theorem l_slice {n e sz : Nat} {parts : List (Nat × Operand)} {vs : List (Nat × Value)} {zeros cs : List Value} (ht : slZeros X.P t n = some (e, sz, zeros)) (hp : Env.parts E parts = some vs)
    (hf : Fill (fun i => some (i * sz, sz)) zeros vs cs) :
    OpL X ⟨d, .buildSlice t n parts.toArray, ty, pos, af, gd⟩ E L (fun v' L' => ∃ b, v' = .slice (some ⟨b, 0, none⟩) n n ∧ L' = pv b e cs :: L) := fun a w hk hs => by
  unfold slZeros at ht
  cases hu : X.P.underlying t with
  | none => rw [hu] at ht; simp at ht
  | some ds =>
    cases ds <;> rw [hu] at ht <;> simp only [reduceCtorEq] at ht
    rename_i e'
    cases hi : X.P.info? e' with
    | none => rw [hi] at ht; simp at ht
    | some i =>
      rw [hi] at ht
      simp only at ht
      cases hz : i.zero with
      | none => rw [hz] at ht; simp at ht
      | some z =>
        rw [hz] at ht
        simp only at ht
        by_cases h1 : n * i.size > 2 ^ 24
        · rw [if_pos h1] at ht; cases ht
        · rw [if_neg h1] at ht
          by_cases h0 : n * i.size = 0
          · rw [if_pos h0] at ht; cases ht
          · rw [if_neg h0] at ht
            simp only [Option.some.injEq, Prod.mk.injEq] at ht
            obtain ⟨rfl, rfl, hzs⟩ := ht
            have h2 := hf.spec
            have h3 := hk.parts hp
            have h5 : (Array.map (fun x => match x with | (i, x) => (i, a.eval x)) parts.toArray).toList = vs := by
              rw [← h3]; simp
            have h6 : ((Array.range (n * i.size)).map (fun j => z.cells[j % z.cells.size]!)) = zeros.toArray := by rw [← hzs]
            unfold Oper.wp
            have : (execOp a.eval ⟨d, .buildSlice t n parts.toArray, ty, pos, af, gd⟩).run X.P w = .ok (.value (.slice (some ⟨w.heap.size, 0, none⟩) n n)) { w with heap := w.heap.push (.cells cs.toArray e') } := by
              simp only [execOp, Instr.buildSlice, Sem.run_bind, underlying, run_program, Result.andThen_ok, hu, Sem.run_pure, sizeOf, typeInfo, hi, h1, if_false, h0, zeroValue, hz, h6, h5, h2, newRow, run_newObj]
            rw [this]
            exact ⟨_, _, ⟨w.heap.size, rfl, rfl⟩, rfl, hs.alloc _⟩
/-! stores -/
theorem l_store1 {x y : Operand} {b o : Nat} {e : TypeId} {v : Value} {cs cs' : List Value} {L1 : List HP} (ht : cellK X.P t = some (false, 1)) (hx : Env.ev E x = some (.pointer (some ⟨b, o, none⟩))) (hy : Env.ev E y = some v)
    (h1 : v.oneCell' = true) (hp : Pick L (pv b e cs) L1) (hset : SetAt cs o v cs') : OpL X ⟨d, .store t x y, ty, pos, af, gd⟩ E L (fun v' L' => v' = undef ∧ L' = pv b e cs' :: L1) := fun a w hk hs => by
  have hs' := hs.pick hp
  have hb : w.heap[b]? = some (.cells cs.toArray e (0, 0)) := hs'.pt_heap (List.Mem.head _)
  obtain ⟨e1, l1⟩ := hset.spec
  have hcells : v.cells = #[v] := by cases v <;> first | rfl | (simp [Value.oneCell'] at h1)
  have hrun := run_storeCells (P := X.P) (b := b) (o := o) [v] 0 w cs.toArray hb (by simpa using h1) (by simp; omega)
  unfold Oper.wp
  have : (execOp a.eval ⟨d, .store t x y, ty, pos, af, gd⟩).run X.P w = .ok .skip (putBlk w b (.cells cs'.toArray e (0, 0))) := by
    simp only [execOp, hk.ev hx, hk.ev hy, Instr.storeAt, Instr.sureAddr, storeVar, Sem.run_bind, Sem.run_pure, Result.andThen_ok, run_sizeK ht, hcells]
    simp only [List.size_toArray, List.length_cons, List.length_nil, Nat.zero_add, ne_eq, not_true_eq_false, if_false]
    rw [hrun]
    simp [spl, e1]
  rw [this]
  exact ⟨undef, _, ⟨rfl, rfl⟩, rfl, hs'.put _⟩
theorem l_storeN {x y : Operand} {b o n : Nat} {e : TypeId} {vs cs cs' : List Value} {L1 : List HP} (ht : cellK X.P t = some (true, n)) (hx : Env.ev E x = some (.pointer (some ⟨b, o, none⟩))) (hy : Env.ev E y = some (.agg vs.toArray))
    (hn : vs.length = n) (h1 : ∀ v ∈ vs, v.oneCell' = true) (hp : Pick L (pv b e cs) L1) (hset : SetN cs o vs cs') : OpL X ⟨d, .store t x y, ty, pos, af, gd⟩ E L (fun v' L' => v' = undef ∧ L' = pv b e cs' :: L1) := fun a w hk hs => by
  have hs' := hs.pick hp
  have hb : w.heap[b]? = some (.cells cs.toArray e (0, 0)) := hs'.pt_heap (List.Mem.head _)
  obtain ⟨e1, l1⟩ := hset.spec
  unfold Oper.wp
  have : (execOp a.eval ⟨d, .store t x y, ty, pos, af, gd⟩).run X.P w = .ok .skip (putBlk w b (.cells cs'.toArray e (0, 0))) := by
    simp only [execOp, hk.ev hx, hk.ev hy, Instr.storeAt, Instr.sureAddr, storeVar, Sem.run_bind, Sem.run_pure, Result.andThen_ok, run_sizeK ht, Value.cells]
    simp only [List.size_toArray, hn, ne_eq, not_true_eq_false, if_false]
    rcases l1 with rfl | l1
    · have e1 : cs.toArray = cs'.toArray := e1
      rw [← e1, putBlk_self hb]
      simp [storeCells]
    · rw [run_storeCells (P := X.P) vs 0 w cs.toArray hb h1 (by simp; omega), Nat.add_zero, e1]
      rfl
  rw [this]
  exact ⟨undef, _, ⟨rfl, rfl⟩, rfl, hs'.put _⟩
end
end Go.Proofs.Ytlellgnklohclaa.L
