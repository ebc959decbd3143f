/- Laws that were found lacking later: a block of several elements as a frozen row, a result that lies in a cell, equality of structs. Results that lie in cells; several ready operations. Equality of records whose fields are ints, bools and texts. A record inside a record: its cells in the block. Elements of rows by an address of their own; calls whose heap is found first; equality of records with records inside; skipped guards in a region that draws. No program in sight. Equality of records, told from the other side. -/
import Derived.Test.YthnmoiilaaoooaaGreatLB
import Derived.Laws.StructEq
/-! Laws that were found lacking later: a block of several elements as a frozen row, a result that lies in a cell, equality of structs. -/
namespace Go.Proofs.YthnmoiilaaoooaaGreat.L
open Go Go.RowKit

/-- A block of cells, frozen, is a frozen row. -/
theorem pv_rowFg {α : Type} {k : Kd α} {ρ : World} {L : List HP} {w : World} {b e : Nat} {cs : List Value} (xs : List α) (hr : ∀ g, rowAt k g cs.toArray 0 xs) (h : St ρ (pv b e cs :: L) w) : St ρ (RowF k (some ⟨b, 0, none⟩) xs :: L) w := by
  have h2 : St ρ (fv b e cs :: L) w := h.fzv
  unfold fv at h2
  have h1 : St ρ (rowP k cs.toArray 0 xs :: fz b (.cells cs.toArray e (0, 0)) :: L) w := by
    obtain ⟨g, q, a, b', c, d⟩ := h2.body
    exact ⟨h2.os, h2.tape, h2.output, g, q, a, b', c, sepAll_cons_per (A := rowP k cs.toArray 0 xs) rfl (h1 := fun _ => none) (hr g) d⟩
  have h3 : St ρ (RowF k (some ⟨b, 0, none⟩) xs :: rowP k cs.toArray 0 xs :: fz b (.cells cs.toArray e (0, 0)) :: L) w := rowF_shut (List.Mem.tail _ (List.Mem.head _)) (List.Mem.head _) h1
  exact (h3.pick (.there .here)).tail |>.pick (.there .here) |>.tail
theorem pv_rowU {ρ : World} {L : List HP} {w : World} {b e : Nat} {cs : List Value} (xs : List UInt8) (hr : cs = xs.map fun b => .int .u8 b.toNat) (h : St ρ (pv b e cs :: L) w) : St ρ (RowF Kd.u8 (some ⟨b, 0, none⟩) xs :: L) w :=
  pv_rowFg xs (fun g i x hx => ⟨_, rfl, fun j v hv => by
    subst hr
    cases j with
    | zero =>
      have e1 : 0 + i * Kd.u8.sz + 0 = i := by show 0 + i * 1 + 0 = i; omega
      rw [e1]
      obtain rfl : Value.int .u8 x.toNat = v := by simpa using hv
      simp [hx]
    | succ j => simp at hv⟩) h
section
variable {X : Fx} {E : Env} {L : List HP} {d : Option Tmp} {t u ty : TypeId} {x y : Operand} {pos : String} {af : Array Edge} {gd : Option (Nat × Bool)}
theorem q_eqT {k : IntKind} {a b : Int} (hx : Env.ev E x = some (.int k a)) (hy : Env.ev E y = some (.int k b)) (h : a = b) : OpQ X ⟨d, .binOp .eql t x y u, ty, pos, af, gd⟩ E L (.bool true) := decide_eq_true h ▸ q_eq hx hy
theorem q_eqF {k : IntKind} {a b : Int} (hx : Env.ev E x = some (.int k a)) (hy : Env.ev E y = some (.int k b)) (h : ¬ a = b) : OpQ X ⟨d, .binOp .eql t x y u, ty, pos, af, gd⟩ E L (.bool false) := decide_eq_false h ▸ q_eq hx hy
theorem q_neF {k : IntKind} {a b : Int} (hx : Env.ev E x = some (.int k a)) (hy : Env.ev E y = some (.int k b)) (h : a = b) : OpQ X ⟨d, .binOp .neq t x y u, ty, pos, af, gd⟩ E L (.bool false) := decide_eq_false (not_not_intro h) ▸ q_ne hx hy
theorem q_neT {k : IntKind} {a b : Int} (hx : Env.ev E x = some (.int k a)) (hy : Env.ev E y = some (.int k b)) (h : ¬ a = b) : OpQ X ⟨d, .binOp .neq t x y u, ty, pos, af, gd⟩ E L (.bool true) := decide_eq_true h ▸ q_ne hx hy
theorem q_seqT {a b : ByteArray} (hx : Env.ev E x = some (.string a)) (hy : Env.ev E y = some (.string b)) (h : a = b) : OpQ X ⟨d, .binOp .eql t x y u, ty, pos, af, gd⟩ E L (.bool true) := decide_eq_true h ▸ q_seq hx hy
theorem q_sneF {a b : ByteArray} (hx : Env.ev E x = some (.string a)) (hy : Env.ev E y = some (.string b)) (h : a = b) : OpQ X ⟨d, .binOp .neq t x y u, ty, pos, af, gd⟩ E L (.bool false) := decide_eq_false (not_not_intro h) ▸ q_sne hx hy
theorem q_bneF {a b : Bool} (ht : X.P.underlying t = some .bool) (hx : Env.ev E x = some (.bool a)) (hy : Env.ev E y = some (.bool b)) (h : a = b) : OpQ X ⟨d, .binOp .neq t x y u, ty, pos, af, gd⟩ E L (.bool false) := by
  have h1 := q_bne (X := X) (E := E) (L := L) (d := d) (u := u) (ty := ty) (pos := pos) (af := af) (gd := gd) ht hx hy
  rwa [h, bne_self_eq_false] at h1
theorem q_beqT {a b : Bool} (ht : X.P.underlying t = some .bool) (hx : Env.ev E x = some (.bool a)) (hy : Env.ev E y = some (.bool b)) (h : a = b) : OpQ X ⟨d, .binOp .eql t x y u, ty, pos, af, gd⟩ E L (.bool true) := by
  have h1 := q_beq (X := X) (E := E) (L := L) (d := d) (u := u) (ty := ty) (pos := pos) (af := af) (gd := gd) ht hx hy
  rwa [h, beq_self_eq_true] at h1
end
end Go.Proofs.YthnmoiilaaoooaaGreat.L
/-! Results that lie in cells; several ready operations. -/
namespace Go.Proofs.YthnmoiilaaoooaaGreat.L
open Go Go.RowKit

theorem run_loadVarN {P : Program} {w : World} {t : TypeId} {b n : Nat} {cs : List Value} (ht : cellK P t = some (true, n)) (hn : cs.length = n) (hc : ∀ j v, cs[j]? = some v → w.cell? ⟨b, 0 + j, none⟩ = some v) : (loadVar t ⟨b, 0, none⟩).run P w = .ok (.agg cs.toArray) w := by
  have := run_loadCellsFrom (P := P) (w := w) (b := b) (o := 0) cs 0 #[] (fun j v hj => by have := hc j v hj; rwa [show 0 + (0 + j) = 0 + j by omega])
  simp only [loadVar, Sem.run_bind, Sem.run_pure, Result.andThen_ok, run_cellKN ht, if_true, run_sizeK ht, loadCells]
  rw [← hn, this]
  simp
theorem resC {P : Program} {fn : Func} {N : Nat} {E : Env} {a : Act} {w : World} {t b n : Nat} {e : TypeId} {cs : List Value} (h : fn.results = #[.cell t e]) (hk : Know N E a) (h1 : Env.get E t = some (.pointer (some ⟨b, 0, none⟩)))
    (ht : cellK P e = some (true, n)) (hn : cs.length = n) (hc : ∀ j v, cs[j]? = some v → w.cell? ⟨b, 0 + j, none⟩ = some v) : (results fn a.tmps).run P w = .ok (.agg cs.toArray) w := by
  have e1 := hk.slot _ _ h1
  simp [results, h, e1, asAddr, run_loadVarN ht hn hc]
theorem resCT {P : Program} {fn : Func} {N : Nat} {E : Env} {a : Act} {w : World} {t u b n : Nat} {e : TypeId} {cs : List Value} {x : Value} (h : fn.results = #[.cell t e, .tmp u]) (hk : Know N E a) (h1 : Env.get E t = some (.pointer (some ⟨b, 0, none⟩)))
    (ht : cellK P e = some (true, n)) (hn : cs.length = n) (hc : ∀ j v, cs[j]? = some v → w.cell? ⟨b, 0 + j, none⟩ = some v) (h2 : Env.get E u = some x) : (results fn a.tmps).run P w = .ok (.tuple #[.agg cs.toArray, x]) w := by
  have e1 := hk.slot _ _ h1
  have e2 := hk.slot _ _ h2
  simp [results, h, e1, e2, asAddr, run_loadVarN ht hn hc]
/-- What follows a piece of code is walked once, for all ways through it. -/
theorem K.via {X : Fx} {it : Item} {k : List Item} {E : Env} {L : List HP} {ι : Type} (I : ι → Env × List HP) (h : ∀ i, K X k (I i).1 (I i).2) (h' : (∀ i, K X k (I i).1 (I i).2) → K X (it :: k) E L) : K X (it :: k) E L := h' h
/-! ### Rows of records -/
theorem flat_at {α : Type} {n : Nat} {enc : α → List Value} (hl : ∀ x, (enc x).length = n) : ∀ (xs : List α) (i j : Nat) (x : α) (v : Value), xs[i]? = some x → (enc x)[j]? = some v → (xs.flatMap enc)[i * n + j]? = some v
  | [], _, _, _, _, h, _ => by simp at h
  | y :: ys, 0, j, x, v, h, hv => by
    obtain rfl : y = x := by simpa using h
    have hj : j < (enc y).length := (List.getElem?_eq_some_iff.1 hv).1
    rw [List.flatMap_cons, Nat.zero_mul, Nat.zero_add, List.getElem?_append_left hj, hv]
  | y :: ys, i + 1, j, x, v, h, hv => by
    have h' : ys[i]? = some x := by simpa using h
    have ih := flat_at hl ys i j x v h' hv
    have e : (i + 1) * n + j = (enc y).length + (i * n + j) := by rw [hl, Nat.add_mul]; omega
    rw [List.flatMap_cons, e, List.getElem?_append_right (by omega), Nat.add_sub_cancel_left]
    exact ih
theorem pv_flat {α : Type} {n : Nat} {enc : α → List Value} {hl : ∀ x, (enc x).length = n} {h1 : ∀ x, ∀ v ∈ enc x, v.oneCell' = true} {ρ : World} {L : List HP} {w : World} {b e : Nat} {cs : List Value} (xs : List α) (hc : cs = xs.flatMap enc)
    (h : St ρ (pv b e cs :: L) w) : St ρ (RowF (Kd.flat n enc hl h1) (some ⟨b, 0, none⟩) xs :: L) w :=
  pv_rowFg xs (fun g i x hx => ⟨enc x, rfl, fun j v hv => by
    subst hc
    have := flat_at hl xs i j x v hx hv
    have e : 0 + i * (Kd.flat n enc hl h1).sz + j = i * n + j := by show 0 + i * n + j = _; omega
    rw [e]; simpa using this⟩) h
theorem rowF_cells {α : Type} {n : Nat} {enc : α → List Value} {hl : ∀ x, (enc x).length = n} {h1 : ∀ x, ∀ v ∈ enc x, v.oneCell' = true} {ρ : World} {L : List HP} {b o : Nat} {xs : List α} {i : Nat} {x : α}
    (m : RowF (Kd.flat n enc hl h1) (some ⟨b, o, none⟩) xs ∈ L) (hx : xs[i]? = some x) : ∀ w, St ρ L w → ∀ j v, (enc x)[j]? = some v → w.cell? ⟨b, o + i * n + j, none⟩ = some v := fun w hs _ _ hv => rowF_cell m hx hv w hs
end Go.Proofs.YthnmoiilaaoooaaGreat.L
/-! Equality of records whose fields are ints, bools and texts. -/
namespace Go.Proofs.YthnmoiilaaoooaaGreat.L
open Go Go.RowKit

/-- Two single cells of one type, and whether they are equal. -/
inductive Sc (P : Program) (t : TypeId) : Value → Value → Bool → Prop where
  | int {k : IntKind} {a b : Int} (h : P.underlying t = some (.int k)) : Sc P t (.int k a) (.int k b) (a == b)
  | bool {a b : Bool} (h : P.underlying t = some .bool) : Sc P t (.bool a) (.bool b) (a == b)
  | str {a b : ByteArray} (h : P.underlying t = some .string) : Sc P t (.string a) (.string b) (a == b)
theorem Sc.run {P : Program} {t : TypeId} {a b : Value} {r : Bool} (h : Sc P t a b r) (d : Nat) (w : World) : (Op.equalIn (d + 1) t a b).run P w = .ok r w := by
  cases h with
  | int h => exact eq_int d h
  | bool h => exact eq_bool d h
  | str h => exact eq_str d h
inductive EqF (P : Program) (xs ys : List Value) : List Field → Bool → Prop where
  | nil : EqF P xs ys [] true
  | cons {f : Field} {fs : List Field} {a b : Value} {r s : Bool} (hn : (f.name == "_") = false) (hk : cellK P f.type = some (false, 1)) (ha : xs[f.offset]? = some a) (hb : ys[f.offset]? = some b) (hs : Sc P f.type a b r) (ht : EqF P xs ys fs s) : EqF P xs ys (f :: fs) (r && s)
theorem run_part1 {P : Program} {w : World} {t : TypeId} {cs : List Value} {o : Nat} {v : Value} (hk : cellK P t = some (false, 1)) (hv : cs[o]? = some v) : (part t cs.toArray o).run P w = .ok v w := by
  have hv' : cs.toArray[o]? = some v := by simpa using hv
  simp [part, run_cellK1 hk, hv']
theorem EqF.run {P : Program} {xs ys : List Value} {fs : List Field} {r : Bool} (h : EqF P xs ys fs r) (d : Nat) (w : World) : (Op.eqFields (d + 1) xs.toArray ys.toArray fs).run P w = .ok r w := by
  induction h with
  | nil => simp [Op.eqFields]
  | cons hn hk ha hb hs ht ih =>
    rename_i f fs a b r s
    have hn' : f.name ≠ "_" := by simpa using hn
    rw [Op.eqFields]
    simp only [if_pos hn', Sem.run_bind, run_part1 hk ha, run_part1 hk hb, hs.run d w, Result.andThen_ok]
    cases r
    · simp
    · simpa using ih
section
variable {X : Fx} {E : Env} {L : List HP} {d : Option Tmp} {t u ty : TypeId} {x y : Operand} {pos : String} {af : Array Edge} {gd : Option (Nat × Bool)}
theorem run_rec {P : Program} {w : World} {xs ys : List Value} {fs : Array Field} {r : Bool} (ht : P.underlying t = some (.struct fs)) (hp : P.stoodInHeld t = false) (h : EqF P xs ys fs.toList r) : (Op.equalIn 10000 t (.agg xs.toArray) (.agg ys.toArray)).run P w = .ok r w := by
  have hf : P.fieldsOf t = fs := by simp [Program.fieldsOf, ht]
  rw [run_equalIn_struct (P := P) w 9999 t xs.toArray ys.toArray (by rw [hf]; exact ht) hp, hf]
  exact h.run 9998 w
theorem q_recE {xs ys : List Value} {fs : Array Field} {r : Bool} (ht : X.P.underlying t = some (.struct fs)) (hp : X.P.stoodInHeld t = false) (hg : X.P.eqGuardType X.P.depth t = false) (hx : Env.ev E x = some (.agg xs.toArray)) (hy : Env.ev E y = some (.agg ys.toArray))
    (h : EqF X.P xs ys fs.toList r) : OpQ X ⟨d, .binOp .eql t x y u, ty, pos, af, gd⟩ E L (.bool r) := fun _ w hk _ => by
  simp only [execOp, hk.ev hx, hk.ev hy, Sem.run_bind, run_eqGuard_agg (P := X.P) w .eql t x y xs.toArray ys.toArray hg, Result.andThen_ok]
  simp [run_eql_struct (P := X.P) w t xs.toArray ys.toArray, run_rec (w := w) ht hp h]
theorem q_recN {xs ys : List Value} {fs : Array Field} {r : Bool} (ht : X.P.underlying t = some (.struct fs)) (hp : X.P.stoodInHeld t = false) (hg : X.P.eqGuardType X.P.depth t = false) (hx : Env.ev E x = some (.agg xs.toArray)) (hy : Env.ev E y = some (.agg ys.toArray))
    (h : EqF X.P xs ys fs.toList r) : OpQ X ⟨d, .binOp .neq t x y u, ty, pos, af, gd⟩ E L (.bool (!r)) := fun _ w hk _ => by
  simp only [execOp, hk.ev hx, hk.ev hy, Sem.run_bind, run_eqGuard_agg (P := X.P) w .neq t x y xs.toArray ys.toArray hg, Result.andThen_ok]
  simp [run_neq_struct (P := X.P) w t xs.toArray ys.toArray, run_rec (w := w) ht hp h]
end
end Go.Proofs.YthnmoiilaaoooaaGreat.L
/-! A record inside a record: its cells in the block. -/
namespace Go.Proofs.YthnmoiilaaoooaaGreat.L
open Go Go.RowKit

theorem cells_pvAt {ρ : World} {L : List HP} {b o : Nat} {e : TypeId} {cs vs rest : List Value} (m : pv b e cs ∈ L) (hd : cs.drop o = vs ++ rest) : ∀ w, St ρ L w → ∀ j v, vs[j]? = some v → w.cell? ⟨b, o + j, none⟩ = some v := fun w hs j v hv => by
  refine cell_pv m ?_ w hs
  have hj : j < vs.length := (List.getElem?_eq_some_iff.1 hv).1
  have h1 : (cs.drop o)[j]? = some v := by rw [hd, List.getElem?_append_left hj, hv]
  rwa [List.getElem?_drop] at h1
/-! ### A guard on an operation that was itself skipped -/
def goneOp (N : Nat) (ops : Array Oper) (E : Env) (o : Oper) : Bool :=
  dstOk N o.dst && match o.guard with
    | none => false
    | some (j, _) => match ((ops[j]?).bind (·.dst)).bind (Env.get E) with
      | some (.bool _) => false
      | some _ => true
      | none => false
theorem goneOp_dst {N : Nat} {ops : Array Oper} {E : Env} {o : Oper} (h : goneOp N ops E o = true) : dstOk N o.dst = true := by
  unfold goneOp at h
  rw [Bool.and_eq_true] at h
  exact h.1
theorem goneOp_wanted {N : Nat} {ops : Array Oper} {E : Env} {o : Oper} {a : Act} (hk : Know N E a) (h : goneOp N ops E o = true) : Region.wanted o (yielded ops a.tmps) = false := by
  unfold goneOp at h
  rw [Bool.and_eq_true] at h
  obtain ⟨_, h⟩ := h
  unfold Region.wanted
  cases hg : o.guard with
  | none => rw [hg] at h; cases h
  | some p =>
    obtain ⟨j, g⟩ := p
    rw [hg] at h
    simp only at h ⊢
    cases hd : (ops[j]?).bind (·.dst) with
    | none => rw [hd] at h; cases h
    | some t =>
      rw [hd] at h
      simp only [Option.bind_some] at h
      cases he : Env.get E t with
      | none => rw [he] at h; cases h
      | some v =>
        rw [he] at h
        have hs := hk.slot _ _ he
        unfold yielded
        rw [hd]
        simp only [Option.bind_some, hs]
        cases v <;> simp_all
section
variable {X : Fx} {E : Env} {L : List HP} {ops : Array Oper} {l : List Oper} {k : List Item} {d : Tmp} {op : Op} {ty : TypeId} {pos : String} {af : Array Edge} {gd : Option (Nat × Bool)}
theorem KO.gone (hok : goneOp X.N ops E ⟨some d, op, ty, pos, af, gd⟩ = true) (h : KO X ops l k ((d, undef) :: E) L) : KO X ops (⟨some d, op, ty, pos, af, gd⟩ :: l) k E L := fun a w hk hs => by
  simp only [wpL, goneOp_wanted hk hok, Bool.false_eq_true, if_false]
  exact h _ _ (hk.put (goneOp_dst hok) undef) hs
end
end Go.Proofs.YthnmoiilaaoooaaGreat.L
/-! Elements of rows by an address of their own; calls whose heap is found first; equality of records with records inside; skipped guards in a region that draws. No program in sight. -/
namespace Go.Proofs.YthnmoiilaaoooaaGreat.L
open Go Go.RowKit

/-! ### Addresses of a row's elements -/
def rowB (p : Option Addr) : Nat := match p with | some a => a.block | none => 0
def rowS (p : Option Addr) : Nat := match p with | some a => a.off | none => 0
/-- Cell j of element n of the row at p, of elements of sz cells. -/
def elA (p : Option Addr) (n sz j : Nat) : Addr := ⟨rowB p, rowS p + n * sz + j, none⟩
theorem elA_some (b o n sz j : Nat) : elA (some ⟨b, o, none⟩) n sz j = ⟨b, o + n * sz + j, none⟩ := rfl
theorem elA_none (b o n sz j : Nat) : (elA (some ⟨b, o, none⟩) n sz j).spot = none := rfl
section
variable {X : Fx} {E : Env} {L L' : List HP} {d : Option Tmp} {ty : TypeId} {pos : String} {af : Array Edge} {gd : Option (Nat × Bool)} {t : TypeId}
theorem OpQ.when {o : Oper} {v : Value} {φ : Prop} (hf : ∀ w, St X.ρ L w → φ) (h : φ → OpQ X o E L v) : OpQ X o E L v := fun a w hk hs => h (hf w hs) a w hk hs
theorem q_ix {α : Type} {k : Kd α} {A : HP} {p : Option Addr} {xs : List α} {e sz bytes len cap : Nat} {x ix : Operand} {ik : IntKind} {i : Int} (n : Nat) (ht : slElem X.P t = some (e, sz, bytes)) (hx : Env.ev E x = some (.slice p len cap)) (hi : Env.ev E ix = some (.int ik i)) (hn : i = (n : Int))
    (hA : IsRow A k p xs) (m : A ∈ L) (hl : len = xs.length) (h1 : n < xs.length) : OpQ X ⟨d, .indexAddr t x ix, ty, pos, af, gd⟩ E L (.pointer (some (elA p n sz 0))) := by
  refine OpQ.when (row_addr hA m (by intro e; subst e; simp at h1)) ?_
  rintro ⟨b, o, rfl⟩
  have := q_index (X := X) (L := L) (d := d) (ty := ty) (pos := pos) (af := af) (gd := gd) ht hx hi (by omega) (by omega)
  rw [hn, Int.toNat_natCast] at this
  rw [elA_some]
  exact this
theorem q_fieldE {s : TypeId} {x : Operand} {f off n sz j : Nat} {p : Option Addr} (hf : fieldOff X.P s f = some off) (hx : Env.ev E x = some (.pointer (some (elA p n sz j)))) :
    OpQ X ⟨d, .fieldAddr s x f, ty, pos, af, gd⟩ E L (.pointer (some (elA p n sz (j + off)))) := by
  have := q_field (X := X) (L := L) (d := d) (ty := ty) (pos := pos) (af := af) (gd := gd) (b := rowB p) (o := rowS p + n * sz + j) hf hx
  rw [Nat.add_assoc] at this
  exact this
theorem q_nilE {x : Operand} {n sz j : Nat} {p : Option Addr} (hx : Env.ev E x = some (.pointer (some (elA p n sz j)))) : OpQ X ⟨d, .nilCheck x, ty, pos, af, gd⟩ E L (.pointer (some (elA p n sz j))) := q_nilCheck hx
theorem row_cellE {α : Type} {sz : Nat} {enc : α → List Value} {hl : ∀ x, (enc x).length = sz} {h1 : ∀ x, ∀ v ∈ enc x, v.oneCell' = true} {ρ : World} {A : HP} {p : Option Addr} {xs : List α} {n j : Nat} {el : α} {v : Value}
    (hA : IsRow A (Kd.flat sz enc hl h1) p xs) (m : A ∈ L) (he : xs[n]? = some el) (hv : (enc el)[j]? = some v) : ∀ w, St ρ L w → w.cell? (elA p n sz j) = some v := fun w hs => by
  obtain ⟨b, o, rfl⟩ := row_addr hA m (by intro e; subst e; simp at he) w hs
  rw [elA_some]
  exact row_cell hA m he hv w hs
theorem q_ldE {α : Type} {sz : Nat} {enc : α → List Value} {hl : ∀ x, (enc x).length = sz} {h1 : ∀ x, ∀ v ∈ enc x, v.oneCell' = true} {A : HP} {p : Option Addr} {xs : List α} {n j : Nat} {x : Operand} {el : α} {v : Value} (ht : cellK X.P t = some (false, 1)) (hx : Env.ev E x = some (.pointer (some (elA p n sz j))))
    (hA : IsRow A (Kd.flat sz enc hl h1) p xs) (m : A ∈ L) (he : xs[n]? = some el) (hv : (enc el)[j]? = some v) : OpQ X ⟨d, .load t x, ty, pos, af, gd⟩ E L v :=
  q_load1 ht hx (row_cellE hA m he hv)
/-- A record, whole, of a row. -/
theorem q_ldEN {α : Type} {sz : Nat} {enc : α → List Value} {hl : ∀ x, (enc x).length = sz} {h1 : ∀ x, ∀ v ∈ enc x, v.oneCell' = true} {A : HP} {p : Option Addr} {xs : List α} {n : Nat} {x : Operand} {el : α} (ht : cellK X.P t = some (true, sz)) (hx : Env.ev E x = some (.pointer (some (elA p n sz 0))))
    (hA : IsRow A (Kd.flat sz enc hl h1) p xs) (m : A ∈ L) (he : xs[n]? = some el) : OpQ X ⟨d, .load t x, ty, pos, af, gd⟩ E L (.agg (enc el).toArray) := by
  refine OpQ.when (row_addr hA m (by intro e; subst e; simp at he)) ?_
  rintro ⟨b, o, rfl⟩
  refine q_loadN (b := b) (o := o + n * sz) ht (by simpa [elA_some] using hx) (hl el) (fun w hs j v hv => ?_)
  have := row_cellE hA m he hv w hs
  rwa [elA_some] at this
/-- Of a record the cells of one of its fields that is a record. -/
def SubAt {α β : Type} (enc : α → List Value) (j : Nat) (sub : α → β) (enc' : β → List Value) : Prop := ∀ x, ∃ rest, (enc x).drop j = enc' (sub x) ++ rest
theorem SubAt.get {α β : Type} {enc : α → List Value} {j : Nat} {sub : α → β} {enc' : β → List Value} (h : SubAt enc j sub enc') (x : α) {i : Nat} {v : Value} (hv : (enc' (sub x))[i]? = some v) : (enc x)[j + i]? = some v := by
  obtain ⟨rest, e⟩ := h x
  have : ((enc x).drop j)[i]? = some v := by rw [e, List.getElem?_append_left (List.getElem?_eq_some_iff.1 hv).1, hv]
  rwa [List.getElem?_drop] at this
theorem q_ldES {α β : Type} {sz m' : Nat} {enc : α → List Value} {hl : ∀ x, (enc x).length = sz} {h1 : ∀ x, ∀ v ∈ enc x, v.oneCell' = true} {sub : α → β} {enc' : β → List Value} {A : HP} {p : Option Addr} {xs : List α} {n j : Nat} {x : Operand} {el : α} (hs' : SubAt enc j sub enc') (hl' : ∀ y, (enc' y).length = m')
    (ht : cellK X.P t = some (true, m')) (hx : Env.ev E x = some (.pointer (some (elA p n sz j))))
    (hA : IsRow A (Kd.flat sz enc hl h1) p xs) (m : A ∈ L) (he : xs[n]? = some el) : OpQ X ⟨d, .load t x, ty, pos, af, gd⟩ E L (.agg (enc' (sub el)).toArray) := by
  refine OpQ.when (row_addr hA m (by intro e; subst e; simp at he)) ?_
  rintro ⟨b, o, rfl⟩
  refine q_loadN (b := b) (o := o + n * sz + j) ht (by simpa [elA_some] using hx) (hl' _) (fun w hs i v hv => ?_)
  have := row_cellE hA m he (hs'.get el hv) w hs
  rwa [elA_some, ← Nat.add_assoc] at this
theorem q_ldPS {α β : Type} {m' : Nat} {enc : α → List Value} {sub : α → β} {enc' : β → List Value} {b e j : Nat} {x : Operand} {el : α} (hs' : SubAt enc j sub enc') (hl' : ∀ y, (enc' y).length = m')
    (ht : cellK X.P t = some (true, m')) (hx : Env.ev E x = some (.pointer (some ⟨b, j, none⟩))) (m : pv b e (enc el) ∈ L) : OpQ X ⟨d, .load t x, ty, pos, af, gd⟩ E L (.agg (enc' (sub el)).toArray) :=
  q_loadN (b := b) (o := j) ht hx (hl' _) (fun w hs _ _ hv => cell_pv m (hs'.get el hv) w hs)
/-- The cells said otherwise. -/
theorem q_as {o : Oper} {cs cs' : List Value} (h : OpQ X o E L (.agg cs.toArray)) (e : cs = cs') : OpQ X o E L (.agg cs'.toArray) := e ▸ h
theorem q_is {o : Oper} {v v' : Value} (h : OpQ X o E L v) (e : v = v') : OpQ X o E L v' := e ▸ h

/-! ### A call: first its heap, then its contract -/
theorem OpL.callG {f : FuncId} {args : List Operand} {ats : Array TypeId} {vs : List Value} {pre : List HP} {Φ : Value → List HP → Prop} (hargs : Env.evs E args = some vs) (hg : Give L pre L') (hfn : Fn X.P f vs.toArray pre Φ) :
    OpL X ⟨d, .call ⟨.value (.func f), args.toArray, ats⟩, ty, pos, af, gd⟩ E L (fun v L'' => ∃ post, Φ v post ∧ L'' = post ++ L') := OpL.call hargs hfn hg
theorem OpL.callD {f : FuncId} {args : List Operand} {ats : Array TypeId} {vs : List Value} {pre : List HP} {Φ : Value → List HP → Prop} (hargs : Env.evs E args = some vs) (hg : Give L pre L' := by repeat (first | exact Give.nil | (apply Give.perI; (repeat (first | exact List.Mem.head _ | apply List.Mem.tail))) | (apply Give.own; (repeat (first | exact Pick.here | apply Pick.there))))) (h : Fn X.P f vs.toArray pre Φ) :
    OpL X ⟨d, .call ⟨.value (.func f), args.toArray, ats⟩, ty, pos, af, gd⟩ E L (fun v L'' => ∃ post, Φ v post ∧ L'' = post ++ L') := OpL.call hargs h hg
theorem OpL.callE {f : FuncId} {args : List Operand} {ats : Array TypeId} {vs : List Value} {pre : List HP} {Φ : Value → List HP → Prop} (hargs : Env.evs E args = some vs) (h : Fn X.P f vs.toArray pre Φ) (hg : Give L pre L' := by repeat (first | exact Give.nil | (apply Give.perI; (repeat (first | exact List.Mem.head _ | apply List.Mem.tail))) | (apply Give.own; (repeat (first | exact Pick.here | apply Pick.there))))) :
    OpL X ⟨d, .call ⟨.value (.func f), args.toArray, ats⟩, ty, pos, af, gd⟩ E L (fun v L'' => ∃ post, Φ v post ∧ L'' = post ++ L') := OpL.call hargs h hg
theorem OpL.callCG {x : Operand} {args : List Operand} {ats : Array TypeId} {f : FuncId} {first captured vs : List Value} {pre : List HP} {Φ : Value → List HP → Prop} (hx : Env.ev E x = some (.func (.func f) first.toArray captured.toArray)) (hargs : Env.evs E args = some vs)
    (hg : Give L pre L') (hfn : Fn X.P f (first ++ vs ++ captured).toArray pre Φ) :
    OpL X ⟨d, .call ⟨.value x, args.toArray, ats⟩, ty, pos, af, gd⟩ E L (fun v L'' => ∃ post, Φ v post ∧ L'' = post ++ L') := OpL.callC hx hargs hfn hg
theorem q_load1D {t : TypeId} {x : Operand} {p : Addr} {v : Value} (ht : cellK X.P t = some (false, 1)) (hx : Env.ev E x = some (.pointer (some p))) (hc : ∀ w, St X.ρ L w → w.cell? p = some v := by first | (apply cell_pv; (repeat (first | exact List.Mem.head _ | apply List.Mem.tail)); rfl) | (apply cell_fv; (repeat (first | exact List.Mem.head _ | apply List.Mem.tail)); rfl) | (apply rowF_cellU; (repeat (first | exact List.Mem.head _ | apply List.Mem.tail)); assumption) | (apply itm_cell; (repeat (first | exact List.Mem.head _ | apply List.Mem.tail)); assumption; rfl)) :
    OpQ X ⟨d, .load t x, ty, pos, af, gd⟩ E L v := q_load1 ht hx hc
/-- A function that neither asks for memory nor gives any: a quiet operation. -/
def Fp (P : Program) (f : FuncId) (args : Array Value) (v : Value) : Prop := Fn P f args [] (fun r post => r = v ∧ post = [])
end
/-! ### Tests that are kept in mind -/
section
variable {X : Fx} {k : List Item} {E : Env} {L : List HP}
theorem K.know {s : Nat} {v : Value} (h : Env.get E s = some v) (hk : K X k ((s, v) :: E) L) : K X k E L := fun a w hka hs => hk a w (hka.bool_at h) hs
theorem K.dcond {s : Nat} {x y : Code} {p : Prop} {dp : Decidable p} (hc : Env.get E s = some (.bool (@decide p dp))) (h1 : p → K X (.code x :: k) ((s, .bool true) :: E) L) (h2 : ¬ p → K X (.code y :: k) ((s, .bool false) :: E) L) : K X (.code (.cond (.tmp s) x y) :: k) E L :=
  K.dite (dp := dp) hc (fun h => K.know (by rw [hc, decide_eq_true h]) (h1 h)) (fun h => K.know (by rw [hc, decide_eq_false h]) (h2 h))
theorem K.bcond {s : Nat} {x y : Code} {b : Bool} (hc : Env.get E s = some (.bool b)) (h1 : b = true → K X (.code x :: k) ((s, .bool true) :: E) L) (h2 : b = false → K X (.code y :: k) ((s, .bool false) :: E) L) : K X (.code (.cond (.tmp s) x y) :: k) E L :=
  K.ite hc (fun h => K.know (by rw [hc, h]) (h1 h)) (fun h => K.know (by rw [hc, h]) (h2 h))
end
/-! ### What is kept of a list while a region draws -/
inductive Persd : List HP → List HP → Prop where
  | nil : Persd [] []
  | keep {A L M} : A.pers = true → Persd L M → Persd (A :: L) (A :: M)
  | drop {A L M} : Persd L M → Persd (A :: L) M
theorem Persd.keepI {A : HP} {L M : List HP} [h : Pers A] (p : Persd L M) : Persd (A :: L) (A :: M) := .keep h.h p
theorem Persd.mem {L M : List HP} (p : Persd L M) : ∀ A ∈ M, A.pers = true ∧ A ∈ L := by
  induction p with
  | nil => intro A h; cases h
  | keep hp _ ih =>
    intro A h
    rcases List.mem_cons.1 h with rfl | h
    · exact ⟨hp, List.mem_cons_self⟩
    · exact ⟨(ih A h).1, List.mem_cons_of_mem _ (ih A h).2⟩
  | drop _ ih => intro A h; exact ⟨(ih A h).1, List.mem_cons_of_mem _ (ih A h).2⟩
theorem Give.ofPers {L M : List HP} (h : ∀ A ∈ M, A.pers = true ∧ A ∈ L) : Give L M L := by
  induction M with
  | nil => exact .nil
  | cons A M ih => exact .per (h A List.mem_cons_self).1 (h A List.mem_cons_self).2 (ih fun B hB => h B (List.mem_cons_of_mem _ hB))
/-- Part of a list. -/
inductive SubL : List HP → List HP → Prop where
  | none {L} : SubL L []
  | keep {A L M} : SubL L M → SubL (A :: L) (A :: M)
  | drop {A L M} : SubL L M → SubL (A :: L) M
theorem SubL.pers {A : HP} {L M : List HP} [Pers A] (p : SubL L M) : SubL (A :: L) (A :: M) := .keep p
theorem SubL.own {b : Nat} {e : TypeId} {cs : List Value} {L M : List HP} (p : SubL L M) : SubL (pv b e cs :: L) (pv b e cs :: M) := .keep p
theorem SubL.sep {L M : List HP} (p : SubL L M) : ∀ {g h}, sepAll L g h → sepAll M g h := by
  induction p with
  | none => exact fun _ => trivial
  | keep _ ih => rintro g h ⟨h1, h2, ap, l1, l2, ha, hl⟩; exact ⟨h1, h2, ap, l1, l2, ha, ih hl⟩
  | drop _ ih => rintro g h ⟨_, h2, _, _, l2, _, hl⟩; exact sepAll_mono (Hp.le_refl _) l2 (ih hl)
theorem SubL.st {ρ : World} {L M : List HP} {w : World} (p : SubL L M) (h : St ρ L w) : St ρ M w :=
  let ⟨g, k, a, b, c, d⟩ := h.body
  ⟨h.os, h.tape, h.output, g, k, a, b, c, p.sep d⟩
section
variable {X : Fx} {k : List Item} {E : Env} {L M Sc : List HP} {ops : Array Oper} {fuel : Nat} {early : List Nat} {listed : Array Bool}
theorem K.drawU {id : Nat} {l : List Oper} (_ : SubL L M) (hm : X.P.follows .mixedOrders = true) (h : D X l.toArray k M l.length [] (Array.replicate l.length false) E L) : K X (.code (.region id l.toArray true) :: k) E L := K.draw M hm h
/-- The region draws; Sc: what early reads hang on. -/
theorem K.drawS {id : Nat} {l : List Oper} (Sc : List HP) (_ : ∀ w, St X.ρ L w → St X.ρ Sc w) (hm : X.P.follows .mixedOrders = true) (h : D X l.toArray k Sc l.length [] (Array.replicate l.length false) E L) : K X (.code (.region id l.toArray true) :: k) E L := K.draw Sc hm h
def goneOk (N : Nat) (ops : Array Oper) (E : Env) (i : Nat) : Bool := match ops[i]? with | some o => goneOp N ops E o | none => false
theorem D.gone (i : Nat) {d : Tmp} {op : Op} {ty : TypeId} {pos : String} {af : Array Edge} {gd : Option (Nat × Bool)} (ho : ops[i]? = some ⟨some d, op, ty, pos, af, gd⟩) (ht : takeOk ops listed i = true) (hok : goneOp X.N ops E ⟨some d, op, ty, pos, af, gd⟩ = true) (hsub : ∀ w, St X.ρ L w → St X.ρ Sc w)
    (h : D X ops k Sc fuel (i :: early) (listed.setIfInBounds i true) ((d, undef) :: E) L) : D X ops k Sc (fuel + 1) early listed E L := fun a w hk hs => by
  simp only [takeOk, Bool.and_eq_true] at ht
  exact wpAnyT_first ho (Region.noSelect_spec ht.1.1) (fun _ _ _ h => h) fuel early listed a w (Region.free_spec ho ht.1.2) (by simpa using ht.2)
    (.inr ⟨goneOp_wanted hk hok, rfl⟩) (hsub w hs) (h _ _ (hk.put (goneOp_dst hok) undef) hs)
end
/-! ### A literal of one record, and a block of one as a row -/
theorem SetN.all : ∀ (pre zs cs : List Value), zs.length = cs.length → SetN (pre ++ zs) pre.length cs (pre ++ cs)
  | pre, [], [], _ => .nil
  | pre, z :: zs, c :: cs, h => by
    have key : ∀ (pre : List Value), SetAt (pre ++ z :: zs) pre.length c (pre ++ c :: zs) := fun pre => by
      induction pre with
      | nil => exact .here
      | cons a pre ih => exact .there ih
    have := SetN.all (pre ++ [c]) zs cs (by simpa using h)
    rw [List.append_assoc, List.append_assoc, List.length_append] at this
    exact .cons (key pre) this
  | _, [], _ :: _, h => by cases h
  | _, _ :: _, [], h => by cases h
section
variable {X : Fx} {E : Env} {L : List HP} {d : Option Tmp} {ty : TypeId} {pos : String} {af : Array Edge} {gd : Option (Nat × Bool)} {t : TypeId}
theorem l_slice1 {e sz : Nat} {x : Operand} {v : Value} {zeros cs : List Value} (ht : slZeros X.P t 1 = some (e, sz, zeros)) (hx : Env.ev E x = some v) (hc : v.cells = cs.toArray) (hl : (cs.length = sz ∧ zeros.length = sz ∧ cs.isEmpty = false)) :
    OpL X ⟨d, .buildSlice t 1 [(0, x)].toArray, ty, pos, af, gd⟩ E L (fun v' L' => ∃ b, v' = .slice (some ⟨b, 0, none⟩) 1 1 ∧ L' = pv b e cs :: L) := by
  obtain ⟨h1, h2, h3⟩ := hl
  cases cs with
  | nil => cases h3
  | cons u us => exact l_slice (vs := [(0, v)]) ht (by simp [Env.parts, hx]) (.cons (off := 0) (size := sz) (by simp) hc (by simpa using h1) (by simpa using SetN.all [] zeros (u :: us) (by rw [h1, h2])) .nil)
end
section
variable {X : Fx} {E : Env} {L L1 : List HP} {d : Option Tmp} {ty : TypeId} {pos : String} {af : Array Edge} {gd : Option (Nat × Bool)} {t : TypeId}
/-- A block stored whole. -/
theorem l_storeAll {x y : Operand} {b n : Nat} {e : TypeId} {vs cs : List Value} (ht : cellK X.P t = some (true, n)) (hx : Env.ev E x = some (.pointer (some ⟨b, 0, none⟩))) (hy : Env.ev E y = some (.agg vs.toArray))
    (hn : vs.length = n ∧ cs.length = n) (h1 : ∀ v ∈ vs, v.oneCell' = true) (hp : Pick L (pv b e cs) L1) : OpL X ⟨d, .store t x y, ty, pos, af, gd⟩ E L (fun v' L' => v' = undef ∧ L' = pv b e vs :: L1) :=
  l_storeN ht hx hy hn.1 h1 hp (by simpa using SetN.all [] cs vs (by rw [hn.1, hn.2]))
end
theorem isP {α : Type} {sz : Nat} {enc : α → List Value} {hl : ∀ x, (enc x).length = sz} {h1 : ∀ x, ∀ v ∈ enc x, v.oneCell' = true} {b e : Nat} {x : α} : IsRow (pv b e (enc x)) (Kd.flat sz enc hl h1) (some ⟨b, 0, none⟩) [x] := fun g h ha => .inr ⟨b, 0, (enc x).toArray, e, (0, 0), rfl, .inr ha, fun i y hy => by
  cases i with
  | zero => simp at hy; subst hy; exact ⟨enc x, rfl, fun j v hv => by simpa using hv⟩
  | succ i => simp at hy⟩
/-! ### Equality of records, with records inside -/
theorem bbeq (a b : ByteArray) : (a == b) = decide (a = b) := by
  rw [beq_toListBytes]; exact sbeq_dec a b
inductive EqG (P : Program) (xs ys : List Value) : List Field → Bool → Prop where
  | nil : EqG P xs ys [] true
  | cons {f : Field} {fs : List Field} {a b : Value} {r s : Bool} (hn : (f.name == "_") = false) (hk : cellK P f.type = some (false, 1)) (ha : xs[f.offset]? = some a) (hb : ys[f.offset]? = some b) (hs : Sc P f.type a b r) (ht : EqG P xs ys fs s) : EqG P xs ys (f :: fs) (r && s)
  | sub {f : Field} {fs : List Field} {us vs : List Value} {n : Nat} {gs : Array Field} {r s : Bool} (hn : (f.name == "_") = false) (hk : cellK P f.type = some (true, n)) (ha : (xs.drop f.offset).take n = us) (hb : (ys.drop f.offset).take n = vs)
      (hu : P.underlying f.type = some (.struct gs)) (hp : P.stoodInHeld f.type = false) (hs : EqF P us vs gs.toList r) (ht : EqG P xs ys fs s) : EqG P xs ys (f :: fs) (r && s)
theorem run_partN {P : Program} {w : World} {t : TypeId} {cs us : List Value} {o n : Nat} (hk : cellK P t = some (true, n)) (hv : (cs.drop o).take n = us) : (part t cs.toArray o).run P w = .ok (.agg us.toArray) w := by
  simp [part, run_cellKN hk, run_sizeK hk, ← hv]
theorem EqG.run {P : Program} {xs ys : List Value} {fs : List Field} {r : Bool} (h : EqG P xs ys fs r) (d : Nat) (w : World) : (Op.eqFields (d + 3) xs.toArray ys.toArray fs).run P w = .ok r w := by
  induction h with
  | nil => simp [Op.eqFields]
  | cons hn hk ha hb hs ht ih =>
    rename_i f fs a b r s
    have hn' : f.name ≠ "_" := by simpa using hn
    rw [Op.eqFields]
    simp only [if_pos hn', Sem.run_bind, run_part1 hk ha, run_part1 hk hb, hs.run (d + 2) w, Result.andThen_ok]
    cases r
    · simp
    · simpa using ih
  | sub hn hk ha hb hu hp hs ht ih =>
    rename_i f fs us vs n gs r s
    have hn' : f.name ≠ "_" := by simpa using hn
    have hf : P.fieldsOf f.type = gs := by simp [Program.fieldsOf, hu]
    rw [Op.eqFields]
    simp only [if_pos hn', Sem.run_bind, run_partN hk ha, run_partN hk hb, Result.andThen_ok]
    rw [run_equalIn_struct (P := P) w (d + 2) f.type us.toArray vs.toArray (by rw [hf]; exact hu) hp, hf, hs.run (d + 1) w]
    cases r
    · simp
    · simpa using ih
section
variable {X : Fx} {E : Env} {L : List HP} {d : Option Tmp} {t u ty : TypeId} {x y : Operand} {pos : String} {af : Array Edge} {gd : Option (Nat × Bool)}
theorem run_recG {P : Program} {w : World} {xs ys : List Value} {fs : Array Field} {r : Bool} (ht : P.underlying t = some (.struct fs)) (hp : P.stoodInHeld t = false) (h : EqG P xs ys fs.toList r) : (Op.equalIn 10000 t (.agg xs.toArray) (.agg ys.toArray)).run P w = .ok r w := by
  have hf : P.fieldsOf t = fs := by simp [Program.fieldsOf, ht]
  rw [run_equalIn_struct (P := P) w 9999 t xs.toArray ys.toArray (by rw [hf]; exact ht) hp, hf]
  exact h.run 9996 w
theorem q_recEG {xs ys : List Value} {fs : Array Field} {r : Bool} (ht : X.P.underlying t = some (.struct fs)) (hp : X.P.stoodInHeld t = false) (hg : X.P.eqGuardType X.P.depth t = false) (hx : Env.ev E x = some (.agg xs.toArray)) (hy : Env.ev E y = some (.agg ys.toArray))
    (h : EqG X.P xs ys fs.toList r) : OpQ X ⟨d, .binOp .eql t x y u, ty, pos, af, gd⟩ E L (.bool r) := fun _ w hk _ => by
  simp only [execOp, hk.ev hx, hk.ev hy, Sem.run_bind, run_eqGuard_agg (P := X.P) w .eql t x y xs.toArray ys.toArray hg, Result.andThen_ok]
  simp [run_eql_struct (P := X.P) w t xs.toArray ys.toArray, run_recG (w := w) ht hp h]
theorem q_recNG {p : Prop} {dp : Decidable p} {xs ys : List Value} {fs : Array Field} (ht : X.P.underlying t = some (.struct fs)) (hp : X.P.stoodInHeld t = false) (hg : X.P.eqGuardType X.P.depth t = false) (hx : Env.ev E x = some (.agg xs.toArray)) (hy : Env.ev E y = some (.agg ys.toArray))
    (h : EqG X.P xs ys fs.toList (@decide p dp)) : OpQ X ⟨d, .binOp .neq t x y u, ty, pos, af, gd⟩ E L (.bool (decide (¬ p))) := fun _ w hk _ => by
  simp only [execOp, hk.ev hx, hk.ev hy, Sem.run_bind, run_eqGuard_agg (P := X.P) w .neq t x y xs.toArray ys.toArray hg, Result.andThen_ok]
  simp [run_neq_struct (P := X.P) w t xs.toArray ys.toArray, run_recG (w := w) ht hp h]
end
end Go.Proofs.YthnmoiilaaoooaaGreat.L
/-! Equality of records, told from the other side. -/
namespace Go.Proofs.YthnmoiilaaoooaaGreat.L
open Go Go.RowKit

theorem q_recEGs {X : Fx} {E : Env} {L : List HP} {d : Option Tmp} {t u ty : TypeId} {x y : Operand} {pos : String} {af : Array Edge} {gd : Option (Nat × Bool)} {α : Type} [DecidableEq α] {a b : α} {xs ys : List Value} {fs : Array Field} (ht : X.P.underlying t = some (.struct fs)) (hp : X.P.stoodInHeld t = false) (hg : X.P.eqGuardType X.P.depth t = false)
    (hx : Env.ev E x = some (.agg xs.toArray)) (hy : Env.ev E y = some (.agg ys.toArray)) (h : EqG X.P xs ys fs.toList (decide (a = b))) : OpQ X ⟨d, .binOp .eql t x y u, ty, pos, af, gd⟩ E L (.bool (decide (b = a))) := by
  rw [show decide (b = a) = decide (a = b) from decide_eq_decide.2 eq_comm]
  exact q_recEG ht hp hg hx hy h
/-- A loop: the frames and the lists of a family, apart. -/
theorem K.rounds2 {X : Fx} {k : List Item} {E : Env} {L : List HP} {c : Code} {ι : Type} (I : ι → Env) (J : ι → List HP) (μ : ι → Nat) (i : ι) (hE : Env.sub E (I i)) (hL : ∀ w, St X.ρ L w → St X.ρ (J i) w)
    (round : ∀ i, (∀ j, μ j < μ i → K X (.inLoop c :: k) (I j) (J j)) → K X (.code c :: .inLoop c :: k) (I i) (J i)) : K X (.code (.loop c) :: k) E L :=
  K.rounds (fun i => (I i, J i)) μ i hE hL round
end Go.Proofs.YthnmoiilaaoooaaGreat.L
