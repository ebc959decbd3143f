/- The operations, one law each: what an operation yields in a frame and a world of which E and L tell. Over any program; what the tables of types say comes in as small facts. -/
import Derived.Test.YtlellgnklohclaaWalk
import Derived.IntWalk
import Derived.Laws.World
namespace Go.Proofs.Ytlellgnklohclaa.L
open Go Go.RowKit

/-! ### What the tables of types say -/
def fieldOff (P : Program) (s : TypeId) (f : Nat) : Option Nat :=
  match P.underlying s with
  | some (.struct fs) => match fs[f]? with
    | some fd => match P.info? fd.type with
      | some i => if i.size = 0 then none else some fd.offset
      | none => none
    | none => none
  | _ => none
/-- Is it a struct or an array, and how many cells? -/
def cellK (P : Program) (t : TypeId) : Option (Bool × Nat) :=
  match P.underlying t, P.info? t with
  | some (.struct _), some i | some (.array _ _), some i => some (true, i.size)
  | some _, some i => some (false, i.size)
  | _, _ => none
/-- Of a slice type: the element type, its cells, its bytes. -/
def slElem (P : Program) (t : TypeId) : Option (TypeId × Nat × Nat) :=
  match P.underlying t with
  | some (.slice e) => match P.info? e with
    | some i => some (e, i.size, i.bytes)
    | none => none
  | _ => none
def zeroOf (P : Program) (t : TypeId) : Option (List Value) := ((P.info? t).bind (·.zero)).map fun v => v.cells.toList
inductive Knd where
  | bool | int (k : IntKind) | str | ptr | sl | map | func | st | other
  deriving DecidableEq
def kndOf (P : Program) (t : TypeId) : Option Knd :=
  match P.underlying t with
  | some .bool => some .bool
  | some (.int k) => some (.int k)
  | some .string => some .str
  | some (.pointer _) => some .ptr
  | some (.slice _) => some .sl
  | some (.map _ _) => some .map
  | some (.func _ _ _) => some .func
  | some (.struct _) => some .st
  | some _ => some .other
  | none => none

section
variable {X : Fx} {E : Env} {L : List HP} {d : Option Tmp} {ty : TypeId} {pos : String} {af : Array Edge} {gd : Option (Nat × Bool)}

theorem q_move {x : Operand} {v : Value} (hx : Env.ev E x = some v) : OpQ X ⟨d, .move x, ty, pos, af, gd⟩ E L v := fun a w hk _ => by
  simp [execOp, hk.ev hx]
theorem q_assign {x : Operand} {v : Value} (hx : Env.ev E x = some v) : OpQ X ⟨d, .assign x, ty, pos, af, gd⟩ E L v := fun a w hk _ => by
  simp [execOp, hk.ev hx]
theorem q_pickT {c x y : Operand} {v : Value} (hc : Env.ev E c = some (.bool true)) (hx : Env.ev E x = some v) : OpQ X ⟨d, .pick c x y, ty, pos, af, gd⟩ E L v := fun a w hk _ => by
  simp [execOp, hk.ev hc, hk.ev hx, asBool]
theorem q_pickF {c x y : Operand} {v : Value} (hc : Env.ev E c = some (.bool false)) (hy : Env.ev E y = some v) : OpQ X ⟨d, .pick c x y, ty, pos, af, gd⟩ E L v := fun a w hk _ => by
  simp [execOp, hk.ev hc, hk.ev hy, asBool]
theorem q_nilCheck {x : Operand} {p : Addr} (hx : Env.ev E x = some (.pointer (some p))) : OpQ X ⟨d, .nilCheck x, ty, pos, af, gd⟩ E L (.pointer (some p)) := fun a w hk _ => by
  simp [execOp, hk.ev hx]
theorem add_addr (b o n : Nat) : (⟨b, o, none⟩ : Addr).add n = ⟨b, o + n, none⟩ := by
  unfold Addr.add
  split
  · subst_vars; rfl
  · rfl
theorem q_field {s : TypeId} {x : Operand} {f off b o : Nat} (hf : fieldOff X.P s f = some off) (hx : Env.ev E x = some (.pointer (some ⟨b, o, none⟩))) :
    OpQ X ⟨d, .fieldAddr s x f, ty, pos, af, gd⟩ E L (.pointer (some ⟨b, o + off, none⟩)) := fun a w hk _ => by
  unfold fieldOff at hf
  cases hu : X.P.underlying s with
  | none => rw [hu] at hf; simp at hf
  | some ds =>
    cases ds <;> rw [hu] at hf <;> simp only [reduceCtorEq] at hf
    rename_i fs
    cases hfd : fs[f]? with
    | none => rw [hfd] at hf; simp at hf
    | some fd =>
      rw [hfd] at hf
      simp only at hf
      cases hi : X.P.info? fd.type with
      | none => rw [hi] at hf; simp at hf
      | some i =>
        rw [hi] at hf
        simp only at hf
        by_cases hz : i.size = 0
        · rw [if_pos hz] at hf; cases hf
        · rw [if_neg hz] at hf
          cases hf
          simp [execOp, hk.ev hx, Instr.fieldAt, underlying, hu, hfd, Instr.sureAddr, fieldPlace, sizeOf, typeInfo, hi, hz, add_addr]
theorem q_index {t e : TypeId} {x ix : Operand} {b o len cap sz bytes : Nat} {k : IntKind} {i : Int} (hs : slElem X.P t = some (e, sz, bytes)) (hx : Env.ev E x = some (.slice (some ⟨b, o, none⟩) len cap))
    (hi : Env.ev E ix = some (.int k i)) (h0 : 0 ≤ i) (h1 : i < len) : OpQ X ⟨d, .indexAddr t x ix, ty, pos, af, gd⟩ E L (.pointer (some ⟨b, o + i.toNat * sz, none⟩)) := fun a w hk _ => by
  unfold slElem at hs
  cases hu : X.P.underlying t with
  | none => rw [hu] at hs; simp at hs
  | some ds =>
    cases ds <;> rw [hu] at hs <;> simp only [reduceCtorEq] at hs
    rename_i e'
    cases hi' : X.P.info? e' with
    | none => rw [hi'] at hs; simp at hs
    | some inf =>
      rw [hi'] at hs
      simp only [Option.some.injEq, Prod.mk.injEq] at hs
      obtain ⟨rfl, rfl, rfl⟩ := hs
      simp [execOp, hk.ev hx, hk.ev hi, Instr.indexAt, asIntOf, underlying, hu, sizeOf, typeInfo, hi', h0, h1, add_addr]
/-! loads -/
theorem run_cellK1 {P : Program} {t : TypeId} {n : Nat} (h : cellK P t = some (false, n)) (w : World) : (isAgg t).run P w = .ok false w := by
  unfold cellK at h
  cases hu : P.underlying t with
  | none => rw [hu] at h; simp at h
  | some ds =>
    cases hi : P.info? t with
    | none => rw [hu, hi] at h; cases ds <;> simp at h
    | some i => rw [hu, hi] at h; cases ds <;> simp at h <;> simp [isAgg, underlying, hu]
theorem run_cellKN {P : Program} {t : TypeId} {n : Nat} (h : cellK P t = some (true, n)) (w : World) : (isAgg t).run P w = .ok true w := by
  unfold cellK at h
  cases hu : P.underlying t with
  | none => rw [hu] at h; simp at h
  | some ds =>
    cases hi : P.info? t with
    | none => rw [hu, hi] at h; cases ds <;> simp at h
    | some i => rw [hu, hi] at h; cases ds <;> simp at h <;> simp [isAgg, underlying, hu]
theorem run_sizeK {P : Program} {t : TypeId} {n : Nat} {c : Bool} (h : cellK P t = some (c, n)) (w : World) : (sizeOf t).run P w = .ok n w := by
  unfold cellK at h
  cases hi : P.info? t with
  | none => rw [hi] at h; cases hu : P.underlying t with | none => rw [hu] at h; simp at h | some ds => rw [hu] at h; cases ds <;> simp at h
  | some i =>
    rw [hi] at h
    have : i.size = n := by
      cases hu : P.underlying t with
      | none => rw [hu] at h; simp at h
      | some ds => rw [hu] at h; cases ds <;> simp at h <;> exact h.2
    simp [sizeOf, typeInfo, hi, this]
theorem q_load1 {t : TypeId} {x : Operand} {p : Addr} {v : Value} (ht : cellK X.P t = some (false, 1)) (hx : Env.ev E x = some (.pointer (some p))) (hc : ∀ w, St X.ρ L w → w.cell? p = some v) :
    OpQ X ⟨d, .load t x, ty, pos, af, gd⟩ E L v := fun a w hk hs => by
  simp [execOp, hk.ev hx, Instr.loadAt, Instr.sureAddr, loadVar, run_cellK1 ht, hc w hs]
theorem run_loadCellsFrom {P : Program} {w : World} {b o : Nat} : ∀ (cs : List Value) (i : Nat) (acc : Array Value), (∀ j v, cs[j]? = some v → w.cell? ⟨b, o + (i + j), none⟩ = some v) →
    (loadCellsFrom ⟨b, o, none⟩ i cs.length acc).run P w = .ok (acc ++ cs.toArray) w
  | [], i, acc, _ => by simp [loadCellsFrom]
  | v :: cs, i, acc, h => by
    have h0 := h 0 v rfl
    have ih := run_loadCellsFrom (P := P) cs (i + 1) (acc.push v) (fun j u hj => by have := h (j + 1) u (by simpa using hj); rwa [show i + 1 + j = i + (j + 1) by omega])
    simp only [List.length_cons, loadCellsFrom, Sem.run_bind, run_load, add_addr]
    rw [Nat.add_zero] at h0
    rw [h0]
    simp only [Result.andThen_ok]
    rw [ih]
    simp
theorem q_loadN {t : TypeId} {x : Operand} {b o n : Nat} {cs : List Value} (ht : cellK X.P t = some (true, n)) (hx : Env.ev E x = some (.pointer (some ⟨b, o, none⟩))) (hn : cs.length = n)
    (hc : ∀ w, St X.ρ L w → ∀ j v, cs[j]? = some v → w.cell? ⟨b, o + j, none⟩ = some v) : OpQ X ⟨d, .load t x, ty, pos, af, gd⟩ E L (.agg cs.toArray) := fun a w hk hs => by
  have := run_loadCellsFrom (P := X.P) (w := w) (b := b) (o := o) cs 0 #[] (fun j v hj => by rw [Nat.zero_add]; exact hc w hs j v hj)
  simp only [execOp, hk.ev hx, Instr.loadAt, Instr.sureAddr, loadVar, Sem.run_bind, Sem.run_pure, Result.andThen_ok, run_cellKN ht, if_true, run_sizeK ht, loadCells]
  rw [← hn, this]
  simp
end
end Go.Proofs.Ytlellgnklohclaa.L
