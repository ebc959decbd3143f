/- Equality of records whose fields are ints, bools and texts. -/
import Derived.Test.YtlellgnklohclaaOps8
import Derived.Laws.StructEq
namespace Go.Proofs.Ytlellgnklohclaa.L
open Go Go.RowKit

/-- Two single cells of one type, and whether they are equal. -/
inductive Sc (P : Program) (t : TypeId) : Value → Value → Bool → Prop where
  | int {k : IntKind} {a b : Int} (h : P.underlying t = some (.int k)) : Sc P t (.int k a) (.int k b) (a == b)
  | bool {a b : Bool} (h : P.underlying t = some .bool) : Sc P t (.bool a) (.bool b) (a == b)
  | str {a b : ByteArray} (h : P.underlying t = some .string) : Sc P t (.string a) (.string b) (a == b)
theorem Sc.run {P : Program} {t : TypeId} {a b : Value} {r : Bool} (h : Sc P t a b r) (d : Nat) (w : World) : (Op.equalIn (d + 1) t a b).run P w = .ok r w := by
  cases h with
  | int h => exact eq_int d h
  | bool h => exact eq_bool d h
  | str h => exact eq_str d h
inductive EqF (P : Program) (xs ys : List Value) : List Field → Bool → Prop where
  | nil : EqF P xs ys [] true
  | cons {f : Field} {fs : List Field} {a b : Value} {r s : Bool} (hn : (f.name == "_") = false) (hk : cellK P f.type = some (false, 1)) (ha : xs[f.offset]? = some a) (hb : ys[f.offset]? = some b) (hs : Sc P f.type a b r) (ht : EqF P xs ys fs s) : EqF P xs ys (f :: fs) (r && s)
theorem run_part1 {P : Program} {w : World} {t : TypeId} {cs : List Value} {o : Nat} {v : Value} (hk : cellK P t = some (false, 1)) (hv : cs[o]? = some v) : (part t cs.toArray o).run P w = .ok v w := by
  have hv' : cs.toArray[o]? = some v := by simpa using hv
  simp [part, run_cellK1 hk, hv']
theorem EqF.run {P : Program} {xs ys : List Value} {fs : List Field} {r : Bool} (h : EqF P xs ys fs r) (d : Nat) (w : World) : (Op.eqFields (d + 1) xs.toArray ys.toArray fs).run P w = .ok r w := by
  induction h with
  | nil => simp [Op.eqFields]
  | cons hn hk ha hb hs ht ih =>
    rename_i f fs a b r s
    have hn' : f.name ≠ "_" := by simpa using hn
    rw [Op.eqFields]
    simp only [if_pos hn', Sem.run_bind, run_part1 hk ha, run_part1 hk hb, hs.run d w, Result.andThen_ok]
    cases r
    · simp
    · simpa using ih
section
variable {X : Fx} {E : Env} {L : List HP} {d : Option Tmp} {t u ty : TypeId} {x y : Operand} {pos : String} {af : Array Edge} {gd : Option (Nat × Bool)}
theorem run_rec {P : Program} {w : World} {xs ys : List Value} {fs : Array Field} {r : Bool} (ht : P.underlying t = some (.struct fs)) (hp : P.stoodInHeld t = false) (h : EqF P xs ys fs.toList r) : (Op.equalIn 10000 t (.agg xs.toArray) (.agg ys.toArray)).run P w = .ok r w := by
  have hf : P.fieldsOf t = fs := by simp [Program.fieldsOf, ht]
  rw [run_equalIn_struct (P := P) w 9999 t xs.toArray ys.toArray (by rw [hf]; exact ht) hp, hf]
  exact h.run 9998 w
theorem q_recE {xs ys : List Value} {fs : Array Field} {r : Bool} (ht : X.P.underlying t = some (.struct fs)) (hp : X.P.stoodInHeld t = false) (hg : X.P.eqGuardType X.P.depth t = false) (hx : Env.ev E x = some (.agg xs.toArray)) (hy : Env.ev E y = some (.agg ys.toArray))
    (h : EqF X.P xs ys fs.toList r) : OpQ X ⟨d, .binOp .eql t x y u, ty, pos, af, gd⟩ E L (.bool r) := fun _ w hk _ => by
  simp only [execOp, hk.ev hx, hk.ev hy, Sem.run_bind, run_eqGuard_agg (P := X.P) w .eql t x y xs.toArray ys.toArray hg, Result.andThen_ok]
  simp [run_eql_struct (P := X.P) w t xs.toArray ys.toArray, run_rec (w := w) ht hp h]
theorem q_recN {xs ys : List Value} {fs : Array Field} {r : Bool} (ht : X.P.underlying t = some (.struct fs)) (hp : X.P.stoodInHeld t = false) (hg : X.P.eqGuardType X.P.depth t = false) (hx : Env.ev E x = some (.agg xs.toArray)) (hy : Env.ev E y = some (.agg ys.toArray))
    (h : EqF X.P xs ys fs.toList r) : OpQ X ⟨d, .binOp .neq t x y u, ty, pos, af, gd⟩ E L (.bool (!r)) := fun _ w hk _ => by
  simp only [execOp, hk.ev hx, hk.ev hy, Sem.run_bind, run_eqGuard_agg (P := X.P) w .neq t x y xs.toArray ys.toArray hg, Result.andThen_ok]
  simp [run_neq_struct (P := X.P) w t xs.toArray ys.toArray, run_rec (w := w) ht hp h]
end
end Go.Proofs.Ytlellgnklohclaa.L
