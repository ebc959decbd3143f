/- A record inside a record: its cells in the block. -/
import Derived.Test.YtlellgnklohclaaOps9
namespace Go.Proofs.Ytlellgnklohclaa.L
open Go Go.RowKit

theorem cells_pvAt {ρ : World} {L : List HP} {b o : Nat} {e : TypeId} {cs vs rest : List Value} (m : pv b e cs ∈ L) (hd : cs.drop o = vs ++ rest) : ∀ w, St ρ L w → ∀ j v, vs[j]? = some v → w.cell? ⟨b, o + j, none⟩ = some v := fun w hs j v hv => by
  refine cell_pv m ?_ w hs
  have hj : j < vs.length := (List.getElem?_eq_some_iff.1 hv).1
  have h1 : (cs.drop o)[j]? = some v := by rw [hd, List.getElem?_append_left hj, hv]
  rwa [List.getElem?_drop] at h1
/-! ### A guard on an operation that was itself skipped -/
def goneOp (N : Nat) (ops : Array Oper) (E : Env) (o : Oper) : Bool :=
  dstOk N o.dst && match o.guard with
    | none => false
    | some (j, _) => match ((ops[j]?).bind (·.dst)).bind (Env.get E) with
      | some (.bool _) => false
      | some _ => true
      | none => false
theorem goneOp_dst {N : Nat} {ops : Array Oper} {E : Env} {o : Oper} (h : goneOp N ops E o = true) : dstOk N o.dst = true := by
  unfold goneOp at h
  rw [Bool.and_eq_true] at h
  exact h.1
theorem goneOp_wanted {N : Nat} {ops : Array Oper} {E : Env} {o : Oper} {a : Act} (hk : Know N E a) (h : goneOp N ops E o = true) : Region.wanted o (yielded ops a.tmps) = false := by
  unfold goneOp at h
  rw [Bool.and_eq_true] at h
  obtain ⟨_, h⟩ := h
  unfold Region.wanted
  cases hg : o.guard with
  | none => rw [hg] at h; cases h
  | some p =>
    obtain ⟨j, g⟩ := p
    rw [hg] at h
    simp only at h ⊢
    cases hd : (ops[j]?).bind (·.dst) with
    | none => rw [hd] at h; cases h
    | some t =>
      rw [hd] at h
      simp only [Option.bind_some] at h
      cases he : Env.get E t with
      | none => rw [he] at h; cases h
      | some v =>
        rw [he] at h
        have hs := hk.slot _ _ he
        unfold yielded
        rw [hd]
        simp only [Option.bind_some, hs]
        cases v <;> simp_all
section
variable {X : Fx} {E : Env} {L : List HP} {ops : Array Oper} {l : List Oper} {k : List Item} {d : Tmp} {op : Op} {ty : TypeId} {pos : String} {af : Array Edge} {gd : Option (Nat × Bool)}
theorem KO.gone (hok : goneOp X.N ops E ⟨some d, op, ty, pos, af, gd⟩ = true) (h : KO X ops l k ((d, undef) :: E) L) : KO X ops (⟨some d, op, ty, pos, af, gd⟩ :: l) k E L := fun a w hk hs => by
  simp only [wpL, goneOp_wanted hk hok, Bool.false_eq_true, if_false]
  exact h _ _ (hk.put (goneOp_dst hok) undef) hs
end
end Go.Proofs.Ytlellgnklohclaa.L
