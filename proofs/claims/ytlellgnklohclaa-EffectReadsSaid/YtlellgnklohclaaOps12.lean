/- Equality of records, told from the other side. -/
import Derived.Test.YtlellgnklohclaaOps11
namespace Go.Proofs.Ytlellgnklohclaa.L
open Go Go.RowKit

theorem q_recEGs {X : Fx} {E : Env} {L : List HP} {d : Option Tmp} {t u ty : TypeId} {x y : Operand} {pos : String} {af : Array Edge} {gd : Option (Nat × Bool)} {α : Type} [DecidableEq α] {a b : α} {xs ys : List Value} {fs : Array Field} (ht : X.P.underlying t = some (.struct fs)) (hp : X.P.stoodInHeld t = false) (hg : X.P.eqGuardType X.P.depth t = false)
    (hx : Env.ev E x = some (.agg xs.toArray)) (hy : Env.ev E y = some (.agg ys.toArray)) (h : EqG X.P xs ys fs.toList (decide (a = b))) : OpQ X ⟨d, .binOp .eql t x y u, ty, pos, af, gd⟩ E L (.bool (decide (b = a))) := by
  rw [show decide (b = a) = decide (a = b) from decide_eq_decide.2 eq_comm]
  exact q_recEG ht hp hg hx hy h
/-- A loop: the frames and the lists of a family, apart. -/
theorem K.rounds2 {X : Fx} {k : List Item} {E : Env} {L : List HP} {c : Code} {ι : Type} (I : ι → Env) (J : ι → List HP) (μ : ι → Nat) (i : ι) (hE : Env.sub E (I i)) (hL : ∀ w, St X.ρ L w → St X.ρ (J i) w)
    (round : ∀ i, (∀ j, μ j < μ i → K X (.inLoop c :: k) (I j) (J j)) → K X (.code c :: .inLoop c :: k) (I i) (J i)) : K X (.code (.loop c) :: k) E L :=
  K.rounds (fun i => (I i, J i)) μ i hE hL round
end Go.Proofs.Ytlellgnklohclaa.L
