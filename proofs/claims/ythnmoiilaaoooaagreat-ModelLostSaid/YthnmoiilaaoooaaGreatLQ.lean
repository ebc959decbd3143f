/- A literal of records is a row. No program in sight. -/
import Derived.Test.YthnmoiilaaoooaaGreatLC
namespace Go.Proofs.YthnmoiilaaoooaaGreat.L
open Go Go.RowKit
set_option linter.unusedSimpArgs false
set_option linter.unusedVariables false

theorem SetN.mid : ∀ (pre zs cs tl : List Value), zs.length = cs.length → SetN (pre ++ zs ++ tl) pre.length cs (pre ++ cs ++ tl)
  | pre, [], [], tl, _ => .nil
  | pre, z :: zs, c :: cs, tl, h => by
    have key : ∀ (pre : List Value), SetAt (pre ++ z :: zs ++ tl) pre.length c (pre ++ c :: zs ++ tl) := fun pre => by
      induction pre with
      | nil => exact .here
      | cons a pre ih => exact .there ih
    have := SetN.mid (pre ++ [c]) zs cs tl (by simpa using h)
    rw [List.length_append, List.length_singleton] at this
    refine .cons (key pre) ?_
    simpa [List.append_assoc] using this
  | _, [], _ :: _, _, h => by cases h
  | _, _ :: _, [], _, h => by cases h
theorem fill_rows {α : Type} {sz : Nat} {enc : α → List Value} (hl : ∀ x, (enc x).length = sz) (h0 : 0 < sz) : ∀ (xs : List α) (k : Nat) (pre zeros : List Value), pre.length = k * sz → zeros.length = xs.length * sz →
    Fill (fun i => some (i * sz, sz)) (pre ++ zeros) ((xs.zipIdx k).map (fun p => (p.2, Value.agg (enc p.1).toArray))) (pre ++ xs.flatMap enc)
  | [], k, pre, zeros, _, h => by
    have : zeros = [] := List.length_eq_zero_iff.1 (by rw [h]; simp)
    subst this
    exact .nil
  | x :: xs, k, pre, zeros, hp, hz => by
    rw [List.length_cons, Nat.succ_mul] at hz
    have h1 := hl x
    cases hx : enc x with
    | nil => rw [hx] at h1; simp at h1; omega
    | cons u us =>
      have ht : zeros = zeros.take sz ++ zeros.drop sz := (List.take_append_drop sz zeros).symm
      have hset := SetN.mid pre (zeros.take sz) (u :: us) (zeros.drop sz) (by rw [← hx, h1, List.length_take]; omega)
      rw [List.append_assoc, ← ht, hp] at hset
      have hrec := fill_rows hl h0 xs (k + 1) (pre ++ enc x) (zeros.drop sz) (by rw [List.length_append, hp, h1, Nat.succ_mul]) (by rw [List.length_drop]; omega)
      rw [List.zipIdx_cons, List.map_cons]
      refine .cons (off := k * sz) (size := sz) (u := u) (us := us) rfl (by rw [hx]; rfl) (by rw [hx] at h1; simpa using h1) hset ?_
      rw [hx] at hrec
      rw [List.flatMap_cons, hx, ← List.append_assoc]
      exact hrec
section
variable {X : Fx} {E : Env} {L : List HP} {d : Option Tmp} {ty : TypeId} {pos : String} {af : Array Edge} {gd : Option (Nat × Bool)} {t : TypeId}
/-- A literal of records: all their cells. -/
theorem l_sliceR {α : Type} {n e sz : Nat} {enc : α → List Value} {parts : List (Nat × Operand)} {zeros : List Value} (xs : List α) (hl : ∀ x, (enc x).length = sz) (h0 : 0 < sz) (ht : slZeros X.P t n = some (e, sz, zeros)) (hz : zeros.length = xs.length * sz)
    (hp : Env.parts E parts = some ((xs.zipIdx).map (fun p => (p.2, Value.agg (enc p.1).toArray)))) :
    OpL X ⟨d, .buildSlice t n parts.toArray, ty, pos, af, gd⟩ E L (fun v' L' => ∃ b, v' = .slice (some ⟨b, 0, none⟩) n n ∧ L' = pv b e (xs.flatMap enc) :: L) :=
  l_slice ht hp (by simpa using fill_rows hl h0 xs 0 [] zeros (by simp) hz)
end
end Go.Proofs.YthnmoiilaaoooaaGreat.L
