/- Rows whose elements are turned to others of the same cells. No program in sight. -/
import Derived.Test.YthnmoiilaaoooaaGreatLD
namespace Go.Proofs.YthnmoiilaaoooaaGreat.L
open Go Go.RowKit
set_option linter.unusedSimpArgs false
set_option linter.unusedVariables false

theorem rowO_re {α : Type} {k : Kd α} {e : TypeId} {p : Option Addr} {cap : Nat} {xs : List α} {f : α → α} {ρ : World} {L : List HP} {w : World} (hf : ∀ g x cs, k.rd g x cs → k.rd g (f x) cs) (h : St ρ (RowO k e p cap xs :: L) w) : St ρ (RowO k e p cap (xs.map f) :: L) w := by
  refine h.turn (fun g hh ha => ?_)
  rcases (ha : _ ∨ _) with ⟨h1, h2, h3⟩ | ⟨b, o, c, hp, hl, hb, hs, hr⟩
  · exact .inl ⟨h1, h2, by rw [h3]; rfl⟩
  · refine .inr ⟨b, o, c, hp, by rw [List.length_map]; exact hl, hb, hs, fun i x hx => ?_⟩
    rw [List.getElem?_map] at hx
    cases hxi : xs[i]? with
    | none => rw [hxi] at hx; cases hx
    | some y =>
      rw [hxi] at hx
      cases hx
      obtain ⟨cs, h4, h5⟩ := hr i y hxi
      exact ⟨cs, hf _ _ _ h4, h5⟩
/-- One record in a block of one's own, as a row. -/
theorem pv_ownR {α : Type} {n : Nat} {enc : α → List Value} {hl : ∀ x, (enc x).length = n} {h1 : ∀ x, ∀ v ∈ enc x, v.oneCell' = true} {b e : Nat} {cs : List Value} (x : α) {ρ : World} {L : List HP} {w : World} (hc : cs = enc x) (h : St ρ (pv b e cs :: L) w) : St ρ (RowO (Kd.flat n enc hl h1) e (some ⟨b, 0, none⟩) 1 [x] :: L) w :=
  h.turn fun g q ha => .inr ⟨b, 0, cs.toArray, rfl, Nat.le_refl _, ha, by show 0 + 1 * n ≤ cs.toArray.size; rw [List.size_toArray, hc, hl]; omega, fun i y hy => by
    cases i with
    | zero =>
      obtain rfl : x = y := by simpa using hy
      refine ⟨enc x, rfl, fun j v hv => ?_⟩
      have e2 : 0 + 0 * (Kd.flat n enc hl h1).sz + j = j := by omega
      rw [e2, hc]
      simpa using hv
    | succ i => simp at hy⟩
end Go.Proofs.YthnmoiilaaoooaaGreat.L
