/- Results that lie in cells; several ready operations. -/
import Derived.Test.YtlellgnklohclaaOps7
namespace Go.Proofs.Ytlellgnklohclaa.L
open Go Go.RowKit

theorem run_loadVarN {P : Program} {w : World} {t : TypeId} {b n : Nat} {cs : List Value} (ht : cellK P t = some (true, n)) (hn : cs.length = n) (hc : ∀ j v, cs[j]? = some v → w.cell? ⟨b, 0 + j, none⟩ = some v) : (loadVar t ⟨b, 0, none⟩).run P w = .ok (.agg cs.toArray) w := by
  have := run_loadCellsFrom (P := P) (w := w) (b := b) (o := 0) cs 0 #[] (fun j v hj => by have := hc j v hj; rwa [show 0 + (0 + j) = 0 + j by omega])
  simp only [loadVar, Sem.run_bind, Sem.run_pure, Result.andThen_ok, run_cellKN ht, if_true, run_sizeK ht, loadCells]
  rw [← hn, this]
  simp
theorem resC {P : Program} {fn : Func} {N : Nat} {E : Env} {a : Act} {w : World} {t b n : Nat} {e : TypeId} {cs : List Value} (h : fn.results = #[.cell t e]) (hk : Know N E a) (h1 : Env.get E t = some (.pointer (some ⟨b, 0, none⟩)))
    (ht : cellK P e = some (true, n)) (hn : cs.length = n) (hc : ∀ j v, cs[j]? = some v → w.cell? ⟨b, 0 + j, none⟩ = some v) : (results fn a.tmps).run P w = .ok (.agg cs.toArray) w := by
  have e1 := hk.slot _ _ h1
  simp [results, h, e1, asAddr, run_loadVarN ht hn hc]
theorem resCT {P : Program} {fn : Func} {N : Nat} {E : Env} {a : Act} {w : World} {t u b n : Nat} {e : TypeId} {cs : List Value} {x : Value} (h : fn.results = #[.cell t e, .tmp u]) (hk : Know N E a) (h1 : Env.get E t = some (.pointer (some ⟨b, 0, none⟩)))
    (ht : cellK P e = some (true, n)) (hn : cs.length = n) (hc : ∀ j v, cs[j]? = some v → w.cell? ⟨b, 0 + j, none⟩ = some v) (h2 : Env.get E u = some x) : (results fn a.tmps).run P w = .ok (.tuple #[.agg cs.toArray, x]) w := by
  have e1 := hk.slot _ _ h1
  have e2 := hk.slot _ _ h2
  simp [results, h, e1, e2, asAddr, run_loadVarN ht hn hc]
/-- What follows a piece of code is walked once, for all ways through it. -/
theorem K.via {X : Fx} {it : Item} {k : List Item} {E : Env} {L : List HP} {ι : Type} (I : ι → Env × List HP) (h : ∀ i, K X k (I i).1 (I i).2) (h' : (∀ i, K X k (I i).1 (I i).2) → K X (it :: k) E L) : K X (it :: k) E L := h' h
/-! ### Rows of records -/
theorem flat_at {α : Type} {n : Nat} {enc : α → List Value} (hl : ∀ x, (enc x).length = n) : ∀ (xs : List α) (i j : Nat) (x : α) (v : Value), xs[i]? = some x → (enc x)[j]? = some v → (xs.flatMap enc)[i * n + j]? = some v
  | [], _, _, _, _, h, _ => by simp at h
  | y :: ys, 0, j, x, v, h, hv => by
    obtain rfl : y = x := by simpa using h
    have hj : j < (enc y).length := (List.getElem?_eq_some_iff.1 hv).1
    rw [List.flatMap_cons, Nat.zero_mul, Nat.zero_add, List.getElem?_append_left hj, hv]
  | y :: ys, i + 1, j, x, v, h, hv => by
    have h' : ys[i]? = some x := by simpa using h
    have ih := flat_at hl ys i j x v h' hv
    have e : (i + 1) * n + j = (enc y).length + (i * n + j) := by rw [hl, Nat.add_mul]; omega
    rw [List.flatMap_cons, e, List.getElem?_append_right (by omega), Nat.add_sub_cancel_left]
    exact ih
theorem pv_flat {α : Type} {n : Nat} {enc : α → List Value} {hl : ∀ x, (enc x).length = n} {h1 : ∀ x, ∀ v ∈ enc x, v.oneCell' = true} {ρ : World} {L : List HP} {w : World} {b e : Nat} {cs : List Value} (xs : List α) (hc : cs = xs.flatMap enc)
    (h : St ρ (pv b e cs :: L) w) : St ρ (RowF (Kd.flat n enc hl h1) (some ⟨b, 0, none⟩) xs :: L) w :=
  pv_rowFg xs (fun g i x hx => ⟨enc x, rfl, fun j v hv => by
    subst hc
    have := flat_at hl xs i j x v hx hv
    have e : 0 + i * (Kd.flat n enc hl h1).sz + j = i * n + j := by show 0 + i * n + j = _; omega
    rw [e]; simpa using this⟩) h
theorem rowF_cells {α : Type} {n : Nat} {enc : α → List Value} {hl : ∀ x, (enc x).length = n} {h1 : ∀ x, ∀ v ∈ enc x, v.oneCell' = true} {ρ : World} {L : List HP} {b o : Nat} {xs : List α} {i : Nat} {x : α}
    (m : RowF (Kd.flat n enc hl h1) (some ⟨b, o, none⟩) xs ∈ L) (hx : xs[i]? = some x) : ∀ w, St ρ L w → ∀ j v, (enc x)[j]? = some v → w.cell? ⟨b, o + i * n + j, none⟩ = some v := fun w hs j v hv => rowF_cell m hx hv w hs
end Go.Proofs.Ytlellgnklohclaa.L
