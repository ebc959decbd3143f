/- The operations on memory: blocks, stores, rows that are frozen or owned, append. -/
import Derived.Test.YtlellgnklohclaaOps2
namespace Go.Proofs.Ytlellgnklohclaa.L
open Go Go.RowKit

/-! ### Blocks of cells -/
def pv (b : Nat) (e : TypeId) (cs : List Value) : HP := pt b (.cells cs.toArray e (0, 0))
def fv (b : Nat) (e : TypeId) (cs : List Value) : HP := fz b (.cells cs.toArray e (0, 0))
theorem cell_of_heap {w : World} {b o : Nat} {c : Array Value} {e : TypeId} {fr : Nat × Nat} {v : Value} (h : w.heap[b]? = some (.cells c e fr)) (hv : c[o]? = some v) : w.cell? ⟨b, o, none⟩ = some v := by
  simp [World.cell?, h, hv]
theorem cell_pv {ρ : World} {L : List HP} {b o : Nat} {e : TypeId} {cs : List Value} {v : Value} (m : pv b e cs ∈ L) (hv : cs[o]? = some v) : ∀ w, St ρ L w → w.cell? ⟨b, o, none⟩ = some v := fun w hs =>
  cell_of_heap (hs.pt_heap m) (by simpa using hv)
theorem cell_fv {ρ : World} {L : List HP} {b o : Nat} {e : TypeId} {cs : List Value} {v : Value} (m : fv b e cs ∈ L) (hv : cs[o]? = some v) : ∀ w, St ρ L w → w.cell? ⟨b, o, none⟩ = some v := fun w hs =>
  cell_of_heap (hs.fz_heap m) (by simpa using hv)
theorem cells_pv {ρ : World} {L : List HP} {b : Nat} {e : TypeId} {cs : List Value} (m : pv b e cs ∈ L) : ∀ w, St ρ L w → ∀ j v, cs[j]? = some v → w.cell? ⟨b, 0 + j, none⟩ = some v := fun w hs j v hv => by
  rw [Nat.zero_add]; exact cell_pv m hv w hs
theorem cells_fv {ρ : World} {L : List HP} {b : Nat} {e : TypeId} {cs : List Value} (m : fv b e cs ∈ L) : ∀ w, St ρ L w → ∀ j v, cs[j]? = some v → w.cell? ⟨b, 0 + j, none⟩ = some v := fun w hs j v hv => by
  rw [Nat.zero_add]; exact cell_fv m hv w hs
theorem St.fzv {ρ : World} {b : Nat} {e : TypeId} {cs : List Value} {L : List HP} {w : World} (h : St ρ (pv b e cs :: L) w) : St ρ (fv b e cs :: L) w := h.freeze_pt

/-- The world with block b turned. -/
def putBlk (w : World) (b : Nat) (o : Obj) : World := { w with heap := w.heap.setIfInBounds b o }
theorem St.put {ρ : World} {L : List HP} {w : World} {b : Nat} {o : Obj} (h : St ρ (pt b o :: L) w) (o' : Obj) : St ρ (pt b o' :: L) (putBlk w b o') := by
  have hb := h.pt_heap (List.Mem.head _)
  have hlt : b < w.heap.size := (Array.getElem?_eq_some_iff.1 hb).1
  exact h.write rfl rfl rfl (by simp [putBlk, hlt]) (fun x hx => by simp [putBlk, Array.getElem?_setIfInBounds_ne (Ne.symm hx)])
theorem setCell_putBlk {w : World} {b o : Nat} {c : Array Value} {e : TypeId} {fr : Nat × Nat} (h : w.heap[b]? = some (.cells c e fr)) (v : Value) : w.setCell ⟨b, o, none⟩ v = putBlk w b (.cells (c.setIfInBounds o v) e fr) := by
  obtain ⟨hlt, hb⟩ := Array.getElem?_eq_some_iff.1 h
  unfold World.setCell putBlk
  congr 1
  apply Array.ext
  · simp
  · intro i h1 h2
    have h1' : i < w.heap.size := by simpa using h1
    rw [Array.getElem_setIfInBounds h1']
    simp only [Array.getElem_modify]
    by_cases hi : b = i
    · subst hi; simp [hb]
    · simp [hi]
theorem putBlk_putBlk (w : World) (b : Nat) (o o' : Obj) : putBlk (putBlk w b o) b o' = putBlk w b o' := by
  unfold putBlk; simp
theorem putBlk_self {w : World} {b : Nat} {o : Obj} (h : w.heap[b]? = some o) : putBlk w b o = w := by
  obtain ⟨hlt, hb⟩ := Array.getElem?_eq_some_iff.1 h
  unfold putBlk
  have : w.heap.setIfInBounds b o = w.heap := by
    apply Array.ext
    · simp
    · intro i h1 h2
      rw [Array.getElem_setIfInBounds (by simpa using h1)]
      split
      · subst_vars; rfl
      · rfl
  rw [this]
theorem heap_putBlk {w : World} {b : Nat} {o : Obj} (o' : Obj) (h : w.heap[b]? = some o) : (putBlk w b o').heap[b]? = some o' := by
  have hlt : b < w.heap.size := (Array.getElem?_eq_some_iff.1 h).1
  simp [putBlk, hlt]

/-- A row with vs written over it from 'at' on. -/
def spl (c : Array Value) (at_ : Nat) : List Value → Array Value
  | [] => c
  | v :: vs => spl (c.setIfInBounds at_ v) (at_ + 1) vs
theorem spl_size : ∀ (vs : List Value) (c : Array Value) (n : Nat), (spl c n vs).size = c.size
  | [], _, _ => rfl
  | v :: vs, c, n => by rw [spl, spl_size vs]; simp
theorem spl_get : ∀ (vs : List Value) (c : Array Value) (n j : Nat), n + vs.length ≤ c.size → (spl c n vs)[j]? = if n ≤ j ∧ j < n + vs.length then vs[j - n]? else c[j]?
  | [], c, n, j, _ => by rw [spl, if_neg (by simp only [List.length_nil]; omega)]
  | v :: vs, c, n, j, h => by
    simp only [List.length_cons] at h
    rw [spl, spl_get vs _ _ _ (by simp; omega)]
    have hn : n < c.size := by omega
    by_cases h1 : n + 1 ≤ j ∧ j < n + 1 + vs.length
    · rw [if_pos h1, if_pos (by simp only [List.length_cons]; omega)]
      rw [show j - n = (j - (n + 1)) + 1 by omega, List.getElem?_cons_succ]
    · rw [if_neg h1]
      by_cases h2 : j = n
      · subst h2; rw [if_pos (by simp)]; simp [hn]
      · rw [if_neg (by simp only [List.length_cons]; omega), Array.getElem?_setIfInBounds_ne (Ne.symm h2)]
theorem run_store_in {P : Program} {w : World} {b o : Nat} {c : Array Value} {e : TypeId} (h : w.heap[b]? = some (.cells c e (0, 0))) {v : Value} (hv : v.oneCell' = true) (ho : o < c.size) :
    (store ⟨b, o, none⟩ v).run P w = .ok () (putBlk w b (.cells (c.setIfInBounds o v) e (0, 0))) := by
  rw [run_store P w _ v _ hv]
  have h1 : w.cell? ⟨b, o, none⟩ = some c[o] := cell_of_heap h (by simp [ho])
  have h2 : w.frozen? ⟨b, o, none⟩ = false := by simp [World.frozen?, h]
  rw [h1]
  simp only [h2, Bool.false_eq_true, if_false]
  rw [setCell_putBlk h]
theorem run_storeCells {P : Program} {b o : Nat} {e : TypeId} : ∀ (vs : List Value) (i : Nat) (w : World) (c : Array Value), w.heap[b]? = some (.cells c e (0, 0)) → (∀ v ∈ vs, v.oneCell' = true) → o + i + vs.length ≤ c.size →
    (storeCells ⟨b, o, none⟩ vs i).run P w = .ok () (putBlk w b (.cells (spl c (o + i) vs) e (0, 0)))
  | [], i, w, c, h, _, _ => by simp [storeCells, spl, putBlk_self h]
  | v :: vs, i, w, c, h, hv, hl => by
    simp only [List.length_cons] at hl
    have h1 := run_store_in (P := P) h (hv v List.mem_cons_self) (o := o + i) (by omega)
    simp only [storeCells, Sem.run_bind, add_addr, h1, Result.andThen_ok]
    rw [run_storeCells vs (i + 1) _ (c.setIfInBounds (o + i) v) (heap_putBlk _ h) (fun u hu => hv u (List.mem_cons_of_mem _ hu)) (by simp; omega), putBlk_putBlk]
    rw [spl, show o + i + 1 = o + (i + 1) by omega]

/-! ### Kinds: what the cells of one element say -/
structure Kd (α : Type) where
  sz : Nat
  rd : Hp → α → List Value → Prop
  mono : ∀ {g g' x cs}, Hp.le g g' → rd g x cs → rd g' x cs
  len : ∀ {g x cs}, rd g x cs → cs.length = sz
  one : ∀ {g x cs}, rd g x cs → ∀ v ∈ cs, v.oneCell' = true
/-- A kind whose cells hang on no memory. -/
def Kd.flat {α : Type} (sz : Nat) (enc : α → List Value) (hl : ∀ x, (enc x).length = sz) (h1 : ∀ x, ∀ v ∈ enc x, v.oneCell' = true) : Kd α where
  sz := sz
  rd := fun _ x cs => cs = enc x
  mono := fun _ h => h
  len := fun h => h ▸ hl _
  one := fun h => h ▸ h1 _
def Kd.int (k : IntKind) : Kd Int := Kd.flat 1 (fun n => [.int k n]) (fun _ => rfl) (fun _ v h => by simp at h; subst h; rfl)
def Kd.str : Kd ByteArray := Kd.flat 1 (fun s => [.string s]) (fun _ => rfl) (fun _ v h => by simp at h; subst h; rfl)
def Kd.boolK : Kd Bool := Kd.flat 1 (fun b => [.bool b]) (fun _ => rfl) (fun _ v h => by simp at h; subst h; rfl)

/-- The cells from o on hold xs. -/
def rowAt {α : Type} (k : Kd α) (g : Hp) (c : Array Value) (o : Nat) (xs : List α) : Prop :=
  ∀ i x, xs[i]? = some x → ∃ cs, k.rd g x cs ∧ ∀ j v, cs[j]? = some v → c[o + i * k.sz + j]? = some v
theorem rowAt.mono {α : Type} {k : Kd α} {g g' : Hp} {c : Array Value} {o : Nat} {xs : List α} (hg : Hp.le g g') (h : rowAt k g c o xs) : rowAt k g' c o xs := fun i x hx =>
  let ⟨cs, hr, hc⟩ := h i x hx; ⟨cs, k.mono hg hr, hc⟩
/-- Frozen: the slice at p reads as xs. -/
def RowF {α : Type} (k : Kd α) (p : Option Addr) (xs : List α) : HP :=
  HP.per (fun g => xs = [] ∨ ∃ b o c e fr, p = some ⟨b, o, none⟩ ∧ g b = some (.cells c e fr) ∧ rowAt k g c o xs)
    (fun hg h => h.imp id fun ⟨b, o, c, e, fr, hp, hb, hr⟩ => ⟨b, o, c, e, fr, hp, hg _ _ hb, hr.mono hg⟩)
/-- Owned: the slice at p, of capacity cap, holds xs, and nobody else has its array. -/
def RowO {α : Type} (k : Kd α) (e : TypeId) (p : Option Addr) (cap : Nat) (xs : List α) : HP :=
  HP.own (fun g h => (p = none ∧ cap = 0 ∧ xs = []) ∨ ∃ b o c, p = some ⟨b, o, none⟩ ∧ xs.length ≤ cap ∧ h b = some (.cells c e (0, 0)) ∧ c.size = o + cap * k.sz ∧ rowAt k g c o xs)
    (fun hg h => h.imp id fun ⟨b, o, c, hp, hl, hb, hs, hr⟩ => ⟨b, o, c, hp, hl, hb, hs, hr.mono hg⟩)
section
variable {α : Type} {k : Kd α} {ρ : World} {L : List HP} {w : World}
theorem rowF_addr {p : Option Addr} {xs : List α} (m : RowF k p xs ∈ L) (hne : xs ≠ []) : ∀ w, St ρ L w → ∃ b o, p = some ⟨b, o, none⟩ := fun _ hs =>
  hs.fact m (fun _ _ h => by
    rcases (h : _ ∨ _) with h | ⟨b, o, _, _, _, hp, _⟩
    · exact absurd h hne
    · exact ⟨b, o, hp⟩)
theorem rowO_addr {e : TypeId} {p : Option Addr} {cap : Nat} {xs : List α} (m : RowO k e p cap xs ∈ L) (hne : xs ≠ []) : ∀ w, St ρ L w → ∃ b o, p = some ⟨b, o, none⟩ := fun _ hs =>
  hs.fact m (fun _ _ h => by
    rcases (h : _ ∨ _) with ⟨_, _, h⟩ | ⟨b, o, _, hp, _⟩
    · exact absurd h hne
    · exact ⟨b, o, hp⟩)
theorem rowO_cap {e : TypeId} {p : Option Addr} {cap : Nat} {xs : List α} (m : RowO k e p cap xs ∈ L) : ∀ w, St ρ L w → xs.length ≤ cap := fun _ hs =>
  hs.fact m (fun _ _ h => by
    rcases (h : _ ∨ _) with ⟨_, _, h⟩ | ⟨b, o, _, hp, hl, _⟩
    · subst h; exact Nat.zero_le _
    · exact hl)
/-- The cells of element i of a frozen row: with what they say under the frozen heap. -/
theorem rowF_elem {b o : Nat} {xs : List α} {i : Nat} {x : α} (m : RowF k (some ⟨b, o, none⟩) xs ∈ L) (hx : xs[i]? = some x) (hs : St ρ L w) :
    ∃ g cs, Hp.le g (heapOf w) ∧ k.rd g x cs ∧ ∀ j v, cs[j]? = some v → w.cell? ⟨b, o + i * k.sz + j, none⟩ = some v := by
  obtain ⟨g, h, _, lg, _, d⟩ := hs.body
  obtain ⟨_, _, ha⟩ := sepAll_mem m d
  rcases (ha : _ ∨ _) with ha | ⟨b', o', c, e, fr, hp, hb, hr⟩
  · subst ha; simp at hx
  · cases hp
    obtain ⟨cs, hrd, hc⟩ := hr i x hx
    exact ⟨g, cs, lg, hrd, fun j v hv => cell_of_heap (lg _ _ hb) (hc j v hv)⟩
theorem rowO_elem {e : TypeId} {b o cap : Nat} {xs : List α} {i : Nat} {x : α} (m : RowO k e (some ⟨b, o, none⟩) cap xs ∈ L) (hx : xs[i]? = some x) (hs : St ρ L w) :
    ∃ g cs, Hp.le g (heapOf w) ∧ k.rd g x cs ∧ ∀ j v, cs[j]? = some v → w.cell? ⟨b, o + i * k.sz + j, none⟩ = some v := by
  obtain ⟨g, h, _, lg, lh, d⟩ := hs.body
  obtain ⟨h1, l1, ha⟩ := sepAll_mem m d
  rcases (ha : _ ∨ _) with ⟨hp, _⟩ | ⟨b', o', c, hp, _, hb, _, hr⟩
  · cases hp
  · cases hp
    obtain ⟨cs, hrd, hc⟩ := hr i x hx
    exact ⟨g, cs, lg, hrd, fun j v hv => cell_of_heap (lh _ _ (l1 _ _ hb)) (hc j v hv)⟩
end
/-- Of flat kinds: cell j of element i. -/
theorem rowF_cell {α : Type} {n : Nat} {enc : α → List Value} {hl : ∀ x, (enc x).length = n} {h1 : ∀ x, ∀ v ∈ enc x, v.oneCell' = true} {ρ : World} {L : List HP} {b o : Nat} {xs : List α} {i j : Nat} {x : α} {v : Value}
    (m : RowF (Kd.flat n enc hl h1) (some ⟨b, o, none⟩) xs ∈ L) (hx : xs[i]? = some x) (hv : (enc x)[j]? = some v) : ∀ w, St ρ L w → w.cell? ⟨b, o + i * n + j, none⟩ = some v := fun _ hs => by
  obtain ⟨_, cs, _, hrd, hc⟩ := rowF_elem m hx hs
  cases hrd
  exact hc j v hv
theorem rowO_cell {α : Type} {n : Nat} {enc : α → List Value} {hl : ∀ x, (enc x).length = n} {h1 : ∀ x, ∀ v ∈ enc x, v.oneCell' = true} {ρ : World} {L : List HP} {e : TypeId} {b o cap : Nat} {xs : List α} {i j : Nat} {x : α} {v : Value}
    (m : RowO (Kd.flat n enc hl h1) e (some ⟨b, o, none⟩) cap xs ∈ L) (hx : xs[i]? = some x) (hv : (enc x)[j]? = some v) : ∀ w, St ρ L w → w.cell? ⟨b, o + i * n + j, none⟩ = some v := fun _ hs => by
  obtain ⟨_, cs, _, hrd, hc⟩ := rowO_elem m hx hs
  cases hrd
  exact hc j v hv
/-! ### Rows out of blocks, and one out of the other -/
section
variable {α : Type} {k : Kd α} {ρ : World} {L : List HP} {w : World}
theorem rowF_nil (p : Option Addr) (h : St ρ L w) : St ρ (RowF k p ([] : List α) :: L) w := by
  obtain ⟨g, q, a, b, c, d⟩ := h.body
  exact ⟨h.os, h.tape, h.output, g, q, a, b, c, fun _ => none, q, fun _ => .inl rfl, Hp.none_le _, Hp.le_refl _, .inl rfl, d⟩
theorem rowO_nil (e : TypeId) (h : St ρ L w) : St ρ (RowO k e none 0 ([] : List α) :: L) w := by
  obtain ⟨g, q, a, b, c, d⟩ := h.body
  exact ⟨h.os, h.tape, h.output, g, q, a, b, c, fun _ => none, q, fun _ => .inl rfl, Hp.none_le _, Hp.le_refl _, .inl ⟨rfl, rfl, rfl⟩, d⟩
theorem rowO_freeze {e : TypeId} {p : Option Addr} {cap : Nat} {xs : List α} (h : St ρ (RowO k e p cap xs :: L) w) : St ρ (RowF k p xs :: L) w :=
  h.freeze (fun g hh u hg hu ha => by
    rcases (ha : _ ∨ _) with ⟨_, _, h⟩ | ⟨b, o, c, hp, _, hb, _, hr⟩
    · exact .inl h
    · exact .inr ⟨b, o, c, e, (0, 0), hp, hu _ _ hb, hr.mono hg⟩)
end

/-! ### A row that may be read: frozen, or owned -/
def IsRow {α : Type} (A : HP) (k : Kd α) (p : Option Addr) (xs : List α) : Prop :=
  ∀ g h, A.holds g h → xs = [] ∨ ∃ b o c e fr, p = some ⟨b, o, none⟩ ∧ (g b = some (.cells c e fr) ∨ h b = some (.cells c e fr)) ∧ rowAt k g c o xs
theorem isF {α : Type} {k : Kd α} {p : Option Addr} {xs : List α} : IsRow (RowF k p xs) k p xs := fun _ _ h =>
  (h : _ ∨ _).imp id fun ⟨b, o, c, e, fr, hp, hb, hr⟩ => ⟨b, o, c, e, fr, hp, .inl hb, hr⟩
theorem isO {α : Type} {k : Kd α} {e : TypeId} {p : Option Addr} {cap : Nat} {xs : List α} : IsRow (RowO k e p cap xs) k p xs := fun _ _ h =>
  (h : _ ∨ _).imp (fun h => h.2.2) fun ⟨b, o, c, hp, _, hb, _, hr⟩ => ⟨b, o, c, e, (0, 0), hp, .inr hb, hr⟩
theorem row_addr {α : Type} {k : Kd α} {ρ : World} {L : List HP} {A : HP} {p : Option Addr} {xs : List α} (hA : IsRow A k p xs) (m : A ∈ L) (hne : xs ≠ []) : ∀ w, St ρ L w → ∃ b o, p = some ⟨b, o, none⟩ := fun _ hs =>
  hs.fact m (fun g h ha => by
    rcases hA g h ha with h | ⟨b, o, _, _, _, hp, _⟩
    · exact absurd h hne
    · exact ⟨b, o, hp⟩)
theorem row_none {α : Type} {k : Kd α} {ρ : World} {L : List HP} {A : HP} {xs : List α} (hA : IsRow A k none xs) (m : A ∈ L) : ∀ w, St ρ L w → xs = [] := fun _ hs =>
  hs.fact m (fun g h ha => by
    rcases hA g h ha with h | ⟨b, o, _, _, _, hp, _⟩
    · exact h
    · cases hp)
theorem row_elem {α : Type} {k : Kd α} {ρ : World} {L : List HP} {w : World} {A : HP} {b o : Nat} {xs : List α} {i : Nat} {x : α} (hA : IsRow A k (some ⟨b, o, none⟩) xs) (m : A ∈ L) (hx : xs[i]? = some x) (hs : St ρ L w) :
    ∃ g cs, Hp.le g (heapOf w) ∧ k.rd g x cs ∧ ∀ j v, cs[j]? = some v → w.cell? ⟨b, o + i * k.sz + j, none⟩ = some v := by
  obtain ⟨g, h, _, lg, lh, d⟩ := hs.body
  obtain ⟨h1, l1, ha⟩ := sepAll_mem m d
  rcases hA g h1 ha with ha | ⟨b', o', c, e, fr, hp, hb, hr⟩
  · subst ha; simp at hx
  · cases hp
    obtain ⟨cs, hrd, hc⟩ := hr i x hx
    have hb' : w.heap[b]? = some (.cells c e fr) := hb.elim (fun hb => lg _ _ hb) (fun hb => lh _ _ (l1 _ _ hb))
    exact ⟨g, cs, lg, hrd, fun j v hv => cell_of_heap hb' (hc j v hv)⟩
theorem row_cell {α : Type} {n : Nat} {enc : α → List Value} {hl : ∀ x, (enc x).length = n} {h1 : ∀ x, ∀ v ∈ enc x, v.oneCell' = true} {ρ : World} {L : List HP} {A : HP} {b o : Nat} {xs : List α} {i j : Nat} {x : α} {v : Value}
    (hA : IsRow A (Kd.flat n enc hl h1) (some ⟨b, o, none⟩) xs) (m : A ∈ L) (hx : xs[i]? = some x) (hv : (enc x)[j]? = some v) : ∀ w, St ρ L w → w.cell? ⟨b, o + i * n + j, none⟩ = some v := fun _ hs => by
  obtain ⟨_, cs, _, hrd, hc⟩ := row_elem hA m hx hs
  cases hrd
  exact hc j v hv
end Go.Proofs.Ytlellgnklohclaa.L
