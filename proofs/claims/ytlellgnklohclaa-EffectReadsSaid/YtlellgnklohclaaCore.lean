/- A logic of walks: worlds that meet a separating list, frames that are known slot by slot, and the judgements on what a frame has still to do. No program in sight. -/
import Derived.OrdersHeld
import Derived.KernelRfl
import Derived.Below
namespace Go.Proofs.Ytlellgnklohclaa.L
open Go

/-! ### Heaps -/
abbrev Hp := Nat → Option Obj
def Hp.le (g h : Hp) : Prop := ∀ b o, g b = some o → h b = some o
def Hp.apart (g h : Hp) : Prop := ∀ b, g b = none ∨ h b = none
def heapOf (w : World) : Hp := fun b => w.heap[b]?
theorem Hp.le_refl (g : Hp) : Hp.le g g := fun _ _ h => h
theorem Hp.le_trans {a b c : Hp} (h : Hp.le a b) (k : Hp.le b c) : Hp.le a c := fun x o e => k x o (h x o e)
theorem Hp.apart_symm {a b : Hp} (h : Hp.apart a b) : Hp.apart b a := fun x => (h x).symm
theorem Hp.apart_le {a b a' b' : Hp} (h : Hp.apart a b) (ha : Hp.le a' a) (hb : Hp.le b' b) : Hp.apart a' b' := fun x => by
  rcases h x with e | e
  · refine .inl ?_
    cases hx : a' x with
    | none => rfl
    | some o => rw [ha x o hx] at e; cases e
  · refine .inr ?_
    cases hx : b' x with
    | none => rfl
    | some o => rw [hb x o hx] at e; cases e

/-- An assertion: on the frozen heap g and the heap h that it owns. -/
structure HP where
  pers : Bool
  holds : Hp → Hp → Prop
  mono : ∀ {g g' h}, Hp.le g g' → holds g h → holds g' h
  free : pers = true → ∀ {g h h'}, holds g h → holds g h'
def HP.own (p : Hp → Hp → Prop) (m : ∀ {g g' h}, Hp.le g g' → p g h → p g' h) : HP := ⟨false, p, m, fun h => by cases h⟩
theorem Hp.none_le (h : Hp) : Hp.le (fun _ => none) h := fun _ _ e => by cases e
def HP.per (p : Hp → Prop) (m : ∀ {g g'}, Hp.le g g' → p g → p g') : HP := ⟨true, fun g _ => p g, fun h k => m h k, fun _ _ _ _ h => h⟩

def sepAll : List HP → Hp → Hp → Prop
  | [], _, _ => True
  | A :: L, g, h => ∃ h1 h2, Hp.apart h1 h2 ∧ Hp.le h1 h ∧ Hp.le h2 h ∧ A.holds g h1 ∧ sepAll L g h2
theorem sepAll_mono : ∀ {L : List HP} {g g' h h' : Hp}, Hp.le g g' → Hp.le h h' → sepAll L g h → sepAll L g' h'
  | [], _, _, _, _, _, _, _ => trivial
  | A :: _, _, _, _, _, hg, hh, ⟨h1, h2, ap, l1, l2, ha, hl⟩ =>
    ⟨h1, h2, ap, Hp.le_trans l1 hh, Hp.le_trans l2 hh, A.mono hg ha, sepAll_mono hg (Hp.le_refl _) hl⟩

/-- The world w meets the separating list L; streams and tape are ρ's. -/
structure St (ρ : World) (L : List HP) (w : World) : Prop where
  os : w.os = ρ.os
  tape : w.tape = ρ.tape
  output : w.output = ρ.output
  body : ∃ g h, Hp.apart g h ∧ Hp.le g (heapOf w) ∧ Hp.le h (heapOf w) ∧ sepAll L g h

theorem St.nil {ρ : World} {L : List HP} {w : World} (h : St ρ L w) : St ρ [] w :=
  let ⟨g, k, a, b, c, _⟩ := h.body
  ⟨h.os, h.tape, h.output, g, k, a, b, c, trivial⟩
theorem St.drewN {ρ : World} {L : List HP} {w : World} (h : St ρ L w) (n : Nat) : St ρ L { w with drawn := n } := ⟨h.os, h.tape, h.output, h.body⟩

/-! ### Taking an assertion out of the list, putting one in -/
inductive Pick : List HP → HP → List HP → Prop where
  | here {A L} : Pick (A :: L) A L
  | there {A B L L'} : Pick L A L' → Pick (B :: L) A (B :: L')
theorem Pick.sep {L : List HP} {A : HP} {L' : List HP} (p : Pick L A L') : ∀ {g h}, sepAll L g h → sepAll (A :: L') g h := by
  induction p with
  | here => exact fun h => h
  | there _ ih =>
    rintro g h ⟨h1, h2, ap, l1, l2, hb, hl⟩
    obtain ⟨k1, k2, ap', m1, m2, ha, hl'⟩ := ih hl
    have hle : ∀ x o, (match h1 x with | some o => some o | none => k2 x) = some o → h x = some o := by
      intro x o e
      cases hx : h1 x with
      | some o' => rw [hx] at e; cases e; exact l1 x _ hx
      | none => rw [hx] at e; exact l2 x o (m2 x o e)
    refine ⟨k1, fun x => match h1 x with | some o => some o | none => k2 x, ?_, Hp.le_trans m1 l2, hle, ha, h1, k2, ?_, ?_, ?_, hb, hl'⟩
    · intro x
      rcases Hp.apart_le ap (Hp.le_refl _) m1 x with e | e
      · rcases ap' x with e' | e'
        · exact .inl e'
        · refine .inr ?_; show (match h1 x with | some o => some o | none => k2 x) = none; rw [e]; exact e'
      · exact .inl e
    · exact Hp.apart_le ap (Hp.le_refl _) m2
    · intro x o e; show (match h1 x with | some o => some o | none => k2 x) = some o; rw [e]
    · intro x o e
      show (match h1 x with | some o => some o | none => k2 x) = some o
      rcases Hp.apart_le ap (Hp.le_refl _) m2 x with e' | e'
      · rw [e']; exact e
      · rw [e'] at e; cases e
theorem St.pick {ρ : World} {L : List HP} {A : HP} {L' : List HP} {w : World} (p : Pick L A L') (h : St ρ L w) : St ρ (A :: L') w :=
  let ⟨g, k, a, b, c, d⟩ := h.body
  ⟨h.os, h.tape, h.output, g, k, a, b, c, p.sep d⟩
theorem sepAll_mem {L : List HP} {A : HP} (m : A ∈ L) : ∀ {g h}, sepAll L g h → ∃ h1, Hp.le h1 h ∧ A.holds g h1 := by
  induction m with
  | head => rintro g h ⟨h1, _, _, l1, _, ha, _⟩; exact ⟨h1, l1, ha⟩
  | tail _ _ ih =>
    rintro g h ⟨_, h2, _, _, l2, _, hl⟩
    obtain ⟨k, lk, hk⟩ := ih hl
    exact ⟨k, Hp.le_trans lk l2, hk⟩
/-- What a list says is kept when one of its assertions is struck. -/
theorem St.tail {ρ : World} {A : HP} {L : List HP} {w : World} (h : St ρ (A :: L) w) : St ρ L w :=
  let ⟨g, _, a, b, c, _, h2, _, _, l2, _, d⟩ := h.body
  ⟨h.os, h.tape, h.output, g, h2, Hp.apart_le a (Hp.le_refl _) l2, b, Hp.le_trans l2 c, d⟩
/-- A frozen assertion may stand twice. -/
theorem St.dup {ρ : World} {A : HP} {L : List HP} {w : World} (hp : A.pers = true) (m : A ∈ L) (h : St ρ L w) : St ρ (A :: L) w := by
  obtain ⟨g, k, a, b, c, d⟩ := h.body
  obtain ⟨_, _, ha⟩ := sepAll_mem m d
  exact ⟨h.os, h.tape, h.output, g, k, a, b, c, fun _ => none, k, fun _ => .inl rfl, Hp.none_le _, Hp.le_refl _, A.free hp ha, d⟩
/-- A frozen assertion that follows from another. -/
theorem St.derive {ρ : World} {A B : HP} {L : List HP} {w : World} (m : A ∈ L) (hp : B.pers = true) (hi : ∀ g h, A.holds g h → B.holds g h) (h : St ρ L w) : St ρ (B :: L) w := by
  obtain ⟨g, k, a, b, c, d⟩ := h.body
  obtain ⟨_, _, ha⟩ := sepAll_mem m d
  exact ⟨h.os, h.tape, h.output, g, k, a, b, c, fun _ => none, k, fun _ => .inl rfl, Hp.none_le _, Hp.le_refl _, B.free hp (hi _ _ ha), d⟩
/-- The head turned into what follows from it. -/
theorem St.turn {ρ : World} {A B : HP} {L : List HP} {w : World} (hi : ∀ g h, A.holds g h → B.holds g h) (h : St ρ (A :: L) w) : St ρ (B :: L) w :=
  let ⟨g, k, a, b, c, h1, h2, ap, l1, l2, ha, d⟩ := h.body
  ⟨h.os, h.tape, h.output, g, k, a, b, c, h1, h2, ap, l1, l2, hi _ _ ha, d⟩
/-- The head opened: what is in it under '∃'. -/
theorem St.open_ {ρ : World} {A : HP} {ι : Type} {B : ι → HP} {L : List HP} {w : World} (hi : ∀ g h, A.holds g h → ∃ i, (B i).holds g h) (h : St ρ (A :: L) w) : ∃ i, St ρ (B i :: L) w := by
  obtain ⟨g, k, a, b, c, h1, h2, ap, l1, l2, ha, d⟩ := h.body
  obtain ⟨i, hb⟩ := hi _ _ ha
  exact ⟨i, h.os, h.tape, h.output, g, k, a, b, c, h1, h2, ap, l1, l2, hb, d⟩
/-- Of the head a pure fact. -/
theorem St.fact {ρ : World} {A : HP} {φ : Prop} {L : List HP} {w : World} (m : A ∈ L) (hi : ∀ g h, A.holds g h → φ) (h : St ρ L w) : φ := by
  obtain ⟨g, k, a, b, c, d⟩ := h.body
  obtain ⟨_, _, ha⟩ := sepAll_mem m d
  exact hi _ _ ha

/-- 'L gives M': the assertions of M are taken out of L one by one (frozen ones stay), L' is left. -/
inductive Give : List HP → List HP → List HP → Prop where
  | nil {L} : Give L [] L
  | own {L A L1 M L2} : Pick L A L1 → Give L1 M L2 → Give L (A :: M) L2
  | per {L A M L2} : A.pers = true → A ∈ L → Give L M L2 → Give L (A :: M) L2
theorem sepAll_give {L M L' : List HP} (p : Give L M L') : ∀ {g h}, sepAll L g h → sepAll (M ++ L') g h := by
  induction p with
  | nil => exact fun h => h
  | own pk _ ih =>
    intro g h hs
    obtain ⟨h1, h2, ap, l1, l2, ha, hl⟩ := pk.sep hs
    exact ⟨h1, h2, ap, l1, l2, ha, ih hl⟩
  | per hp m _ ih =>
    intro g h hs
    obtain ⟨_, _, ha⟩ := sepAll_mem m hs
    exact ⟨fun _ => none, h, fun _ => .inl rfl, Hp.none_le _, Hp.le_refl _, HP.free _ hp ha, ih hs⟩
theorem St.give {ρ : World} {L M L' : List HP} {w : World} (p : Give L M L') (h : St ρ L w) : St ρ (M ++ L') w :=
  let ⟨g, k, a, b, c, d⟩ := h.body
  ⟨h.os, h.tape, h.output, g, k, a, b, c, sepAll_give p d⟩
theorem sepAll_left {M L : List HP} : ∀ {g h}, sepAll (M ++ L) g h → sepAll M g h := by
  induction M with
  | nil => exact fun _ => trivial
  | cons A M ih => rintro g h ⟨h1, h2, ap, l1, l2, ha, hl⟩; exact ⟨h1, h2, ap, l1, l2, ha, ih hl⟩
/-- L says no less than M. -/
theorem St.sub {ρ : World} {L M L' : List HP} {w : World} (p : Give L M L') (h : St ρ L w) : St ρ M w :=
  let ⟨g, k, a, b, c, d⟩ := h.body
  ⟨h.os, h.tape, h.output, g, k, a, b, c, sepAll_left (sepAll_give p d)⟩

/-- L' with some struck. -/
inductive Drop : List HP → List HP → Prop where
  | refl {L} : Drop L L
  | skip {A L L'} : Drop L L' → Drop (A :: L) L'
theorem Drop.sep {L L' : List HP} (d : Drop L L') : ∀ {g h}, sepAll L g h → sepAll L' g h := by
  induction d with
  | refl => exact fun h => h
  | skip _ ih =>
    rintro g h ⟨_, h2, _, _, l2, _, hl⟩
    exact sepAll_mono (Hp.le_refl _) l2 (ih hl)
theorem Drop.app {L L' : List HP} (M : List HP) (d : Drop L L') : ∀ {g h}, sepAll (M ++ L) g h → sepAll (M ++ L') g h := by
  induction M with
  | nil => exact fun h => d.sep h
  | cons A M ih =>
    rintro g h ⟨h1, h2, ap, l1, l2, ha, hl⟩
    exact ⟨h1, h2, ap, l1, l2, ha, ih hl⟩
/-- The list as it is wanted: M, and behind it L; what is left over is struck. -/
theorem St.fit {ρ : World} {Lc M L' L : List HP} {w : World} (h : St ρ Lc w) (g : Give Lc M L') (d : Drop L' L) : St ρ (M ++ L) w :=
  let ⟨g', k, a, b, c, s⟩ := (h.give g).body
  ⟨h.os, h.tape, h.output, g', k, a, b, c, d.app M s⟩

/-! ### Blocks -/
/-- Block b is owned, and holds o. -/
def pt (b : Nat) (o : Obj) : HP := HP.own (fun _ h => h b = some o) (fun _ h => h)
/-- Block b is frozen, and holds o. -/
def fz (b : Nat) (o : Obj) : HP := HP.per (fun g => g b = some o) (fun hg h => hg _ _ h)
/-- All that W held is frozen. -/
def old (W : World) : HP := HP.per (fun g => Hp.le (heapOf W) g) (fun hg h => Hp.le_trans h hg)
/-- A fact that hangs on no heap. -/
def pure_ (φ : Prop) : HP := HP.per (fun _ => φ) (fun _ h => h)

theorem St.pt_heap {ρ : World} {b : Nat} {o : Obj} {L : List HP} {w : World} (m : pt b o ∈ L) (h : St ρ L w) : w.heap[b]? = some o := by
  obtain ⟨g, k, _, _, c, d⟩ := h.body
  obtain ⟨h1, l1, ha⟩ := sepAll_mem m d
  exact c _ _ (l1 _ _ ha)
theorem St.fz_heap {ρ : World} {b : Nat} {o : Obj} {L : List HP} {w : World} (m : fz b o ∈ L) (h : St ρ L w) : w.heap[b]? = some o := by
  obtain ⟨g, k, _, hb, _, d⟩ := h.body
  obtain ⟨_, _, ha⟩ := sepAll_mem m d
  exact hb _ _ ha
theorem St.old_below {ρ W : World} {L : List HP} {w : World} (m : old W ∈ L) (ho : ρ.os = W.os) (ht : ρ.tape = W.tape) (hu : ρ.output = W.output) (h : St ρ L w) : RowKit.Below W.heap.size W w := by
  obtain ⟨g, k, _, hb, _, d⟩ := h.body
  obtain ⟨_, _, ha⟩ := sepAll_mem m d
  have key : ∀ i, i < W.heap.size → w.heap[i]? = W.heap[i]? := fun i hi => by
    have e : W.heap[i]? = some W.heap[i] := Array.getElem?_eq_getElem hi
    rw [e]; exact hb _ _ (ha _ _ e)
  refine ⟨h.os.trans ho, h.tape.trans ht, h.output.trans hu, ?_, key⟩
  by_cases h0 : W.heap.size = 0
  · omega
  · have := key (W.heap.size - 1) (by omega)
    rw [Array.getElem?_eq_getElem (by omega : W.heap.size - 1 < W.heap.size)] at this
    have := (Array.getElem?_eq_some_iff.1 this).1
    omega

/-- A heap with one block turned. -/
def Hp.set (h : Hp) (b : Nat) (o : Option Obj) : Hp := fun x => if x = b then o else h x
theorem heapOf_push (w : World) (o : Obj) : heapOf { w with heap := w.heap.push o } = (heapOf w).set w.heap.size (some o) := by
  funext x
  show (w.heap.push o)[x]? = if x = w.heap.size then some o else w.heap[x]?
  rw [Array.getElem?_push]
/-- A new block. -/
theorem St.alloc {ρ : World} {L : List HP} {w : World} (h : St ρ L w) (o : Obj) : St ρ (pt w.heap.size o :: L) { w with heap := w.heap.push o } := by
  obtain ⟨g, k, ap, lg, lk, d⟩ := h.body
  have no : (heapOf w) w.heap.size = none := by simp [heapOf]
  have none_of : ∀ {q : Hp}, Hp.le q (heapOf w) → q w.heap.size = none := fun {q} lq => by
    cases hq : q w.heap.size with
    | none => rfl
    | some o' => have := lq _ _ hq; rw [no] at this; cases this
  have up : ∀ {q : Hp}, Hp.le q (heapOf w) → Hp.le q (heapOf { w with heap := w.heap.push o }) := fun {q} lq x o' e => by
    rw [heapOf_push]
    show (if x = w.heap.size then some o else heapOf w x) = some o'
    by_cases hx : x = w.heap.size
    · subst hx; rw [none_of lq] at e; cases e
    · rw [if_neg hx]; exact lq _ _ e
  refine ⟨h.os, h.tape, h.output, g, k.set w.heap.size (some o), ?_, up lg, ?_, fun x => if x = w.heap.size then some o else none, k, ?_, ?_, ?_, ?_, d⟩
  · intro x
    by_cases hx : x = w.heap.size
    · subst hx; exact .inl (none_of lg)
    · rcases ap x with e | e
      · exact .inl e
      · exact .inr (by show (if x = _ then _ else k x) = none; rw [if_neg hx]; exact e)
  · intro x o' e
    rw [heapOf_push]
    show (if x = w.heap.size then some o else heapOf w x) = some o'
    have e : (if x = w.heap.size then some o else k x) = some o' := e
    by_cases hx : x = w.heap.size
    · rw [if_pos hx] at e ⊢; exact e
    · rw [if_neg hx] at e ⊢; exact lk _ _ e
  · intro x
    by_cases hx : x = w.heap.size
    · subst hx; exact .inr (none_of lk)
    · exact .inl (if_neg hx)
  · intro x o' e
    by_cases hx : x = w.heap.size
    · have e : (if x = w.heap.size then some o else none) = some o' := e
      rw [if_pos hx] at e; show (if x = _ then _ else k x) = _; rw [if_pos hx]; exact e
    · have e : (if x = w.heap.size then some o else none) = some o' := e
      rw [if_neg hx] at e; cases e
  · intro x o' e
    show (if x = _ then _ else k x) = _
    by_cases hx : x = w.heap.size
    · subst hx; rw [none_of lk] at e; cases e
    · rw [if_neg hx]; exact e
  · show (if w.heap.size = w.heap.size then some o else none) = some o
    rw [if_pos rfl]
/-- A block that is owned turned into another: any world that parts from w there alone. -/
theorem St.write {ρ : World} {L : List HP} {w w' : World} {b : Nat} {o o' : Obj} (h : St ρ (pt b o :: L) w) (e1 : w'.os = w.os) (e2 : w'.tape = w.tape) (e3 : w'.output = w.output)
    (hb : w'.heap[b]? = some o') (hne : ∀ x, x ≠ b → w'.heap[x]? = w.heap[x]?) : St ρ (pt b o' :: L) w' := by
  obtain ⟨g, k, ap, lg, lk, h1, h2, ap', l1, l2, ha, d⟩ := h.body
  have ha : h1 b = some o := ha
  have h2b : h2 b = none := by
    rcases ap' b with e | e
    · rw [ha] at e; cases e
    · exact e
  have gb : g b = none := by
    rcases ap b with e | e
    · exact e
    · rw [l1 _ _ ha] at e; cases e
  have up : ∀ {q : Hp}, q b = none → Hp.le q (heapOf w) → Hp.le q (heapOf w') := fun {q} hq lq x y e => by
    have hx : x ≠ b := fun hx => by subst hx; rw [hq] at e; cases e
    show w'.heap[x]? = some y
    rw [hne x hx]; exact lq _ _ e
  refine ⟨e1.trans h.os, e2.trans h.tape, e3.trans h.output, g, h2.set b (some o'), ?_, up gb lg, ?_, fun x => if x = b then some o' else none, h2, ?_, ?_, ?_, ?_, d⟩
  · intro x
    by_cases hx : x = b
    · subst hx; exact .inl gb
    · rcases Hp.apart_le ap (Hp.le_refl _) l2 x with e | e
      · exact .inl e
      · exact .inr (by show (if x = b then _ else h2 x) = none; rw [if_neg hx]; exact e)
  · intro x y e
    have e : (if x = b then some o' else h2 x) = some y := e
    show w'.heap[x]? = some y
    by_cases hx : x = b
    · rw [if_pos hx] at e; rw [hx, hb]; exact e
    · rw [if_neg hx] at e; exact up h2b (Hp.le_trans l2 lk) _ _ e
  · intro x
    by_cases hx : x = b
    · subst hx; exact .inr h2b
    · exact .inl (if_neg hx)
  · intro x y e
    by_cases hx : x = b
    · have e : (if x = b then some o' else none) = some y := e
      rw [if_pos hx] at e; show (if x = b then _ else h2 x) = _; rw [if_pos hx]; exact e
    · have e : (if x = b then some o' else none) = some y := e
      rw [if_neg hx] at e; cases e
  · intro x y e
    show (if x = b then _ else h2 x) = _
    by_cases hx : x = b
    · subst hx; rw [h2b] at e; cases e
    · rw [if_neg hx]; exact e
  · show (if b = b then some o' else none) = some o'
    rw [if_pos rfl]
/-- What is owned is frozen: A's own heap goes over to the frozen one. -/
theorem St.freeze {ρ : World} {A B : HP} {L : List HP} {w : World} (hi : ∀ g h u, Hp.le g u → Hp.le h u → A.holds g h → B.holds u (fun _ => none)) (h : St ρ (A :: L) w) : St ρ (B :: L) w := by
  obtain ⟨g, k, ap, lg, lk, h1, h2, ap', l1, l2, ha, d⟩ := h.body
  let u : Hp := fun x => match g x with | some o => some o | none => h1 x
  have lgu : Hp.le g u := fun x o e => by show (match g x with | some o => some o | none => h1 x) = some o; rw [e]
  have l1u : Hp.le h1 u := fun x o e => by
    show (match g x with | some o => some o | none => h1 x) = some o
    rcases Hp.apart_le ap (Hp.le_refl _) l1 x with e' | e'
    · rw [e']; exact e
    · rw [e'] at e; cases e
  have lu : Hp.le u (heapOf w) := fun x o e => by
    have e : (match g x with | some o => some o | none => h1 x) = some o := e
    cases hx : g x with
    | some o' => rw [hx] at e; cases e; exact lg _ _ hx
    | none => rw [hx] at e; exact lk _ _ (l1 _ _ e)
  refine ⟨h.os, h.tape, h.output, u, h2, ?_, lu, Hp.le_trans l2 lk, fun _ => none, h2, fun _ => .inl rfl, Hp.none_le _, Hp.le_refl _, hi g h1 u lgu l1u ha, sepAll_mono lgu (Hp.le_refl _) d⟩
  intro x
  rcases ap' x with e' | e'
  · rcases Hp.apart_le ap (Hp.le_refl _) l2 x with e | e
    · refine .inl ?_; show (match g x with | some o => some o | none => h1 x) = none; rw [e]; exact e'
    · exact .inr e
  · exact .inr e'
theorem St.freeze_pt {ρ : World} {b : Nat} {o : Obj} {L : List HP} {w : World} (h : St ρ (pt b o :: L) w) : St ρ (fz b o :: L) w :=
  h.freeze (fun _ _ _ _ hu ha => hu _ _ ha)

end Go.Proofs.Ytlellgnklohclaa.L
