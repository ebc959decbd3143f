/- A logic of walks: worlds that meet a separating list, frames that are known slot by slot, and the judgements on what a frame has still to do. No program in sight. The judgements of a walk: what a frame has still to do (K), a region whose order is fixed (KO), a region that draws its order (D); contracts (Fn). No program in sight. The operations, one law each: what an operation yields in a frame and a world of which E and L tell. Over any program; what the tables of types say comes in as small facts. The operations, continued: numbers, texts, slices, blocks. The operations on memory: blocks, stores, rows that are frozen or owned, append. The operations that make or turn memory: variables, structs, stores, literals, append. -/
import Derived.OrdersHeld
import Derived.KernelRfl
import Derived.Below
import Derived.IntWalk
import Derived.Laws.World
import Derived.Lib.Strings
/-! A logic of walks: worlds that meet a separating list, frames that are known slot by slot, and the judgements on what a frame has still to do. No program in sight. -/
namespace Go.Proofs.YthnmoiilaaoooaaGreat.L
open Go

/-! ### Heaps -/
abbrev Hp := Nat → Option Obj
def Hp.le (g h : Hp) : Prop := ∀ b o, g b = some o → h b = some o
def Hp.apart (g h : Hp) : Prop := ∀ b, g b = none ∨ h b = none
def heapOf (w : World) : Hp := fun b => w.heap[b]?
theorem Hp.le_refl (g : Hp) : Hp.le g g := fun _ _ h => h
theorem Hp.le_trans {a b c : Hp} (h : Hp.le a b) (k : Hp.le b c) : Hp.le a c := fun x o e => k x o (h x o e)
theorem Hp.apart_symm {a b : Hp} (h : Hp.apart a b) : Hp.apart b a := fun x => (h x).symm
theorem Hp.apart_le {a b a' b' : Hp} (h : Hp.apart a b) (ha : Hp.le a' a) (hb : Hp.le b' b) : Hp.apart a' b' := fun x => by
  rcases h x with e | e
  · refine .inl ?_
    cases hx : a' x with
    | none => rfl
    | some o => rw [ha x o hx] at e; cases e
  · refine .inr ?_
    cases hx : b' x with
    | none => rfl
    | some o => rw [hb x o hx] at e; cases e

/-- An assertion: on the frozen heap g and the heap h that it owns. -/
structure HP where
  pers : Bool
  holds : Hp → Hp → Prop
  mono : ∀ {g g' h}, Hp.le g g' → holds g h → holds g' h
  free : pers = true → ∀ {g h h'}, holds g h → holds g h'
def HP.own (p : Hp → Hp → Prop) (m : ∀ {g g' h}, Hp.le g g' → p g h → p g' h) : HP := ⟨false, p, m, fun h => by cases h⟩
theorem Hp.none_le (h : Hp) : Hp.le (fun _ => none) h := fun _ _ e => by cases e
def HP.per (p : Hp → Prop) (m : ∀ {g g'}, Hp.le g g' → p g → p g') : HP := ⟨true, fun g _ => p g, fun h k => m h k, fun _ _ _ _ h => h⟩

def sepAll : List HP → Hp → Hp → Prop
  | [], _, _ => True
  | A :: L, g, h => ∃ h1 h2, Hp.apart h1 h2 ∧ Hp.le h1 h ∧ Hp.le h2 h ∧ A.holds g h1 ∧ sepAll L g h2
theorem sepAll_mono : ∀ {L : List HP} {g g' h h' : Hp}, Hp.le g g' → Hp.le h h' → sepAll L g h → sepAll L g' h'
  | [], _, _, _, _, _, _, _ => trivial
  | A :: _, _, _, _, _, hg, hh, ⟨h1, h2, ap, l1, l2, ha, hl⟩ =>
    ⟨h1, h2, ap, Hp.le_trans l1 hh, Hp.le_trans l2 hh, A.mono hg ha, sepAll_mono hg (Hp.le_refl _) hl⟩

/-- The world w meets the separating list L; streams and tape are ρ's. -/
structure St (ρ : World) (L : List HP) (w : World) : Prop where
  os : w.os = ρ.os
  tape : w.tape = ρ.tape
  output : w.output = ρ.output ∧ ρ.drawn ≤ w.drawn
  body : ∃ g h, Hp.apart g h ∧ Hp.le g (heapOf w) ∧ Hp.le h (heapOf w) ∧ sepAll L g h

theorem St.nil {ρ : World} {L : List HP} {w : World} (h : St ρ L w) : St ρ [] w :=
  let ⟨g, k, a, b, c, _⟩ := h.body
  ⟨h.os, h.tape, h.output, g, k, a, b, c, trivial⟩
theorem St.drewN {ρ : World} {L : List HP} {w : World} (h : St ρ L w) (n : Nat) (hn : w.drawn ≤ n) : St ρ L { w with drawn := n } := ⟨h.os, h.tape, ⟨h.output.1, Nat.le_trans h.output.2 hn⟩, h.body⟩

/-! ### Taking an assertion out of the list, putting one in -/
inductive Pick : List HP → HP → List HP → Prop where
  | here {A L} : Pick (A :: L) A L
  | there {A B L L'} : Pick L A L' → Pick (B :: L) A (B :: L')
theorem Pick.sep {L : List HP} {A : HP} {L' : List HP} (p : Pick L A L') : ∀ {g h}, sepAll L g h → sepAll (A :: L') g h := by
  induction p with
  | here => exact fun h => h
  | there _ ih =>
    rintro g h ⟨h1, h2, ap, l1, l2, hb, hl⟩
    obtain ⟨k1, k2, ap', m1, m2, ha, hl'⟩ := ih hl
    have hle : ∀ x o, (match h1 x with | some o => some o | none => k2 x) = some o → h x = some o := by
      intro x o e
      cases hx : h1 x with
      | some o' => rw [hx] at e; cases e; exact l1 x _ hx
      | none => rw [hx] at e; exact l2 x o (m2 x o e)
    refine ⟨k1, fun x => match h1 x with | some o => some o | none => k2 x, ?_, Hp.le_trans m1 l2, hle, ha, h1, k2, ?_, ?_, ?_, hb, hl'⟩
    · intro x
      rcases Hp.apart_le ap (Hp.le_refl _) m1 x with e | e
      · rcases ap' x with e' | e'
        · exact .inl e'
        · refine .inr ?_; show (match h1 x with | some o => some o | none => k2 x) = none; rw [e]; exact e'
      · exact .inl e
    · exact Hp.apart_le ap (Hp.le_refl _) m2
    · intro x o e; show (match h1 x with | some o => some o | none => k2 x) = some o; rw [e]
    · intro x o e
      show (match h1 x with | some o => some o | none => k2 x) = some o
      rcases Hp.apart_le ap (Hp.le_refl _) m2 x with e' | e'
      · rw [e']; exact e
      · rw [e'] at e; cases e
theorem St.pick {ρ : World} {L : List HP} {A : HP} {L' : List HP} {w : World} (p : Pick L A L') (h : St ρ L w) : St ρ (A :: L') w :=
  let ⟨g, k, a, b, c, d⟩ := h.body
  ⟨h.os, h.tape, h.output, g, k, a, b, c, p.sep d⟩
theorem sepAll_mem {L : List HP} {A : HP} (m : A ∈ L) : ∀ {g h}, sepAll L g h → ∃ h1, Hp.le h1 h ∧ A.holds g h1 := by
  induction m with
  | head => rintro g h ⟨h1, _, _, l1, _, ha, _⟩; exact ⟨h1, l1, ha⟩
  | tail _ _ ih =>
    rintro g h ⟨_, h2, _, _, l2, _, hl⟩
    obtain ⟨k, lk, hk⟩ := ih hl
    exact ⟨k, Hp.le_trans lk l2, hk⟩
/-- What a list says is kept when one of its assertions is struck. -/
theorem St.tail {ρ : World} {A : HP} {L : List HP} {w : World} (h : St ρ (A :: L) w) : St ρ L w :=
  let ⟨g, _, a, b, c, _, h2, _, _, l2, _, d⟩ := h.body
  ⟨h.os, h.tape, h.output, g, h2, Hp.apart_le a (Hp.le_refl _) l2, b, Hp.le_trans l2 c, d⟩
/-- A frozen assertion may stand twice. -/
theorem St.dup {ρ : World} {A : HP} {L : List HP} {w : World} (hp : A.pers = true) (m : A ∈ L) (h : St ρ L w) : St ρ (A :: L) w := by
  obtain ⟨g, k, a, b, c, d⟩ := h.body
  obtain ⟨_, _, ha⟩ := sepAll_mem m d
  exact ⟨h.os, h.tape, h.output, g, k, a, b, c, fun _ => none, k, fun _ => .inl rfl, Hp.none_le _, Hp.le_refl _, A.free hp ha, d⟩
/-- A frozen assertion that follows from another. -/
theorem St.derive {ρ : World} {A B : HP} {L : List HP} {w : World} (m : A ∈ L) (hp : B.pers = true) (hi : ∀ g h, A.holds g h → B.holds g h) (h : St ρ L w) : St ρ (B :: L) w := by
  obtain ⟨g, k, a, b, c, d⟩ := h.body
  obtain ⟨_, _, ha⟩ := sepAll_mem m d
  exact ⟨h.os, h.tape, h.output, g, k, a, b, c, fun _ => none, k, fun _ => .inl rfl, Hp.none_le _, Hp.le_refl _, B.free hp (hi _ _ ha), d⟩
/-- The head turned into what follows from it. -/
theorem St.turn {ρ : World} {A B : HP} {L : List HP} {w : World} (hi : ∀ g h, A.holds g h → B.holds g h) (h : St ρ (A :: L) w) : St ρ (B :: L) w :=
  let ⟨g, k, a, b, c, h1, h2, ap, l1, l2, ha, d⟩ := h.body
  ⟨h.os, h.tape, h.output, g, k, a, b, c, h1, h2, ap, l1, l2, hi _ _ ha, d⟩
/-- The head opened: what is in it under '∃'. -/
theorem St.open_ {ρ : World} {A : HP} {ι : Type} {B : ι → HP} {L : List HP} {w : World} (hi : ∀ g h, A.holds g h → ∃ i, (B i).holds g h) (h : St ρ (A :: L) w) : ∃ i, St ρ (B i :: L) w := by
  obtain ⟨g, k, a, b, c, h1, h2, ap, l1, l2, ha, d⟩ := h.body
  obtain ⟨i, hb⟩ := hi _ _ ha
  exact ⟨i, h.os, h.tape, h.output, g, k, a, b, c, h1, h2, ap, l1, l2, hb, d⟩
/-- Of the head a pure fact. -/
theorem St.fact {ρ : World} {A : HP} {φ : Prop} {L : List HP} {w : World} (m : A ∈ L) (hi : ∀ g h, A.holds g h → φ) (h : St ρ L w) : φ := by
  obtain ⟨g, k, a, b, c, d⟩ := h.body
  obtain ⟨_, _, ha⟩ := sepAll_mem m d
  exact hi _ _ ha

/-- 'L gives M': the assertions of M are taken out of L one by one (frozen ones stay), L' is left. -/
inductive Give : List HP → List HP → List HP → Prop where
  | nil {L} : Give L [] L
  | own {L A L1 M L2} : Pick L A L1 → Give L1 M L2 → Give L (A :: M) L2
  | per {L A M L2} : A.pers = true → A ∈ L → Give L M L2 → Give L (A :: M) L2
theorem sepAll_give {L M L' : List HP} (p : Give L M L') : ∀ {g h}, sepAll L g h → sepAll (M ++ L') g h := by
  induction p with
  | nil => exact fun h => h
  | own pk _ ih =>
    intro g h hs
    obtain ⟨h1, h2, ap, l1, l2, ha, hl⟩ := pk.sep hs
    exact ⟨h1, h2, ap, l1, l2, ha, ih hl⟩
  | per hp m _ ih =>
    intro g h hs
    obtain ⟨_, _, ha⟩ := sepAll_mem m hs
    exact ⟨fun _ => none, h, fun _ => .inl rfl, Hp.none_le _, Hp.le_refl _, HP.free _ hp ha, ih hs⟩
theorem St.give {ρ : World} {L M L' : List HP} {w : World} (p : Give L M L') (h : St ρ L w) : St ρ (M ++ L') w :=
  let ⟨g, k, a, b, c, d⟩ := h.body
  ⟨h.os, h.tape, h.output, g, k, a, b, c, sepAll_give p d⟩
theorem sepAll_left {M L : List HP} : ∀ {g h}, sepAll (M ++ L) g h → sepAll M g h := by
  induction M with
  | nil => exact fun _ => trivial
  | cons A M ih => rintro g h ⟨h1, h2, ap, l1, l2, ha, hl⟩; exact ⟨h1, h2, ap, l1, l2, ha, ih hl⟩
/-- L says no less than M. -/
theorem St.sub {ρ : World} {L M L' : List HP} {w : World} (p : Give L M L') (h : St ρ L w) : St ρ M w :=
  let ⟨g, k, a, b, c, d⟩ := h.body
  ⟨h.os, h.tape, h.output, g, k, a, b, c, sepAll_left (sepAll_give p d)⟩

/-- L' with some struck. -/
inductive Drop : List HP → List HP → Prop where
  | refl {L} : Drop L L
  | skip {A L L'} : Drop L L' → Drop (A :: L) L'
theorem Drop.sep {L L' : List HP} (d : Drop L L') : ∀ {g h}, sepAll L g h → sepAll L' g h := by
  induction d with
  | refl => exact fun h => h
  | skip _ ih =>
    rintro g h ⟨_, h2, _, _, l2, _, hl⟩
    exact sepAll_mono (Hp.le_refl _) l2 (ih hl)
theorem Drop.app {L L' : List HP} (M : List HP) (d : Drop L L') : ∀ {g h}, sepAll (M ++ L) g h → sepAll (M ++ L') g h := by
  induction M with
  | nil => exact fun h => d.sep h
  | cons A M ih =>
    rintro g h ⟨h1, h2, ap, l1, l2, ha, hl⟩
    exact ⟨h1, h2, ap, l1, l2, ha, ih hl⟩
/-- The list as it is wanted: M, and behind it L; what is left over is struck. -/
theorem St.fit {ρ : World} {Lc M L' L : List HP} {w : World} (h : St ρ Lc w) (g : Give Lc M L') (d : Drop L' L) : St ρ (M ++ L) w :=
  let ⟨g', k, a, b, c, s⟩ := (h.give g).body
  ⟨h.os, h.tape, h.output, g', k, a, b, c, d.app M s⟩

/-! ### Blocks -/
/-- Block b is owned, and holds o. -/
def pt (b : Nat) (o : Obj) : HP := HP.own (fun _ h => h b = some o) (fun _ h => h)
/-- Block b is frozen, and holds o. -/
def fz (b : Nat) (o : Obj) : HP := HP.per (fun g => g b = some o) (fun hg h => hg _ _ h)
/-- All that W held is frozen. -/
def old (W : World) : HP := HP.per (fun g => Hp.le (heapOf W) g) (fun hg h => Hp.le_trans h hg)
/-- A fact that hangs on no heap. -/
def pure_ (φ : Prop) : HP := HP.per (fun _ => φ) (fun _ h => h)

theorem St.pt_heap {ρ : World} {b : Nat} {o : Obj} {L : List HP} {w : World} (m : pt b o ∈ L) (h : St ρ L w) : w.heap[b]? = some o := by
  obtain ⟨g, k, _, _, c, d⟩ := h.body
  obtain ⟨h1, l1, ha⟩ := sepAll_mem m d
  exact c _ _ (l1 _ _ ha)
theorem St.fz_heap {ρ : World} {b : Nat} {o : Obj} {L : List HP} {w : World} (m : fz b o ∈ L) (h : St ρ L w) : w.heap[b]? = some o := by
  obtain ⟨g, k, _, hb, _, d⟩ := h.body
  obtain ⟨_, _, ha⟩ := sepAll_mem m d
  exact hb _ _ ha
theorem St.old_below {ρ W : World} {L : List HP} {w : World} (m : old W ∈ L) (ho : ρ.os = W.os) (ht : ρ.tape = W.tape) (hu : ρ.output = W.output) (h : St ρ L w) : RowKit.Below W.heap.size W w := by
  obtain ⟨g, k, _, hb, _, d⟩ := h.body
  obtain ⟨_, _, ha⟩ := sepAll_mem m d
  have key : ∀ i, i < W.heap.size → w.heap[i]? = W.heap[i]? := fun i hi => by
    have e : W.heap[i]? = some W.heap[i] := Array.getElem?_eq_getElem hi
    rw [e]; exact hb _ _ (ha _ _ e)
  refine ⟨h.os.trans ho, h.tape.trans ht, h.output.1.trans hu, ?_, key⟩
  by_cases h0 : W.heap.size = 0
  · omega
  · have := key (W.heap.size - 1) (by omega)
    rw [Array.getElem?_eq_getElem (by omega : W.heap.size - 1 < W.heap.size)] at this
    have := (Array.getElem?_eq_some_iff.1 this).1
    omega

/-- A heap with one block turned. -/
def Hp.set (h : Hp) (b : Nat) (o : Option Obj) : Hp := fun x => if x = b then o else h x
theorem heapOf_push (w : World) (o : Obj) : heapOf { w with heap := w.heap.push o } = (heapOf w).set w.heap.size (some o) := by
  funext x
  show (w.heap.push o)[x]? = if x = w.heap.size then some o else w.heap[x]?
  rw [Array.getElem?_push]
/-- A new block. -/
theorem St.alloc {ρ : World} {L : List HP} {w : World} (h : St ρ L w) (o : Obj) : St ρ (pt w.heap.size o :: L) { w with heap := w.heap.push o } := by
  obtain ⟨g, k, ap, lg, lk, d⟩ := h.body
  have no : (heapOf w) w.heap.size = none := by simp [heapOf]
  have none_of : ∀ {q : Hp}, Hp.le q (heapOf w) → q w.heap.size = none := fun {q} lq => by
    cases hq : q w.heap.size with
    | none => rfl
    | some o' => have := lq _ _ hq; rw [no] at this; cases this
  have up : ∀ {q : Hp}, Hp.le q (heapOf w) → Hp.le q (heapOf { w with heap := w.heap.push o }) := fun {q} lq x o' e => by
    rw [heapOf_push]
    show (if x = w.heap.size then some o else heapOf w x) = some o'
    by_cases hx : x = w.heap.size
    · subst hx; rw [none_of lq] at e; cases e
    · rw [if_neg hx]; exact lq _ _ e
  refine ⟨h.os, h.tape, h.output, g, k.set w.heap.size (some o), ?_, up lg, ?_, fun x => if x = w.heap.size then some o else none, k, ?_, ?_, ?_, ?_, d⟩
  · intro x
    by_cases hx : x = w.heap.size
    · subst hx; exact .inl (none_of lg)
    · rcases ap x with e | e
      · exact .inl e
      · exact .inr (by show (if x = _ then _ else k x) = none; rw [if_neg hx]; exact e)
  · intro x o' e
    rw [heapOf_push]
    show (if x = w.heap.size then some o else heapOf w x) = some o'
    have e : (if x = w.heap.size then some o else k x) = some o' := e
    by_cases hx : x = w.heap.size
    · rw [if_pos hx] at e ⊢; exact e
    · rw [if_neg hx] at e ⊢; exact lk _ _ e
  · intro x
    by_cases hx : x = w.heap.size
    · subst hx; exact .inr (none_of lk)
    · exact .inl (if_neg hx)
  · intro x o' e
    by_cases hx : x = w.heap.size
    · have e : (if x = w.heap.size then some o else none) = some o' := e
      rw [if_pos hx] at e; show (if x = _ then _ else k x) = _; rw [if_pos hx]; exact e
    · have e : (if x = w.heap.size then some o else none) = some o' := e
      rw [if_neg hx] at e; cases e
  · intro x o' e
    show (if x = _ then _ else k x) = _
    by_cases hx : x = w.heap.size
    · subst hx; rw [none_of lk] at e; cases e
    · rw [if_neg hx]; exact e
  · show (if w.heap.size = w.heap.size then some o else none) = some o
    rw [if_pos rfl]
/-- A block that is owned turned into another: any world that parts from w there alone. -/
theorem St.write {ρ : World} {L : List HP} {w w' : World} {b : Nat} {o o' : Obj} (h : St ρ (pt b o :: L) w) (e1 : w'.os = w.os) (e2 : w'.tape = w.tape) (e3 : w'.output = w.output)
    (hb : w'.heap[b]? = some o') (hne : ∀ x, x ≠ b → w'.heap[x]? = w.heap[x]?) (e4 : w.drawn ≤ w'.drawn := by exact Nat.le_refl _) : St ρ (pt b o' :: L) w' := by
  obtain ⟨g, k, ap, lg, lk, h1, h2, ap', l1, l2, ha, d⟩ := h.body
  have ha : h1 b = some o := ha
  have h2b : h2 b = none := by
    rcases ap' b with e | e
    · rw [ha] at e; cases e
    · exact e
  have gb : g b = none := by
    rcases ap b with e | e
    · exact e
    · rw [l1 _ _ ha] at e; cases e
  have up : ∀ {q : Hp}, q b = none → Hp.le q (heapOf w) → Hp.le q (heapOf w') := fun {q} hq lq x y e => by
    have hx : x ≠ b := fun hx => by subst hx; rw [hq] at e; cases e
    show w'.heap[x]? = some y
    rw [hne x hx]; exact lq _ _ e
  refine ⟨e1.trans h.os, e2.trans h.tape, ⟨e3.trans h.output.1, Nat.le_trans h.output.2 e4⟩, g, h2.set b (some o'), ?_, up gb lg, ?_, fun x => if x = b then some o' else none, h2, ?_, ?_, ?_, ?_, d⟩
  · intro x
    by_cases hx : x = b
    · subst hx; exact .inl gb
    · rcases Hp.apart_le ap (Hp.le_refl _) l2 x with e | e
      · exact .inl e
      · exact .inr (by show (if x = b then _ else h2 x) = none; rw [if_neg hx]; exact e)
  · intro x y e
    have e : (if x = b then some o' else h2 x) = some y := e
    show w'.heap[x]? = some y
    by_cases hx : x = b
    · rw [if_pos hx] at e; rw [hx, hb]; exact e
    · rw [if_neg hx] at e; exact up h2b (Hp.le_trans l2 lk) _ _ e
  · intro x
    by_cases hx : x = b
    · subst hx; exact .inr h2b
    · exact .inl (if_neg hx)
  · intro x y e
    by_cases hx : x = b
    · have e : (if x = b then some o' else none) = some y := e
      rw [if_pos hx] at e; show (if x = b then _ else h2 x) = _; rw [if_pos hx]; exact e
    · have e : (if x = b then some o' else none) = some y := e
      rw [if_neg hx] at e; cases e
  · intro x y e
    show (if x = b then _ else h2 x) = _
    by_cases hx : x = b
    · subst hx; rw [h2b] at e; cases e
    · rw [if_neg hx]; exact e
  · show (if b = b then some o' else none) = some o'
    rw [if_pos rfl]
/-- What is owned is frozen: A's own heap goes over to the frozen one. -/
theorem St.freeze {ρ : World} {A B : HP} {L : List HP} {w : World} (hi : ∀ g h u, Hp.le g u → Hp.le h u → A.holds g h → B.holds u (fun _ => none)) (h : St ρ (A :: L) w) : St ρ (B :: L) w := by
  obtain ⟨g, k, ap, lg, lk, h1, h2, ap', l1, l2, ha, d⟩ := h.body
  let u : Hp := fun x => match g x with | some o => some o | none => h1 x
  have lgu : Hp.le g u := fun x o e => by show (match g x with | some o => some o | none => h1 x) = some o; rw [e]
  have l1u : Hp.le h1 u := fun x o e => by
    show (match g x with | some o => some o | none => h1 x) = some o
    rcases Hp.apart_le ap (Hp.le_refl _) l1 x with e' | e'
    · rw [e']; exact e
    · rw [e'] at e; cases e
  have lu : Hp.le u (heapOf w) := fun x o e => by
    have e : (match g x with | some o => some o | none => h1 x) = some o := e
    cases hx : g x with
    | some o' => rw [hx] at e; cases e; exact lg _ _ hx
    | none => rw [hx] at e; exact lk _ _ (l1 _ _ e)
  refine ⟨h.os, h.tape, h.output, u, h2, ?_, lu, Hp.le_trans l2 lk, fun _ => none, h2, fun _ => .inl rfl, Hp.none_le _, Hp.le_refl _, hi g h1 u lgu l1u ha, sepAll_mono lgu (Hp.le_refl _) d⟩
  intro x
  rcases ap' x with e' | e'
  · rcases Hp.apart_le ap (Hp.le_refl _) l2 x with e | e
    · refine .inl ?_; show (match g x with | some o => some o | none => h1 x) = none; rw [e]; exact e'
    · exact .inr e
  · exact .inr e'
theorem St.freeze_pt {ρ : World} {b : Nat} {o : Obj} {L : List HP} {w : World} (h : St ρ (pt b o :: L) w) : St ρ (fz b o :: L) w :=
  h.freeze (fun _ _ _ _ hu ha => hu _ _ ha)

end Go.Proofs.YthnmoiilaaoooaaGreat.L
/-! The judgements of a walk: what a frame has still to do (K), a region whose order is fixed (KO), a region that draws its order (D); contracts (Fn). No program in sight. -/
namespace Go.Proofs.YthnmoiilaaoooaaGreat.L
open Go

/-! ### Frames known slot by slot -/
abbrev Env := List (Nat × Value)
def Env.get : Env → Nat → Option Value
  | [], _ => none
  | (d, v) :: E, t => match Nat.beq d t with | true => some v | false => Env.get E t
def Env.ev (E : Env) : Operand → Option Value
  | .tmp t => Env.get E t
  | .const v => some v
  | .global g => some (.pointer (some ⟨g, 0, none⟩))
  | .func f => some (.func (.func f) #[] #[])
def Env.put (E : Env) : Option Tmp → Value → Env
  | some d, v => (d, v) :: E
  | none, _ => E
structure Know (N : Nat) (E : Env) (a : Act) : Prop where
  defers : a.defers = []
  size : a.tmps.size = N
  slot : ∀ t v, Env.get E t = some v → a.tmps[t]? = some v
theorem Know.ev {N : Nat} {E : Env} {a : Act} (h : Know N E a) {x : Operand} {v : Value} (hx : Env.ev E x = some v) : a.eval x = v := by
  cases x with
  | tmp t => have := h.slot t v hx; simp [Act.eval, this]
  | const u => simpa [Env.ev, Act.eval] using hx
  | global g => simpa [Env.ev, Act.eval] using hx
  | func f => simpa [Env.ev, Act.eval] using hx
def dstOk (N : Nat) : Option Tmp → Bool
  | some d => Nat.ble (d + 1) N
  | none => true
theorem get_cons {d t : Nat} {u : Value} {E : Env} : Env.get ((d, u) :: E) t = if d = t then some u else Env.get E t := by
  show (match Nat.beq d t with | true => some u | false => Env.get E t) = _
  by_cases h : d = t
  · have : Nat.beq d t = true := by simp [h]
    rw [this, if_pos h]
  · have : Nat.beq d t = false := by
      cases hb : Nat.beq d t with
      | false => rfl
      | true => exact absurd (Nat.eq_of_beq_eq_true hb) h
    rw [this, if_neg h]
theorem Know.put {N : Nat} {E : Env} {a : Act} (h : Know N E a) {dst : Option Tmp} (hd : dstOk N dst = true) (v : Value) : Know N (Env.put E dst v) (a.put dst v) := by
  cases dst with
  | none => exact h
  | some d =>
    have hlt : d < N := Nat.le_of_ble_eq_true hd
    refine ⟨h.defers, by simp [Act.put, h.size], fun t u e => ?_⟩
    have e : Env.get ((d, v) :: E) t = some u := e
    rw [get_cons] at e
    by_cases hdt : d = t
    · subst hdt
      rw [if_pos rfl] at e
      simp [Act.put, h.size, hlt, Option.some.inj e]
    · rw [if_neg hdt] at e
      simp [Act.put, Array.getElem?_setIfInBounds_ne hdt, h.slot t u e]
/-- Less is known: each slot of E' by what E says of it. -/
def Env.sub (E E' : Env) : Prop := ∀ t v, Env.get E' t = some v → Env.get E t = some v
theorem Env.sub_nil (E : Env) : Env.sub E [] := fun _ _ h => by cases h
theorem Env.sub_cons {E E' : Env} {d : Nat} {v : Value} (h : Env.get E d = some v) (k : Env.sub E E') : Env.sub E ((d, v) :: E') := fun t u e => by
  rw [get_cons] at e
  by_cases hdt : d = t
  · subst hdt; rw [if_pos rfl] at e; rw [← Option.some.inj e]; exact h
  · rw [if_neg hdt] at e; exact k t u e
theorem Know.sub {N : Nat} {E E' : Env} {a : Act} (h : Know N E a) (k : Env.sub E E') : Know N E' a := ⟨h.defers, h.size, fun t v e => h.slot t v (k t v e)⟩

/-! ### What is fixed during one call -/
structure Fx where
  P : Program
  f : FuncId
  R : Ending → World → Prop
  N : Nat
  ρ : World

/-- From a frame with this to do the call comes to its end, as R says. -/
def Run (X : Fx) (k : List Item) (a : Act) (w : World) : Prop :=
  ∀ (b : Frame) (cs : List Frame), b.fn = X.f → b.kind = .normal →
    ∃ e w' fr, X.R e w' ∧ Comes X.P (lone (b.at a k) cs w) (lone fr cs w') e ∧ fr.fn = X.f ∧ fr.leaving X.P w' e
def K (X : Fx) (k : List Item) (E : Env) (L : List HP) : Prop := ∀ a w, Know X.N E a → St X.ρ L w → Run X k a w

section
variable {X : Fx} {k : List Item} {a : Act} {w : World} {E : Env} {L : List HP}
theorem Run.step {k' : List Item} {a' : Act} {w' : World} (hs : ∀ (b : Frame) (cs : List Frame), Steps X.P (lone (b.at a k) cs w) (lone (b.at a' k') cs w')) (h : Run X k' a' w') : Run X k a w :=
  fun b cs hf hk => let ⟨e, w'', fr, hR, hc, r⟩ := h b cs hf hk; ⟨e, w'', fr, hR, Comes.of_steps (hs b cs) hc, r⟩
/-- A piece of code by the kit's 'wp'. -/
theorem Run.code {c : Code} {Q : Exit → Act → World → Prop} (hq : ∀ e a w, Q e a w → e = .normal ∧ Run X k a w) (h : c.wp X.P Q a w) : Run X (.code c :: k) a w := by
  intro b cs hf hk
  obtain ⟨e, a', w', q, harr⟩ := h b k cs
  obtain ⟨rfl, hr⟩ := hq _ _ _ q
  obtain ⟨e, w'', fr, hR, hc, r⟩ := hr b cs hf hk
  exact ⟨e, w'', fr, hR, Comes.of_steps harr hc, r⟩

theorem K.seq {x y : Code} (h : K X (.code x :: .code y :: k) E L) : K X (.code (.seq x y) :: k) E L :=
  fun a w hk hs => Run.step (fun _ _ => .one step_seq) (h a w hk hs)
theorem K.skip (h : K X k E L) : K X (.code .skip :: k) E L := fun a w hk hs => Run.step (fun _ _ => .one step_skip) (h a w hk hs)
theorem K.label {l : Nat} (h : K X k E L) : K X (.code (.label l) :: k) E L := fun a w hk hs => Run.step (fun _ _ => .one step_label) (h a w hk hs)
theorem K.block {id : Nat} {c : Code} (h : K X (.code c :: .inBlock id :: k) E L) : K X (.code (.block id c) :: k) E L := fun a w hk hs => Run.step (fun _ _ => .one step_block) (h a w hk hs)
theorem K.inBlock {id : Nat} (h : K X k E L) : K X (.inBlock id :: k) E L := fun a w hk hs => Run.step (fun _ _ => .one step_inBlock) (h a w hk hs)
theorem K.exit {id : Nat} {k' : List Item} (he : exitTo id k = some k') (h : K X k' E L) : K X (.code (.exit id) :: k) E L := fun a w hk hs => Run.step (fun _ _ => .one (step_exit he)) (h a w hk hs)
theorem K.cond {c : Operand} {x y : Code} {t : Bool} (hc : Env.ev E c = some (.bool t)) (h : K X (.code (if t then x else y) :: k) E L) : K X (.code (.cond c x y) :: k) E L :=
  fun a w hk hs => Run.step (fun _ _ => .one (step_cond (hk.ev hc))) (h a w hk hs)
theorem K.yes {c : Operand} {x y : Code} (hc : Env.ev E c = some (.bool true)) (h : K X (.code x :: k) E L) : K X (.code (.cond c x y) :: k) E L := K.cond hc h
theorem K.no {c : Operand} {x y : Code} (hc : Env.ev E c = some (.bool false)) (h : K X (.code y :: k) E L) : K X (.code (.cond c x y) :: k) E L := K.cond hc h
/-- A test whose value is b: both ways. -/
theorem K.ite {c : Operand} {x y : Code} {b : Bool} (hc : Env.ev E c = some (.bool b)) (h1 : b = true → K X (.code x :: k) E L) (h2 : b = false → K X (.code y :: k) E L) : K X (.code (.cond c x y) :: k) E L := by
  cases b
  · exact K.no hc (h2 rfl)
  · exact K.yes hc (h1 rfl)
theorem K.dite {c : Operand} {x y : Code} {p : Prop} {dp : Decidable p} (hc : Env.ev E c = some (.bool (@decide p dp))) (h1 : p → K X (.code x :: k) E L) (h2 : ¬ p → K X (.code y :: k) E L) : K X (.code (.cond c x y) :: k) E L :=
  K.ite hc (fun h => h1 (of_decide_eq_true h)) (fun h => h2 (of_decide_eq_false h))
theorem K.loop {c : Code} (h : K X (.code c :: .inLoop c :: k) E L) : K X (.code (.loop c) :: k) E L := fun a w hk hs => Run.step (fun _ _ => .one step_loop) (h a w hk hs)
theorem K.inLoop {c : Code} (h : K X (.code c :: .inLoop c :: k) E L) : K X (.inLoop c :: k) E L := fun a w hk hs => Run.step (fun _ _ => .one step_inLoop) (h a w hk hs)
/-- A loop: at its head one of the states of a family, each with a measure; a round leads to a state of less measure, or out. -/
theorem K.rounds {c : Code} {ι : Type} (I : ι → Env × List HP) (μ : ι → Nat) (i : ι) (hE : Env.sub E (I i).1) (hL : ∀ w, St X.ρ L w → St X.ρ (I i).2 w)
    (round : ∀ i, (∀ j, μ j < μ i → K X (.inLoop c :: k) (I j).1 (I j).2) → K X (.code c :: .inLoop c :: k) (I i).1 (I i).2) : K X (.code (.loop c) :: k) E L := by
  have key : ∀ n j, μ j = n → K X (.code c :: .inLoop c :: k) (I j).1 (I j).2 := by
    intro n
    induction n using Nat.strongRecOn with
    | _ n ih =>
      intro j hj
      exact round j (fun l hl => K.inLoop (ih (μ l) (hj ▸ hl) l rfl))
  exact K.loop (fun a w hk hs => key _ i rfl a w (hk.sub hE) (hL w hs))
/-- What is known may be forgotten, or said otherwise. -/
theorem K.weak {E' : Env} {L' : List HP} (hE : Env.sub E E') (hL : ∀ w, St X.ρ L w → St X.ρ L' w) (h : K X k E' L') : K X k E L := fun a w hk hs => h a w (hk.sub hE) (hL w hs)
theorem K.st {L' : List HP} (hL : ∀ w, St X.ρ L w → St X.ρ L' w) (h : K X k E L') : K X k E L := fun a w hk hs => h a w hk (hL w hs)
theorem K.ex {ι : Type} {B : ι → List HP} (hL : ∀ w, St X.ρ L w → ∃ i, St X.ρ (B i) w) (h : ∀ i, K X k E (B i)) : K X k E L := fun a w hk hs => let ⟨i, hi⟩ := hL w hs; h i a w hk hi
theorem K.fact {φ : Prop} (hL : ∀ w, St X.ρ L w → φ) (h : φ → K X k E L) : K X k E L := fun a w hk hs => h (hL w hs) a w hk hs
/-- The end. -/
theorem K.ret {fn : Func} {v : Value} (hf : X.P.funcs[X.f]? = some fn) (hv : ∀ a w, Know X.N E a → St X.ρ L w → (results fn a.tmps).run X.P w = .ok v w)
    (hR : ∀ w, St X.ρ L w → X.R (.returned v) w) : K X (.code .ret :: k) E L := fun a w hk hs b cs hf' hk' =>
  ⟨.returned v, w, _, hR w hs, .one step_ret, hf', rfl, hk.defers, hk', fn, by show X.P.funcs[b.fn]? = _; rw [hf']; exact hf, hv a w hk hs⟩
theorem K.fin {fn : Func} {v : Value} (hf : X.P.funcs[X.f]? = some fn) (hv : ∀ a w, Know X.N E a → St X.ρ L w → (results fn a.tmps).run X.P w = .ok v w)
    (hR : ∀ w, St X.ρ L w → X.R (.returned v) w) : K X [] E L := fun a w hk hs b cs hf' hk' =>
  ⟨.returned v, w, _, hR w hs, .one step_end, hf', rfl, hk.defers, hk', fn, by show X.P.funcs[b.fn]? = _; rw [hf']; exact hf, hv a w hk hs⟩
end

/-! ### Results -/
section
variable {P : Program} {fn : Func} {N : Nat} {E : Env} {a : Act} {w : World}
theorem res0 (h : fn.results = #[]) : (results fn a.tmps).run P w = .ok (.tuple #[]) w := by simp [results, h]
theorem res1 {t : Nat} {v : Value} (h : fn.results = #[.tmp t]) (hk : Know N E a) (h1 : Env.get E t = some v) : (results fn a.tmps).run P w = .ok v w := by
  have := hk.slot _ _ h1
  simp [results, h, this]
theorem res2 {t u : Nat} {v x : Value} (h : fn.results = #[.tmp t, .tmp u]) (hk : Know N E a) (h1 : Env.get E t = some v) (h2 : Env.get E u = some x) : (results fn a.tmps).run P w = .ok (.tuple #[v, x]) w := by
  have e1 := hk.slot _ _ h1
  have e2 := hk.slot _ _ h2
  simp [results, h, e1, e2]
theorem res3 {t u s : Nat} {v x y : Value} (h : fn.results = #[.tmp t, .tmp u, .tmp s]) (hk : Know N E a) (h1 : Env.get E t = some v) (h2 : Env.get E u = some x) (h3 : Env.get E s = some y) : (results fn a.tmps).run P w = .ok (.tuple #[v, x, y]) w := by
  have e1 := hk.slot _ _ h1
  have e2 := hk.slot _ _ h2
  have e3 := hk.slot _ _ h3
  simp [results, h, e1, e2, e3]
end

/-! ### The operations of a region -/
def noQ : Exit → Act → World → Prop := fun _ _ _ => False
def Env.yield (E : Env) (ops : Array Oper) (j : Nat) : Option Bool :=
  match ((ops[j]?).bind (·.dst)).bind (Env.get E) with
  | some (.bool b) => some b
  | _ => none
/-- The guard says 'want'; the slot lies in the frame. -/
def okOp (N : Nat) (ops : Array Oper) (E : Env) (o : Oper) (want : Bool) : Bool :=
  dstOk N o.dst && match o.guard with
    | none => want
    | some (j, g) => match Env.yield E ops j with
      | some b => (b == g) == want
      | none => false
theorem okOp_dst {N : Nat} {ops : Array Oper} {E : Env} {o : Oper} {want : Bool} (h : okOp N ops E o want = true) : dstOk N o.dst = true := by
  unfold okOp at h
  rw [Bool.and_eq_true] at h
  exact h.1
theorem okOp_wanted {N : Nat} {ops : Array Oper} {E : Env} {o : Oper} {want : Bool} {a : Act} (hk : Know N E a) (h : okOp N ops E o want = true) : Region.wanted o (yielded ops a.tmps) = want := by
  unfold okOp at h
  rw [Bool.and_eq_true] at h
  obtain ⟨_, h⟩ := h
  unfold Region.wanted
  cases hg : o.guard with
  | none => rw [hg] at h; simpa using h.symm
  | some p =>
    obtain ⟨j, g⟩ := p
    rw [hg] at h
    simp only at h ⊢
    unfold Env.yield at h
    unfold yielded
    cases hd : (ops[j]?).bind (·.dst) with
    | none => rw [hd] at h; simp at h
    | some d =>
      rw [hd] at h
      simp only [Option.bind_some] at h ⊢
      cases hv : Env.get E d with
      | none => rw [hv] at h; simp at h
      | some v =>
        rw [hv] at h
        rw [hk.slot d v hv]
        cases v <;> simp_all

/-- In every such frame and world the operation yields v and does nothing else. -/
def OpQ (X : Fx) (o : Oper) (E : Env) (L : List HP) (v : Value) : Prop :=
  ∀ a w, Know X.N E a → St X.ρ L w → (execOp a.eval o).run X.P w = .ok (.value v) w
/-- The operation ends with a value and a list as Φ says. -/
def OpL (X : Fx) (o : Oper) (E : Env) (L : List HP) (Φ : Value → List HP → Prop) : Prop :=
  ∀ a w, Know X.N E a → St X.ρ L w → o.wp X.P a w (fun a' w' => ∃ v L', Φ v L' ∧ a' = a.put o.dst v ∧ St X.ρ L' w') noQ
theorem OpQ.loud {X : Fx} {o : Oper} {E : Env} {L : List HP} {v : Value} (h : OpQ X o E L v) : OpL X o E L (fun v' L' => v' = v ∧ L' = L) := fun a w hk hs => by
  unfold Oper.wp
  rw [h a w hk hs]
  exact ⟨v, L, ⟨rfl, rfl⟩, rfl, hs⟩
theorem OpL.mono {X : Fx} {o : Oper} {E : Env} {L : List HP} {Φ Ψ : Value → List HP → Prop} (h : OpL X o E L Φ) (hi : ∀ v L', Φ v L' → Ψ v L') : OpL X o E L Ψ :=
  fun a w hk hs => Oper.wp_mono (fun _ _ ⟨v, L', hf, r⟩ => ⟨v, L', hi v L' hf, r⟩) (h a w hk hs)

def wpL (P : Program) (ops : Array Oper) (Q : Act → World → Prop) : List Oper → Act → World → Prop
  | [], a, w => Q a w
  | o :: l, a, w => if Region.wanted o (yielded ops a.tmps) then o.wp P a w (wpL P ops Q l) noQ else wpL P ops Q l (a.put o.dst undef) w
def Nrm (Q : Act → World → Prop) : Exit → Act → World → Prop
  | .normal, a, w => Q a w
  | _, _, _ => False
theorem Oper.wp_noQ {P : Program} {o : Oper} {a : Act} {w : World} {J : Act → World → Prop} {Q : Exit → Act → World → Prop} (h : o.wp P a w J noQ) : o.wp P a w J Q := by
  unfold Oper.wp at *
  generalize (execOp a.eval o).run P w = r at *
  cases r with
  | ok n w' =>
    cases n <;> simp only [Oper.upon] at h ⊢ <;> try exact h
    exact Calls.mono h (fun e w'' he => by
      cases e with
      | returned v => exact he
      | panicked c => exact (show False from he).elim
      | outgrown => obtain ⟨_, _, h'⟩ := (show LetsOut noQ from he); exact (show False from h').elim)
  | halt x w' => cases x <;> simp only [Oper.upon, noQ] at h
theorem wpL_ops {P : Program} {ops : Array Oper} {Q : Act → World → Prop} : ∀ (n i : Nat), i + n = ops.size → ∀ (a : Act) (w : World), wpL P ops Q (ops.toList.drop i) a w → wpOps P ops (Nrm Q) (List.range' i n) a w
  | 0, i, hi, a, w, h => by
    rw [List.drop_eq_nil_of_le (by simp; omega)] at h
    exact h
  | n + 1, i, hi, a, w, h => by
    have hlt : i < ops.toList.length := by simp; omega
    have e : ops.toList.drop i = ops[i]'(by simpa using hlt) :: ops.toList.drop (i + 1) := by
      rw [List.drop_eq_getElem_cons hlt]; rfl
    have ho : ops[i]? = some (ops[i]'(by simpa using hlt)) := Array.getElem?_eq_getElem _
    rw [e] at h
    simp only [wpL] at h
    rw [List.range'_succ]
    simp only [wpOps, ho]
    split
    · rename_i hw
      rw [if_pos hw] at h
      exact .inl (Oper.wp_mono (fun a w h => wpL_ops n (i + 1) (by omega) a w h) (Oper.wp_noQ h))
    · rename_i hw
      rw [if_neg hw] at h
      exact wpL_ops n (i + 1) (by omega) _ _ h
/-- A region in its order: l is still to come. -/
def KO (X : Fx) (ops : Array Oper) (l : List Oper) (k : List Item) (E : Env) (L : List HP) : Prop :=
  ∀ a w, Know X.N E a → St X.ρ L w → wpL X.P ops (Run X k) l a w
section
variable {X : Fx} {k : List Item} {E : Env} {L : List HP} {ops : Array Oper} {l : List Oper}
theorem K.region {id : Nat} (h : KO X l.toArray l k E L) : K X (.code (.region id l.toArray false) :: k) E L := fun a w hk hs =>
  Run.code (Q := Nrm (Run X k)) (fun e _ _ q => by cases e <;> first | exact ⟨rfl, q⟩ | exact q.elim)
    (wp_region (by rw [List.range_eq_range']; exact wpL_ops _ 0 (by simp) a w (by simpa using h a w hk hs)))
theorem KO.done (h : K X k E L) : KO X ops [] k E L := h
variable {d : Tmp} {op : Op} {ty : TypeId} {pos : String} {af : Array Edge} {gd : Option (Nat × Bool)}
theorem KO.q {v : Value} (hok : okOp X.N ops E ⟨some d, op, ty, pos, af, gd⟩ true = true) (hq : OpQ X ⟨some d, op, ty, pos, af, gd⟩ E L v) (h : KO X ops l k ((d, v) :: E) L) : KO X ops (⟨some d, op, ty, pos, af, gd⟩ :: l) k E L := fun a w hk hs => by
  simp only [wpL, okOp_wanted hk hok, if_true]
  unfold Oper.wp
  rw [hq a w hk hs]
  exact h _ _ (hk.put (okOp_dst hok) v) hs
theorem KO.skip (hok : okOp X.N ops E ⟨some d, op, ty, pos, af, gd⟩ false = true) (h : KO X ops l k ((d, undef) :: E) L) : KO X ops (⟨some d, op, ty, pos, af, gd⟩ :: l) k E L := fun a w hk hs => by
  simp only [wpL, okOp_wanted hk hok, Bool.false_eq_true, if_false]
  exact h _ _ (hk.put (okOp_dst hok) undef) hs
theorem KO.loud {Φ : Value → List HP → Prop} (hok : okOp X.N ops E ⟨some d, op, ty, pos, af, gd⟩ true = true) (hl : OpL X ⟨some d, op, ty, pos, af, gd⟩ E L Φ) (h : ∀ v L', Φ v L' → KO X ops l k ((d, v) :: E) L') : KO X ops (⟨some d, op, ty, pos, af, gd⟩ :: l) k E L := fun a w hk hs => by
  simp only [wpL, okOp_wanted hk hok, if_true]
  refine Oper.wp_mono ?_ (hl a w hk hs)
  rintro a' w' ⟨v, L', hf, rfl, hs'⟩
  exact h v L' hf _ _ (hk.put (okOp_dst hok) v) hs'
theorem KO.loudN {Φ : Value → List HP → Prop} (hok : okOp X.N ops E ⟨none, op, ty, pos, af, gd⟩ true = true) (hl : OpL X ⟨none, op, ty, pos, af, gd⟩ E L Φ) (h : ∀ v L', Φ v L' → KO X ops l k E L') : KO X ops (⟨none, op, ty, pos, af, gd⟩ :: l) k E L := fun a w hk hs => by
  simp only [wpL, okOp_wanted hk hok, if_true]
  refine Oper.wp_mono ?_ (hl a w hk hs)
  rintro a' w' ⟨v, L', hf, rfl, hs'⟩
  exact h v L' hf _ _ (hk.put (okOp_dst hok) v) hs'
theorem KO.st {L' : List HP} (hL : ∀ w, St X.ρ L w → St X.ρ L' w) (h : KO X ops l k E L') : KO X ops l k E L := fun a w hk hs => h a w hk (hL w hs)
theorem KO.weak {E' : Env} {L' : List HP} (hE : Env.sub E E') (hL : ∀ w, St X.ρ L w → St X.ρ L' w) (h : KO X ops l k E' L') : KO X ops l k E L := fun a w hk hs => h a w (hk.sub hE) (hL w hs)
theorem KO.fact {φ : Prop} (hL : ∀ w, St X.ρ L w → φ) (h : φ → KO X ops l k E L) : KO X ops l k E L := fun a w hk hs => h (hL w hs) a w hk hs
theorem KO.ex {ι : Type} {B : ι → List HP} (hL : ∀ w, St X.ρ L w → ∃ i, St X.ρ (B i) w) (h : ∀ i, KO X ops l k E (B i)) : KO X ops l k E L := fun a w hk hs => let ⟨i, hi⟩ := hL w hs; h i a w hk hi
end

/-! ### A region that draws its order -/
def waitsFor (md : Region.Mode) (ops : Array Oper) (j i : Nat) : Bool :=
  match ops[j]? with
  | some o => o.after.any fun e => Region.binds md e && e.on == i
  | none => false
/-- Whatever order is picked from here on; those of 'early' have been taken before their time: behind what does not wait for all of them S holds. -/
def wpAnyT (P : Program) (md : Region.Mode) (ops : Array Oper) (Q : Exit → Act → World → Prop) (S : World → Prop) : Nat → List Nat → Array Bool → Act → World → Prop
  | 0, _, listed, a, w => Region.ready md ops listed = [] ∧ Q .normal a w
  | fuel + 1, early, listed, a, w =>
    (Region.ready md ops listed = [] → Q .normal a w) ∧
    ∀ j ∈ Region.ready md ops listed, wpOp P ops Q j (fun a' w' => ((early.all fun i => waitsFor md ops j i) = true ∨ S w') ∧ wpAnyT P md ops Q S fuel (early.filter fun i => !waitsFor md ops j i) (listed.setIfInBounds j true) a' w') a w
section
variable {P : Program} {md : Region.Mode} {ops : Array Oper} {Q : Exit → Act → World → Prop} {S : World → Prop}
theorem wpAnyT_any : ∀ (fuel : Nat) (early : List Nat) (listed : Array Bool) (a : Act) (w : World), wpAnyT P md ops Q S fuel early listed a w → wpAny P md ops Q fuel listed a w
  | 0, _, _, _, _, h => h
  | fuel + 1, _, _, _, _, h => ⟨h.1, fun j hj => wpOp_mono (fun a' w' h' => wpAnyT_any fuel _ _ a' w' h'.2) (h.2 j hj)⟩
theorem wpAnyT_less : ∀ (fuel : Nat) (early early' : List Nat) (listed : Array Bool) (a : Act) (w : World), (∀ i, i ∈ early' → i ∈ early) → wpAnyT P md ops Q S fuel early listed a w → wpAnyT P md ops Q S fuel early' listed a w
  | 0, _, _, _, _, _, _, h => h
  | fuel + 1, _, _, _, _, _, hs, h => ⟨h.1, fun j hj => wpOp_mono (fun a' w' h' => ⟨h'.1.imp (fun h => List.all_eq_true.2 fun i hi => List.all_eq_true.1 h i (hs i hi)) id,
      wpAnyT_less fuel _ _ _ a' w' (fun i hi => List.mem_filter.2 ⟨hs i (List.mem_filter.1 hi).1, (List.mem_filter.1 hi).2⟩) h'.2⟩) (h.2 j hj)⟩
theorem not_waits_of_ready {i j : Nat} {listed : Array Bool} (hi : listed.getD i true = false) (hj : j ∈ Region.ready md ops listed) : waitsFor md ops j i = false := by
  obtain ⟨_, o, ho, hall⟩ := mem_ready.1 hj
  unfold waitsFor
  simp only [ho]
  cases hb : o.after.any fun e => Region.binds md e && e.on == i with
  | false => rfl
  | true =>
    obtain ⟨e, he, hbe⟩ := Array.any_eq_true'.1 hb
    simp only [Bool.and_eq_true, beq_iff_eq] at hbe
    have h1 := hall e he hbe.1
    rw [hbe.2] at h1
    rcases Nat.lt_or_ge i listed.size with h' | h'
    · simp [h'] at hi h1; rw [hi] at h1; cases h1
    · simp [Array.getElem?_eq_none h'] at h1
theorem wpAnyT_first {i : Nat} {oi : Oper} {v : Value} (hi : ops[i]? = some oi) (hsel : ∀ (j : Nat) (o : Oper) cs b, ops[j]? = some o → o.op ≠ .select cs b)
    (hQ : ∀ c a w, Q (.panic c) (a.put oi.dst v) w → Q (.panic c) a w) :
    ∀ (fuel : Nat) (early : List Nat) (listed : Array Bool) (a : Act) (w : World),
      (∀ j oj, ops[j]? = some oj → j ≠ i → listed.getD j true = false → (∀ e ∈ oj.after, Region.binds md e = true → e.on ≠ i) → oi.apart ops oj = true) →
      i ∈ Region.ready md ops listed → YieldsIf P ops S oi v a → S w →
      wpAnyT P md ops Q S fuel (i :: early) (listed.setIfInBounds i true) (a.put oi.dst v) w → wpAnyT P md ops Q S (fuel + 1) early listed a w := by
  intro fuel
  induction fuel with
  | zero =>
    intro early listed a w _ hr hy hS H
    refine ⟨fun h => (by rw [h] at hr; cases hr), fun j hj => ?_⟩
    by_cases hji : j = i
    · subst hji
      exact hy.wpOp hi hS ⟨.inr hS, wpAnyT_less 0 _ _ _ _ _ (fun _ h => List.mem_cons_of_mem _ (List.mem_filter.1 h).1) H⟩
    · have := ready_mono hj hji
      rw [H.1] at this
      cases this
  | succ fuel ih =>
    intro early listed a w hfree hr hy hS H
    refine ⟨fun h => (by rw [h] at hr; cases hr), fun j hj => ?_⟩
    by_cases hji : j = i
    · subst hji
      exact hy.wpOp hi hS ⟨.inr hS, wpAnyT_less _ _ _ _ _ _ (fun _ h => List.mem_cons_of_mem _ (List.mem_filter.1 h).1) H⟩
    · have h1 := H.2 j (ready_mono hj hji)
      have hnw := not_waits_of_ready (mem_ready.1 hr).1 hj
      obtain ⟨hjun, oj, hoj, hall⟩ := mem_ready.1 hj
      have hnot : ∀ e ∈ oj.after, Region.binds md e = true → e.on ≠ i := fun e he hb heq => by
        unfold waitsFor at hnw
        simp only [hoj] at hnw
        have : (oj.after.any fun e => Region.binds md e && e.on == i) = true := Array.any_eq_true'.2 ⟨e, he, by simp [hb, heq]⟩
        rw [this] at hnw
        cases hnw
      have h2 := wpOp_putIf hoj (hfree j oj hoj hji hjun hnot) (fun cs b => hsel i oi cs b hi) (fun cs b => hsel j oj cs b hoj) hQ hy h1
      have hfree' : ∀ k ok, ops[k]? = some ok → k ≠ i → (listed.setIfInBounds j true).getD k true = false →
          (∀ e ∈ ok.after, Region.binds md e = true → e.on ≠ i) → oi.apart ops ok = true := fun k ok hk hki hun hno => by
        refine hfree k ok hk hki ?_ hno
        by_cases hjk : j = k
        · subst hjk; exact hjun
        · rw [getD_set_ne true hjk] at hun; exact hun
      refine wpOp_mono (fun a' w' h3 => ?_) h2
      obtain ⟨hy3, hS3, h4⟩ := h3
      have hSw : S w' := hS3.resolve_left (by simp [hnw])
      have hfil : (List.filter (fun i => !waitsFor md ops j i) (i :: early)) = i :: early.filter (fun i => !waitsFor md ops j i) := by simp [hnw]
      rw [hfil] at h4
      refine ⟨.inr hSw, ih _ (listed.setIfInBounds j true) a' w' hfree' (ready_mono hr (Ne.symm hji)) hy3 hSw ?_⟩
      rw [Array.setIfInBounds_comm _ _ hji]
      exact h4
theorem wpAnyT_all {rs : List Nat} {fuel : Nat} {early : List Nat} {listed : Array Bool} {a : Act} {w : World} (hr : Region.ready md ops listed = rs) (hne : rs ≠ [])
    (h : ∀ j ∈ rs, wpOp P ops Q j (fun a' w' => ((early.all fun i => waitsFor md ops j i) = true ∨ S w') ∧ wpAnyT P md ops Q S fuel (early.filter fun i => !waitsFor md ops j i) (listed.setIfInBounds j true) a' w') a w) : wpAnyT P md ops Q S (fuel + 1) early listed a w :=
  ⟨fun h0 => absurd (hr ▸ h0) hne, hr ▸ h⟩
end

/-- The region draws: the operations of 'listed' have been carried out; those of 'early' before their time, where Sc held. -/
def D (X : Fx) (ops : Array Oper) (k : List Item) (Sc : List HP) (fuel : Nat) (early : List Nat) (listed : Array Bool) (E : Env) (L : List HP) : Prop :=
  ∀ a w, Know X.N E a → St X.ρ L w → wpAnyT X.P .any ops (Nrm (Run X k)) (fun w' => St X.ρ Sc w') fuel early listed a w
/-- Operation i may be taken now. -/
def takeOk (ops : Array Oper) (listed : Array Bool) (i : Nat) : Bool := Region.noSelect ops && Region.free .any ops listed i && (Region.ready .any ops listed).contains i
section
variable {X : Fx} {k : List Item} {E : Env} {L Sc : List HP} {ops : Array Oper} {fuel : Nat} {early : List Nat} {listed : Array Bool}
theorem K.draw {id : Nat} {l : List Oper} (Sc : List HP) (hm : X.P.follows .mixedOrders = true) (h : D X l.toArray k Sc l.length [] (Array.replicate l.length false) E L) : K X (.code (.region id l.toArray true) :: k) E L := fun a w hk hs =>
  Run.code (Q := Nrm (Run X k)) (fun e _ _ q => by cases e <;> first | exact ⟨rfl, q⟩ | exact q.elim)
    (wp_region_any hm (wpAnyT_any _ [] _ _ _ (by rw [List.size_toArray]; exact h a _ hk (hs.drewN _ (Nat.le_succ _)))))
theorem D.done (hr : Region.ready .any ops listed = []) (h : K X k E L) : D X ops k Sc fuel early listed E L := fun a w hk hs => by
  cases fuel with
  | zero => exact ⟨hr, h a w hk hs⟩
  | succ n => exact ⟨fun _ => h a w hk hs, by rw [hr]; simp⟩
/-- Number i yields v in every world that meets Sc: it is taken first. -/
theorem D.q {v : Value} (i : Nat) {d : Tmp} {op : Op} {ty : TypeId} {pos : String} {af : Array Edge} {gd : Option (Nat × Bool)} (ho : ops[i]? = some ⟨some d, op, ty, pos, af, gd⟩) (ht : takeOk ops listed i = true) (hok : okOp X.N ops E ⟨some d, op, ty, pos, af, gd⟩ true = true) (hq : OpQ X ⟨some d, op, ty, pos, af, gd⟩ E Sc v) (hsub : ∀ w, St X.ρ L w → St X.ρ Sc w)
    (h : D X ops k Sc fuel (i :: early) (listed.setIfInBounds i true) ((d, v) :: E) L) : D X ops k Sc (fuel + 1) early listed E L := fun a w hk hs => by
  simp only [takeOk, Bool.and_eq_true] at ht
  exact wpAnyT_first ho (Region.noSelect_spec ht.1.1) (fun _ _ _ h => h) fuel early listed a w (Region.free_spec ho ht.1.2) (by simpa using ht.2)
    (.inl ⟨okOp_wanted hk hok, fun w' hw' => hq a w' hk hw'⟩) (hsub w hs) (h _ _ (hk.put (okOp_dst hok) v) hs)
theorem D.skip (i : Nat) {d : Tmp} {op : Op} {ty : TypeId} {pos : String} {af : Array Edge} {gd : Option (Nat × Bool)} (ho : ops[i]? = some ⟨some d, op, ty, pos, af, gd⟩) (ht : takeOk ops listed i = true) (hok : okOp X.N ops E ⟨some d, op, ty, pos, af, gd⟩ false = true) (hsub : ∀ w, St X.ρ L w → St X.ρ Sc w)
    (h : D X ops k Sc fuel (i :: early) (listed.setIfInBounds i true) ((d, undef) :: E) L) : D X ops k Sc (fuel + 1) early listed E L := fun a w hk hs => by
  simp only [takeOk, Bool.and_eq_true] at ht
  exact wpAnyT_first ho (Region.noSelect_spec ht.1.1) (fun _ _ _ h => h) fuel early listed a w (Region.free_spec ho ht.1.2) (by simpa using ht.2)
    (.inr ⟨okOp_wanted hk hok, rfl⟩) (hsub w hs) (h _ _ (hk.put (okOp_dst hok) undef) hs)
/-- Whichever comes up. -/
def DAll (X : Fx) (ops : Array Oper) (k : List Item) (Sc : List HP) (fuel : Nat) (early : List Nat) (listed : Array Bool) (E : Env) (L : List HP) (rs : List Nat) : Prop :=
  ∀ j ∈ rs, ∀ a w, Know X.N E a → St X.ρ L w → wpOp X.P ops (Nrm (Run X k)) j (fun a' w' => ((early.all fun i => waitsFor .any ops j i) = true ∨ St X.ρ Sc w') ∧ wpAnyT X.P .any ops (Nrm (Run X k)) (fun w' => St X.ρ Sc w') fuel (early.filter fun i => !waitsFor .any ops j i) (listed.setIfInBounds j true) a' w') a w
theorem D.all {rs : List Nat} (hr : Region.ready .any ops listed = rs) (hne : rs.isEmpty = false) (h : DAll X ops k Sc fuel early listed E L rs) : D X ops k Sc (fuel + 1) early listed E L := fun a w hk hs =>
  wpAnyT_all hr (by intro e; rw [e] at hne; cases hne) (fun j hj => h j hj a w hk hs)
theorem DAll.nil : DAll X ops k Sc fuel early listed E L [] := fun _ h => by cases h
/-- One that comes up: behind it Sc holds, or it waits for all that were taken early. -/
theorem DAll.any {Φ : Value → List HP → Prop} {i : Nat} {rs : List Nat} {o : Oper} (ho : ops[i]? = some o) (hok : okOp X.N ops E o true = true) (hl : OpL X o E L Φ)
    (hp : (early.all fun j => waitsFor .any ops i j) = true ∨ ∀ v L', Φ v L' → ∀ w, St X.ρ L' w → St X.ρ Sc w)
    (h : ∀ v L', Φ v L' → D X ops k Sc fuel (early.filter fun j => !waitsFor .any ops i j) (listed.setIfInBounds i true) (Env.put E o.dst v) L')
    (hs : DAll X ops k Sc fuel early listed E L rs) : DAll X ops k Sc fuel early listed E L (i :: rs) := fun j hj => by
  rcases List.mem_cons.1 hj with rfl | hj
  · intro a w hk hst
    unfold wpOp
    simp only [ho, okOp_wanted hk hok, if_true]
    refine .inl (Oper.wp_mono ?_ (Oper.wp_noQ (hl a w hk hst)))
    rintro a' w' ⟨v, L', hf, rfl, hs'⟩
    exact ⟨hp.imp id (fun q => q v L' hf w' hs'), h v L' hf _ _ (hk.put (okOp_dst hok) v) hs'⟩
  · exact hs j hj
/-- What was taken early, less what is waited for: worked out. -/
theorem DAll.cons {Φ : Value → List HP → Prop} {i : Nat} {rs early' : List Nat} {d : Tmp} {op : Op} {ty : TypeId} {pos : String} {af : Array Edge} {gd : Option (Nat × Bool)} (ho : ops[i]? = some ⟨some d, op, ty, pos, af, gd⟩) (hok : okOp X.N ops E ⟨some d, op, ty, pos, af, gd⟩ true = true) (hl : OpL X ⟨some d, op, ty, pos, af, gd⟩ E L Φ)
    (hp : (early.all fun j => waitsFor .any ops i j) = true ∨ ∀ v L', Φ v L' → ∀ w, St X.ρ L' w → St X.ρ Sc w) (he : (early.filter fun j => !waitsFor .any ops i j) = early')
    (h : ∀ v L', Φ v L' → D X ops k Sc fuel early' (listed.setIfInBounds i true) ((d, v) :: E) L')
    (hs : DAll X ops k Sc fuel early listed E L rs) : DAll X ops k Sc fuel early listed E L (i :: rs) := DAll.any ho hok hl hp (fun v L' hf => by rw [he]; exact h v L' hf) hs
theorem DAll.consN {Φ : Value → List HP → Prop} {i : Nat} {rs early' : List Nat} {op : Op} {ty : TypeId} {pos : String} {af : Array Edge} {gd : Option (Nat × Bool)} (ho : ops[i]? = some ⟨none, op, ty, pos, af, gd⟩) (hok : okOp X.N ops E ⟨none, op, ty, pos, af, gd⟩ true = true) (hl : OpL X ⟨none, op, ty, pos, af, gd⟩ E L Φ)
    (hp : (early.all fun j => waitsFor .any ops i j) = true ∨ ∀ v L', Φ v L' → ∀ w, St X.ρ L' w → St X.ρ Sc w) (he : (early.filter fun j => !waitsFor .any ops i j) = early')
    (h : ∀ v L', Φ v L' → D X ops k Sc fuel early' (listed.setIfInBounds i true) E L')
    (hs : DAll X ops k Sc fuel early listed E L rs) : DAll X ops k Sc fuel early listed E L (i :: rs) := DAll.any ho hok hl hp (fun v L' hf => by rw [he]; exact h v L' hf) hs
end

/-! ### Contracts -/
def callable (P : Program) (f : FuncId) : Prop := ∃ fn, P.funcs[f]? = some fn ∧ fn.body.isNone = false ∧ (fn.name == "runtime.NumGoroutine") = false
def Post (ρ : World) (L : List HP) (Φ : Value → List HP → Prop) (e : Ending) (w' : World) : Prop := ∃ v post, e = .returned v ∧ Φ v post ∧ St ρ (post ++ L) w'
/-- Called with args where 'pre' holds, the function returns v, and 'post' holds, as Φ says; whatever else holds is kept. -/
def Fn (P : Program) (f : FuncId) (args : Array Value) (pre : List HP) (Φ : Value → List HP → Prop) : Prop :=
  callable P f ∧ ∀ ρ L w, St ρ (pre ++ L) w → Calls P f args w (Post ρ L Φ)
theorem Fn.mono {P : Program} {f : FuncId} {args : Array Value} {pre : List HP} {Φ Ψ : Value → List HP → Prop} (h : Fn P f args pre Φ) (hi : ∀ v post, Φ v post → Ψ v post) : Fn P f args pre Ψ :=
  ⟨h.1, fun ρ L w hs => (h.2 ρ L w hs).mono fun _ _ ⟨v, post, he, hf, r⟩ => ⟨v, post, he, hi v post hf, r⟩⟩
def argEnv : Nat → List Value → Env
  | _, [] => []
  | i, v :: l => (i, v) :: argEnv (i + 1) l
theorem argEnv_get : ∀ (l : List Value) (i t : Nat) (v : Value), Env.get (argEnv i l) t = some v → i ≤ t ∧ l[t - i]? = some v
  | [], _, _, _, h => by cases h
  | u :: l, i, t, v, h => by
    have h : Env.get ((i, u) :: argEnv (i + 1) l) t = some v := h
    rw [get_cons] at h
    by_cases hit : i = t
    · subst hit; rw [if_pos rfl] at h; exact ⟨Nat.le_refl _, by simpa using h⟩
    · rw [if_neg hit] at h
      obtain ⟨h1, h2⟩ := argEnv_get l (i + 1) t v h
      refine ⟨by omega, ?_⟩
      have : t - i = (t - (i + 1)) + 1 := by omega
      rw [this]; simpa using h2
theorem Fn.enter {P : Program} {f : FuncId} {l : List Value} {pre : List HP} {Φ : Value → List HP → Prop} {fn : Func} {c : Code} {N : Nat} (hf : P.funcs[f]? = some fn) (hb : fn.body = some c) (hn : fn.ntmps = N)
    (hname : (fn.name == "runtime.NumGoroutine") = false) (hsz : Nat.ble l.length N = true) (h : ∀ ρ L, K ⟨P, f, Post ρ L Φ, N, ρ⟩ [.code c] (argEnv 0 l) (pre ++ L)) : Fn P f l.toArray pre Φ := by
  refine ⟨⟨fn, hf, by rw [hb]; rfl, hname⟩, fun ρ L w hs cs => ?_⟩
  have hle : l.length ≤ N := Nat.le_of_ble_eq_true hsz
  let a : Act := { tmps := l.toArray ++ Array.replicate (fn.ntmps - l.toArray.size) undef, defers := [] }
  have hk : Know N (argEnv 0 l) a := by
    refine ⟨rfl, by simp [a, hn]; omega, fun t v e => ?_⟩
    obtain ⟨_, h2⟩ := argEnv_get l 0 t v e
    have h2 : l[t]? = some v := h2
    have ht : t < l.length := (List.getElem?_eq_some_iff.1 h2).1
    show (l.toArray ++ Array.replicate (fn.ntmps - l.toArray.size) undef)[t]? = some v
    rw [Array.getElem?_append_left (by simpa using ht)]
    simpa using h2
  let b : Frame := { (default : Frame) with fn := f, kind := .normal }
  obtain ⟨e, w', fr, hR, hc, r⟩ := h ρ L a w hk hs b cs rfl rfl
  have henter : Frame.enter P f l.toArray .normal = b.at a [.code c] := by
    simp [Frame.enter, Frame.at, hf, hb, b, a]
  rw [← henter] at hc
  exact ⟨e, w', fr, hR, hc, r⟩
/-- A call of a Go function by its contract. -/
def Env.evs (E : Env) : List Operand → Option (List Value)
  | [] => some []
  | x :: l => match Env.ev E x, Env.evs E l with | some v, some vs => some (v :: vs) | _, _ => none
theorem Know.evs {N : Nat} {E : Env} {a : Act} (h : Know N E a) : ∀ {l : List Operand} {vs : List Value}, Env.evs E l = some vs → l.map a.eval = vs
  | [], vs, e => by cases e; rfl
  | x :: l, vs, e => by
    simp only [Env.evs] at e
    cases hx : Env.ev E x with
    | none => rw [hx] at e; simp at e
    | some v =>
      cases hl : Env.evs E l with
      | none => rw [hx, hl] at e; simp at e
      | some us =>
        rw [hx, hl] at e
        cases e
        rw [List.map_cons, h.ev hx, h.evs hl]
theorem OpL.callC {X : Fx} {E : Env} {L L' : List HP} {d : Option Tmp} {x : Operand} {args : List Operand} {ats : Array TypeId} {ty : TypeId} {pos : String} {af : Array Edge} {gd : Option (Nat × Bool)}
    {f : FuncId} {first captured vs : List Value} {pre : List HP} {Φ : Value → List HP → Prop} (hx : Env.ev E x = some (.func (.func f) first.toArray captured.toArray)) (hargs : Env.evs E args = some vs)
    (hfn : Fn X.P f (first ++ vs ++ captured).toArray pre Φ) (hg : Give L pre L') :
    OpL X ⟨d, .call ⟨.value x, args.toArray, ats⟩, ty, pos, af, gd⟩ E L (fun v L'' => ∃ post, Φ v post ∧ L'' = post ++ L') := fun a w hk hs => by
  obtain ⟨⟨fn, hf, hbody, hname⟩, hcalls⟩ := hfn
  have e1 := hk.ev hx
  have e2 := hk.evs hargs
  have hrun : (execOp a.eval ⟨d, .call ⟨.value x, args.toArray, ats⟩, ty, pos, af, gd⟩).run X.P w = .ok (.enter f (first ++ vs ++ captured).toArray) w := by
    have n1 : ¬ fn.name = "runtime.NumGoroutine" := by simpa using hname
    have n2 : ¬ fn.body = none := fun e => by rw [e] at hbody; cases hbody
    simp [execOp, resolve, e1, Deferred.ofValue, invoke, callFunc, hf, n1, n2, e2]
  unfold Oper.wp
  rw [hrun]
  refine (hcalls X.ρ L' w (hs.give hg)).mono ?_
  rintro e w' ⟨v, post, rfl, hΦ, hst⟩
  exact ⟨v, post ++ L', ⟨post, hΦ, rfl⟩, rfl, hst⟩
theorem OpL.call {X : Fx} {E : Env} {L L' : List HP} {d : Option Tmp} {f : FuncId} {args : List Operand} {ats : Array TypeId} {ty : TypeId} {pos : String} {af : Array Edge} {gd : Option (Nat × Bool)}
    {vs : List Value} {pre : List HP} {Φ : Value → List HP → Prop} (hargs : Env.evs E args = some vs)
    (hfn : Fn X.P f vs.toArray pre Φ) (hg : Give L pre L') :
    OpL X ⟨d, .call ⟨.value (.func f), args.toArray, ats⟩, ty, pos, af, gd⟩ E L (fun v L'' => ∃ post, Φ v post ∧ L'' = post ++ L') :=
  OpL.callC (first := []) (captured := []) rfl hargs (by simpa using hfn) hg
end Go.Proofs.YthnmoiilaaoooaaGreat.L
/-! The operations, one law each: what an operation yields in a frame and a world of which E and L tell. Over any program; what the tables of types say comes in as small facts. -/
namespace Go.Proofs.YthnmoiilaaoooaaGreat.L
open Go Go.RowKit

/-! ### What the tables of types say -/
def fieldOff (P : Program) (s : TypeId) (f : Nat) : Option Nat :=
  match P.underlying s with
  | some (.struct fs) => match fs[f]? with
    | some fd => match P.info? fd.type with
      | some i => if i.size = 0 then none else some fd.offset
      | none => none
    | none => none
  | _ => none
/-- Is it a struct or an array, and how many cells? -/
def cellK (P : Program) (t : TypeId) : Option (Bool × Nat) :=
  match P.underlying t, P.info? t with
  | some (.struct _), some i | some (.array _ _), some i => some (true, i.size)
  | some _, some i => some (false, i.size)
  | _, _ => none
/-- Of a slice type: the element type, its cells, its bytes. -/
def slElem (P : Program) (t : TypeId) : Option (TypeId × Nat × Nat) :=
  match P.underlying t with
  | some (.slice e) => match P.info? e with
    | some i => some (e, i.size, i.bytes)
    | none => none
  | _ => none
def zeroOf (P : Program) (t : TypeId) : Option (List Value) := ((P.info? t).bind (·.zero)).map fun v => v.cells.toList
inductive Knd where
  | bool | int (k : IntKind) | str | ptr | sl | map | func | st | other
  deriving DecidableEq
def kndOf (P : Program) (t : TypeId) : Option Knd :=
  match P.underlying t with
  | some .bool => some .bool
  | some (.int k) => some (.int k)
  | some .string => some .str
  | some (.pointer _) => some .ptr
  | some (.slice _) => some .sl
  | some (.map _ _) => some .map
  | some (.func _ _ _) => some .func
  | some (.struct _) => some .st
  | some _ => some .other
  | none => none

section
variable {X : Fx} {E : Env} {L : List HP} {d : Option Tmp} {ty : TypeId} {pos : String} {af : Array Edge} {gd : Option (Nat × Bool)}

theorem q_move {x : Operand} {v : Value} (hx : Env.ev E x = some v) : OpQ X ⟨d, .move x, ty, pos, af, gd⟩ E L v := fun a w hk _ => by
  simp [execOp, hk.ev hx]
theorem q_assign {x : Operand} {v : Value} (hx : Env.ev E x = some v) : OpQ X ⟨d, .assign x, ty, pos, af, gd⟩ E L v := fun a w hk _ => by
  simp [execOp, hk.ev hx]
theorem q_pickT {c x y : Operand} {v : Value} (hc : Env.ev E c = some (.bool true)) (hx : Env.ev E x = some v) : OpQ X ⟨d, .pick c x y, ty, pos, af, gd⟩ E L v := fun a w hk _ => by
  simp [execOp, hk.ev hc, hk.ev hx, asBool]
theorem q_pickF {c x y : Operand} {v : Value} (hc : Env.ev E c = some (.bool false)) (hy : Env.ev E y = some v) : OpQ X ⟨d, .pick c x y, ty, pos, af, gd⟩ E L v := fun a w hk _ => by
  simp [execOp, hk.ev hc, hk.ev hy, asBool]
theorem q_nilCheck {x : Operand} {p : Addr} (hx : Env.ev E x = some (.pointer (some p))) : OpQ X ⟨d, .nilCheck x, ty, pos, af, gd⟩ E L (.pointer (some p)) := fun a w hk _ => by
  simp [execOp, hk.ev hx]
theorem add_addr (b o n : Nat) : (⟨b, o, none⟩ : Addr).add n = ⟨b, o + n, none⟩ := by
  unfold Addr.add
  split
  · subst_vars; rfl
  · rfl
theorem q_field {s : TypeId} {x : Operand} {f off b o : Nat} (hf : fieldOff X.P s f = some off) (hx : Env.ev E x = some (.pointer (some ⟨b, o, none⟩))) :
    OpQ X ⟨d, .fieldAddr s x f, ty, pos, af, gd⟩ E L (.pointer (some ⟨b, o + off, none⟩)) := fun a w hk _ => by
  unfold fieldOff at hf
  cases hu : X.P.underlying s with
  | none => rw [hu] at hf; simp at hf
  | some ds =>
    cases ds <;> rw [hu] at hf <;> simp only [reduceCtorEq] at hf
    rename_i fs
    cases hfd : fs[f]? with
    | none => rw [hfd] at hf; simp at hf
    | some fd =>
      rw [hfd] at hf
      simp only at hf
      cases hi : X.P.info? fd.type with
      | none => rw [hi] at hf; simp at hf
      | some i =>
        rw [hi] at hf
        simp only at hf
        by_cases hz : i.size = 0
        · rw [if_pos hz] at hf; cases hf
        · rw [if_neg hz] at hf
          cases hf
          simp [execOp, hk.ev hx, Instr.fieldAt, underlying, hu, hfd, Instr.sureAddr, fieldPlace, sizeOf, typeInfo, hi, hz, add_addr]
theorem q_index {t e : TypeId} {x ix : Operand} {b o len cap sz bytes : Nat} {k : IntKind} {i : Int} (hs : slElem X.P t = some (e, sz, bytes)) (hx : Env.ev E x = some (.slice (some ⟨b, o, none⟩) len cap))
    (hi : Env.ev E ix = some (.int k i)) (h0 : 0 ≤ i) (h1 : i < len) : OpQ X ⟨d, .indexAddr t x ix, ty, pos, af, gd⟩ E L (.pointer (some ⟨b, o + i.toNat * sz, none⟩)) := fun a w hk _ => by
  unfold slElem at hs
  cases hu : X.P.underlying t with
  | none => rw [hu] at hs; simp at hs
  | some ds =>
    cases ds <;> rw [hu] at hs <;> simp only [reduceCtorEq] at hs
    rename_i e'
    cases hi' : X.P.info? e' with
    | none => rw [hi'] at hs; simp at hs
    | some inf =>
      rw [hi'] at hs
      simp only [Option.some.injEq, Prod.mk.injEq] at hs
      obtain ⟨rfl, rfl, rfl⟩ := hs
      simp [execOp, hk.ev hx, hk.ev hi, Instr.indexAt, asIntOf, underlying, hu, sizeOf, typeInfo, hi', h0, h1, add_addr]
/-! loads -/
theorem run_cellK1 {P : Program} {t : TypeId} {n : Nat} (h : cellK P t = some (false, n)) (w : World) : (isAgg t).run P w = .ok false w := by
  unfold cellK at h
  cases hu : P.underlying t with
  | none => rw [hu] at h; simp at h
  | some ds =>
    cases hi : P.info? t with
    | none => rw [hu, hi] at h; cases ds <;> simp at h
    | some i => rw [hu, hi] at h; cases ds <;> simp at h <;> simp [isAgg, underlying, hu]
theorem run_cellKN {P : Program} {t : TypeId} {n : Nat} (h : cellK P t = some (true, n)) (w : World) : (isAgg t).run P w = .ok true w := by
  unfold cellK at h
  cases hu : P.underlying t with
  | none => rw [hu] at h; simp at h
  | some ds =>
    cases hi : P.info? t with
    | none => rw [hu, hi] at h; cases ds <;> simp at h
    | some i => rw [hu, hi] at h; cases ds <;> simp at h <;> simp [isAgg, underlying, hu]
theorem run_sizeK {P : Program} {t : TypeId} {n : Nat} {c : Bool} (h : cellK P t = some (c, n)) (w : World) : (sizeOf t).run P w = .ok n w := by
  unfold cellK at h
  cases hi : P.info? t with
  | none => rw [hi] at h; cases hu : P.underlying t with | none => rw [hu] at h; simp at h | some ds => rw [hu] at h; cases ds <;> simp at h
  | some i =>
    rw [hi] at h
    have : i.size = n := by
      cases hu : P.underlying t with
      | none => rw [hu] at h; simp at h
      | some ds => rw [hu] at h; cases ds <;> simp at h <;> exact h.2
    simp [sizeOf, typeInfo, hi, this]
theorem q_load1 {t : TypeId} {x : Operand} {p : Addr} {v : Value} (ht : cellK X.P t = some (false, 1)) (hx : Env.ev E x = some (.pointer (some p))) (hc : ∀ w, St X.ρ L w → w.cell? p = some v) :
    OpQ X ⟨d, .load t x, ty, pos, af, gd⟩ E L v := fun a w hk hs => by
  simp [execOp, hk.ev hx, Instr.loadAt, Instr.sureAddr, loadVar, run_cellK1 ht, hc w hs]
theorem run_loadCellsFrom {P : Program} {w : World} {b o : Nat} : ∀ (cs : List Value) (i : Nat) (acc : Array Value), (∀ j v, cs[j]? = some v → w.cell? ⟨b, o + (i + j), none⟩ = some v) →
    (loadCellsFrom ⟨b, o, none⟩ i cs.length acc).run P w = .ok (acc ++ cs.toArray) w
  | [], i, acc, _ => by simp [loadCellsFrom]
  | v :: cs, i, acc, h => by
    have h0 := h 0 v rfl
    have ih := run_loadCellsFrom (P := P) cs (i + 1) (acc.push v) (fun j u hj => by have := h (j + 1) u (by simpa using hj); rwa [show i + 1 + j = i + (j + 1) by omega])
    simp only [List.length_cons, loadCellsFrom, Sem.run_bind, run_load, add_addr]
    rw [Nat.add_zero] at h0
    rw [h0]
    simp only [Result.andThen_ok]
    rw [ih]
    simp
theorem q_loadN {t : TypeId} {x : Operand} {b o n : Nat} {cs : List Value} (ht : cellK X.P t = some (true, n)) (hx : Env.ev E x = some (.pointer (some ⟨b, o, none⟩))) (hn : cs.length = n)
    (hc : ∀ w, St X.ρ L w → ∀ j v, cs[j]? = some v → w.cell? ⟨b, o + j, none⟩ = some v) : OpQ X ⟨d, .load t x, ty, pos, af, gd⟩ E L (.agg cs.toArray) := fun a w hk hs => by
  have := run_loadCellsFrom (P := X.P) (w := w) (b := b) (o := o) cs 0 #[] (fun j v hj => by rw [Nat.zero_add]; exact hc w hs j v hj)
  simp only [execOp, hk.ev hx, Instr.loadAt, Instr.sureAddr, loadVar, Sem.run_bind, Sem.run_pure, Result.andThen_ok, run_cellKN ht, if_true, run_sizeK ht, loadCells]
  rw [← hn, this]
  simp
end
end Go.Proofs.YthnmoiilaaoooaaGreat.L
/-! The operations, continued: numbers, texts, slices, blocks. -/
namespace Go.Proofs.YthnmoiilaaoooaaGreat.L
open Go Go.RowKit

theorem wrap_i64 {n : Int} (h0 : -9223372036854775808 ≤ n) (h1 : n ≤ 9223372036854775807) : IntKind.i64.wrap n = n := by
  rw [IntKind.wrap_i64]; omega
theorem wrap_u64 {n : Int} (h0 : 0 ≤ n) (h1 : n ≤ 18446744073709551615) : IntKind.u64.wrap n = n := by
  unfold IntKind.wrap
  simp only [IntKind.bits, IntKind.signed, Bool.false_and, Bool.false_eq_true, if_false]
  exact Int.emod_eq_of_lt h0 (by omega)
theorem wrap_u8 {n : Int} (h0 : 0 ≤ n) (h1 : n ≤ 255) : IntKind.u8.wrap n = n := by
  unfold IntKind.wrap
  simp only [IntKind.bits, IntKind.signed, Bool.false_and, Bool.false_eq_true, if_false]
  exact Int.emod_eq_of_lt h0 (by omega)

section
variable {X : Fx} {E : Env} {L : List HP} {d : Option Tmp} {ty : TypeId} {pos : String} {af : Array Edge} {gd : Option (Nat × Bool)} {t u : TypeId} {x y : Operand}

/-! numbers -/
theorem q_addw {k : IntKind} {a b : Int} (hx : Env.ev E x = some (.int k a)) (hy : Env.ev E y = some (.int k b)) : OpQ X ⟨d, .binOp .add t x y u, ty, pos, af, gd⟩ E L (.int k (k.wrap (a + b))) := fun _ w hk _ => by
  simp [execOp, hk.ev hx, hk.ev hy, eqGuard, binOp, Op.intArith]
theorem q_subw {k : IntKind} {a b : Int} (hx : Env.ev E x = some (.int k a)) (hy : Env.ev E y = some (.int k b)) : OpQ X ⟨d, .binOp .sub t x y u, ty, pos, af, gd⟩ E L (.int k (k.wrap (a - b))) := fun _ w hk _ => by
  simp [execOp, hk.ev hx, hk.ev hy, eqGuard, binOp, Op.intArith]
theorem q_mulw {k : IntKind} {a b : Int} (hx : Env.ev E x = some (.int k a)) (hy : Env.ev E y = some (.int k b)) : OpQ X ⟨d, .binOp .mul t x y u, ty, pos, af, gd⟩ E L (.int k (k.wrap (a * b))) := fun _ w hk _ => by
  simp [execOp, hk.ev hx, hk.ev hy, eqGuard, binOp, Op.intArith]
theorem q_add {a b : Int} (hx : Env.ev E x = some (.int .i64 a)) (hy : Env.ev E y = some (.int .i64 b)) (h0 : -9223372036854775808 ≤ a + b) (h1 : a + b ≤ 9223372036854775807) : OpQ X ⟨d, .binOp .add t x y u, ty, pos, af, gd⟩ E L (.int .i64 (a + b)) := by
  have := q_addw (X := X) (L := L) (d := d) (ty := ty) (pos := pos) (af := af) (gd := gd) (t := t) (u := u) hx hy
  rwa [wrap_i64 h0 h1] at this
theorem q_sub {a b : Int} (hx : Env.ev E x = some (.int .i64 a)) (hy : Env.ev E y = some (.int .i64 b)) (h0 : -9223372036854775808 ≤ a - b) (h1 : a - b ≤ 9223372036854775807) : OpQ X ⟨d, .binOp .sub t x y u, ty, pos, af, gd⟩ E L (.int .i64 (a - b)) := by
  have := q_subw (X := X) (L := L) (d := d) (ty := ty) (pos := pos) (af := af) (gd := gd) (t := t) (u := u) hx hy
  rwa [wrap_i64 h0 h1] at this
theorem q_mul {a b : Int} (hx : Env.ev E x = some (.int .i64 a)) (hy : Env.ev E y = some (.int .i64 b)) (h0 : -9223372036854775808 ≤ a * b) (h1 : a * b ≤ 9223372036854775807) : OpQ X ⟨d, .binOp .mul t x y u, ty, pos, af, gd⟩ E L (.int .i64 (a * b)) := by
  have := q_mulw (X := X) (L := L) (d := d) (ty := ty) (pos := pos) (af := af) (gd := gd) (t := t) (u := u) hx hy
  rwa [wrap_i64 h0 h1] at this
theorem q_div {k : IntKind} {a b : Int} (hx : Env.ev E x = some (.int k a)) (hy : Env.ev E y = some (.int k b)) (hb : b ≠ 0) : OpQ X ⟨d, .binOp .quo t x y u, ty, pos, af, gd⟩ E L (.int k (k.wrap (a.tdiv b))) := fun _ w hk _ => by
  simp [execOp, hk.ev hx, hk.ev hy, eqGuard, binOp, Op.intDiv, hb]
theorem q_rem {k : IntKind} {a b : Int} (hx : Env.ev E x = some (.int k a)) (hy : Env.ev E y = some (.int k b)) (hb : b ≠ 0) : OpQ X ⟨d, .binOp .rem t x y u, ty, pos, af, gd⟩ E L (.int k (a.tmod b)) := fun _ w hk _ => by
  simp [execOp, hk.ev hx, hk.ev hy, eqGuard, binOp, Op.intDiv, hb]
theorem q_and {k : IntKind} {a b : Int} (hx : Env.ev E x = some (.int k a)) (hy : Env.ev E y = some (.int k b)) : OpQ X ⟨d, .binOp .and t x y u, ty, pos, af, gd⟩ E L (.int k (k.wrap ((BitVec.ofInt k.bits a &&& BitVec.ofInt k.bits b).toNat))) := fun _ w hk _ => by
  simp [execOp, hk.ev hx, hk.ev hy, eqGuard, binOp, Op.intBits]
theorem q_or {k : IntKind} {a b : Int} (hx : Env.ev E x = some (.int k a)) (hy : Env.ev E y = some (.int k b)) : OpQ X ⟨d, .binOp .or t x y u, ty, pos, af, gd⟩ E L (.int k (k.wrap ((BitVec.ofInt k.bits a ||| BitVec.ofInt k.bits b).toNat))) := fun _ w hk _ => by
  simp [execOp, hk.ev hx, hk.ev hy, eqGuard, binOp, Op.intBits]
theorem q_shl {k j : IntKind} {a b : Int} (hx : Env.ev E x = some (.int k a)) (hy : Env.ev E y = some (.int j b)) (hb : 0 ≤ b) : OpQ X ⟨d, .binOp .shl t x y u, ty, pos, af, gd⟩ E L (.int k (k.wrap (a * 2 ^ (min b.toNat k.bits)))) := fun _ w hk _ => by
  have : ¬ b < 0 := by omega
  simp [execOp, hk.ev hx, hk.ev hy, eqGuard, binOp, Op.shift, this]
theorem q_shr {k j : IntKind} {a b : Int} (hx : Env.ev E x = some (.int k a)) (hy : Env.ev E y = some (.int j b)) (hb : 0 ≤ b) : OpQ X ⟨d, .binOp .shr t x y u, ty, pos, af, gd⟩ E L (.int k (a.fdiv (2 ^ (min b.toNat k.bits)))) := fun _ w hk _ => by
  have : ¬ b < 0 := by omega
  simp [execOp, hk.ev hx, hk.ev hy, eqGuard, binOp, Op.shift, this]
theorem beq_dec (a b : Int) : (a == b) = decide (a = b) := by
  by_cases h : a = b <;> simp [h]
theorem bne_dec (a b : Int) : (a != b) = decide (¬ a = b) := by
  by_cases h : a = b <;> simp [h]
theorem q_lt {k : IntKind} {a b : Int} (hx : Env.ev E x = some (.int k a)) (hy : Env.ev E y = some (.int k b)) : OpQ X ⟨d, .binOp .lss t x y u, ty, pos, af, gd⟩ E L (.bool (decide (a < b))) := fun _ w hk _ => by
  simp [execOp, hk.ev hx, hk.ev hy, eqGuard, binOp, Op.intCmp]
theorem q_le {k : IntKind} {a b : Int} (hx : Env.ev E x = some (.int k a)) (hy : Env.ev E y = some (.int k b)) : OpQ X ⟨d, .binOp .leq t x y u, ty, pos, af, gd⟩ E L (.bool (decide (a ≤ b))) := fun _ w hk _ => by
  simp [execOp, hk.ev hx, hk.ev hy, eqGuard, binOp, Op.intCmp]
theorem q_gt {k : IntKind} {a b : Int} (hx : Env.ev E x = some (.int k a)) (hy : Env.ev E y = some (.int k b)) : OpQ X ⟨d, .binOp .gtr t x y u, ty, pos, af, gd⟩ E L (.bool (decide (b < a))) := fun _ w hk _ => by
  simp [execOp, hk.ev hx, hk.ev hy, eqGuard, binOp, Op.intCmp]
theorem q_ge {k : IntKind} {a b : Int} (hx : Env.ev E x = some (.int k a)) (hy : Env.ev E y = some (.int k b)) : OpQ X ⟨d, .binOp .geq t x y u, ty, pos, af, gd⟩ E L (.bool (decide (b ≤ a))) := fun _ w hk _ => by
  simp [execOp, hk.ev hx, hk.ev hy, eqGuard, binOp, Op.intCmp]
theorem q_eq {k : IntKind} {a b : Int} (hx : Env.ev E x = some (.int k a)) (hy : Env.ev E y = some (.int k b)) : OpQ X ⟨d, .binOp .eql t x y u, ty, pos, af, gd⟩ E L (.bool (decide (a = b))) := fun _ w hk _ => by
  simp [execOp, hk.ev hx, hk.ev hy, eqGuard, binOp, Op.intCmp, beq_dec]
theorem q_ne {k : IntKind} {a b : Int} (hx : Env.ev E x = some (.int k a)) (hy : Env.ev E y = some (.int k b)) : OpQ X ⟨d, .binOp .neq t x y u, ty, pos, af, gd⟩ E L (.bool (decide (¬ a = b))) := fun _ w hk _ => by
  simp [execOp, hk.ev hx, hk.ev hy, eqGuard, binOp, Op.intCmp, bne_dec]
theorem q_neg {a : Int} (hx : Env.ev E x = some (.int .i64 a)) (h0 : -9223372036854775808 ≤ -a) (h1 : -a ≤ 9223372036854775807) : OpQ X ⟨d, .unOp .neg t x, ty, pos, af, gd⟩ E L (.int .i64 (-a)) := fun _ w hk _ => by
  have : IntKind.i64.wrap (-a) = -a := wrap_i64 h0 h1
  simp [execOp, hk.ev hx, Op.unary, Op.intArith, this]
theorem q_not {b : Bool} (hx : Env.ev E x = some (.bool b)) : OpQ X ⟨d, .unOp .not t x, ty, pos, af, gd⟩ E L (.bool (!b)) := fun _ w hk _ => by
  simp [execOp, hk.ev hx, Op.unary]
theorem q_convw {k j : IntKind} {a : Int} (hu : X.P.underlying u = some (.int k)) (ht : (X.P.underlying t).isSome = true) (hx : Env.ev E x = some (.int j a)) : OpQ X ⟨d, .convert t u x, ty, pos, af, gd⟩ E L (.int k (k.wrap a)) := fun _ w hk _ => by
  obtain ⟨ds, hds⟩ := Option.isSome_iff_exists.1 ht
  simp [execOp, hk.ev hx, convert, underlying, hu, hds, Conv.intToInt]
theorem q_conv {k j : IntKind} {a : Int} (hu : X.P.underlying u = some (.int k)) (ht : (X.P.underlying t).isSome = true) (hx : Env.ev E x = some (.int j a)) (hw : k.wrap a = a) : OpQ X ⟨d, .convert t u x, ty, pos, af, gd⟩ E L (.int k a) := by
  have := q_convw (X := X) (L := L) (d := d) (ty := ty) (pos := pos) (af := af) (gd := gd) hu ht hx
  rwa [hw] at this
/-! bools, texts -/
theorem run_eql {P : Program} {w : World} {t : TypeId} {a b : Value} {r : Bool} (hb : binOp .eql t a b = (do pure (.bool (← Op.equal t a b)))) (h : (Op.equalIn (9999 + 1) t a b).run P w = .ok r w) : (binOp .eql t a b).run P w = .ok (.bool r) w := by
  rw [hb]
  have h : (Op.equal t a b).run P w = .ok r w := h
  simp [h]
theorem run_neq {P : Program} {w : World} {t : TypeId} {a b : Value} {r : Bool} (hb : binOp .neq t a b = (do pure (.bool (!(← Op.equal t a b))))) (h : (Op.equalIn (9999 + 1) t a b).run P w = .ok r w) : (binOp .neq t a b).run P w = .ok (.bool (!r)) w := by
  rw [hb]
  have h : (Op.equal t a b).run P w = .ok r w := h
  simp [h]
theorem run_und {P : Program} {t : TypeId} {ds : TypeDesc} (h : P.underlying t = some ds) (w : World) : (underlying t).run P w = .ok ds w := by
  simp [underlying, h]
theorem eq_bool {P : Program} {w : World} {t : TypeId} {a b : Bool} (n : Nat) (ht : P.underlying t = some .bool) : (Op.equalIn (n + 1) t (.bool a) (.bool b)).run P w = .ok (a == b) w := by
  simp [Op.equalIn, run_und ht]
theorem eq_int {P : Program} {w : World} {t : TypeId} {k : IntKind} {a b : Int} (n : Nat) (ht : P.underlying t = some (.int k)) : (Op.equalIn (n + 1) t (.int k a) (.int k b)).run P w = .ok (a == b) w := by
  simp [Op.equalIn, run_und ht]
theorem eq_str {P : Program} {w : World} {t : TypeId} {a b : ByteArray} (n : Nat) (ht : P.underlying t = some .string) : (Op.equalIn (n + 1) t (.string a) (.string b)).run P w = .ok (a == b) w := by
  simp [Op.equalIn, run_und ht]
theorem eq_ptr {P : Program} {w : World} {t e : TypeId} {p : Option Addr} (n : Nat) (ht : P.underlying t = some (.pointer e)) : (Op.equalIn (n + 1) t (.pointer p) (.pointer none)).run P w = .ok p.isNone w := by
  cases p <;> simp [Op.equalIn, run_und ht]
theorem eq_sl {P : Program} {w : World} {t e : TypeId} {p : Option Addr} {l c : Nat} (n : Nat) (ht : P.underlying t = some (.slice e)) : (Op.equalIn (n + 1) t (.slice p l c) (.slice none 0 0)).run P w = .ok p.isNone w := by
  cases p <;> simp [Op.equalIn, run_und ht]
theorem q_beq {a b : Bool} (ht : X.P.underlying t = some .bool) (hx : Env.ev E x = some (.bool a)) (hy : Env.ev E y = some (.bool b)) : OpQ X ⟨d, .binOp .eql t x y u, ty, pos, af, gd⟩ E L (.bool (a == b)) := fun _ w hk _ => by
  simp only [execOp, hk.ev hx, hk.ev hy, eqGuard, Sem.run_bind, Sem.run_pure]
  simp [run_eql (P := X.P) (w := w) rfl (eq_bool 9999 ht)]
theorem q_bne {a b : Bool} (ht : X.P.underlying t = some .bool) (hx : Env.ev E x = some (.bool a)) (hy : Env.ev E y = some (.bool b)) : OpQ X ⟨d, .binOp .neq t x y u, ty, pos, af, gd⟩ E L (.bool (a != b)) := fun _ w hk _ => by
  simp only [execOp, hk.ev hx, hk.ev hy, eqGuard, Sem.run_bind, Sem.run_pure]
  simp [run_neq (P := X.P) (w := w) rfl (eq_bool 9999 ht), bne]
theorem toList_inj {a b : ByteArray} : a.toList = b.toList ↔ a = b := by
  constructor
  · intro h
    have : a.data.toList = b.data.toList := by simpa [Go.Lib.toList_data] using h
    cases a; cases b; simp_all
  · intro h; rw [h]
theorem sbeq_dec (a b : ByteArray) : (a.toList == b.toList) = decide (a = b) := by
  by_cases h : a = b
  · simp [h]
  · simp [h, toList_inj]
theorem q_seq {a b : ByteArray} (hx : Env.ev E x = some (.string a)) (hy : Env.ev E y = some (.string b)) : OpQ X ⟨d, .binOp .eql t x y u, ty, pos, af, gd⟩ E L (.bool (decide (a = b))) := fun _ w hk _ => by
  simp [execOp, hk.ev hx, hk.ev hy, eqGuard, binOp, Op.stringOp, sbeq_dec]
theorem q_sne {a b : ByteArray} (hx : Env.ev E x = some (.string a)) (hy : Env.ev E y = some (.string b)) : OpQ X ⟨d, .binOp .neq t x y u, ty, pos, af, gd⟩ E L (.bool (decide (¬ a = b))) := fun _ w hk _ => by
  simp [execOp, hk.ev hx, hk.ev hy, eqGuard, binOp, Op.stringOp, sbeq_dec]
theorem q_slt {a b : ByteArray} (hx : Env.ev E x = some (.string a)) (hy : Env.ev E y = some (.string b)) : OpQ X ⟨d, .binOp .lss t x y u, ty, pos, af, gd⟩ E L (.bool (Op.bytesLess a.toList b.toList)) := fun _ w hk _ => by
  simp [execOp, hk.ev hx, hk.ev hy, eqGuard, binOp, Op.stringOp]
theorem q_sgt {a b : ByteArray} (hx : Env.ev E x = some (.string a)) (hy : Env.ev E y = some (.string b)) : OpQ X ⟨d, .binOp .gtr t x y u, ty, pos, af, gd⟩ E L (.bool (!(Op.bytesLess a.toList b.toList || decide (a = b)))) := fun _ w hk _ => by
  simp [execOp, hk.ev hx, hk.ev hy, eqGuard, binOp, Op.stringOp, ← sbeq_dec]
theorem q_sge {a b : ByteArray} (hx : Env.ev E x = some (.string a)) (hy : Env.ev E y = some (.string b)) : OpQ X ⟨d, .binOp .geq t x y u, ty, pos, af, gd⟩ E L (.bool (!(Op.bytesLess a.toList b.toList))) := fun _ w hk _ => by
  simp [execOp, hk.ev hx, hk.ev hy, eqGuard, binOp, Op.stringOp]
theorem q_cat {a b : ByteArray} (hx : Env.ev E x = some (.string a)) (hy : Env.ev E y = some (.string b)) (h : a.size + b.size ≤ 9223372036854775807) : OpQ X ⟨d, .binOp .add t x y u, ty, pos, af, gd⟩ E L (.string (a ++ b)) := fun _ w hk _ => by
  have hm : IntKind.i64.max = 9223372036854775807 := by decide
  have h9 : ¬ (((a.size + b.size : Nat) : Int) > IntKind.i64.max) := by rw [hm]; omega
  simp only [execOp, hk.ev hx, hk.ev hy, eqGuard, Sem.run_bind, Sem.run_pure]
  have : binOp .add t (.string a) (.string b) = Op.stringOp .add a b := rfl
  simp only [this, Op.stringOp, h9, if_false]
  simp
theorem q_sindex {s : ByteArray} {k : IntKind} {i : Int} (ht : X.P.underlying t = some .string) (hx : Env.ev E x = some (.string s)) (hy : Env.ev E y = some (.int k i)) (h0 : 0 ≤ i) (h1 : i.toNat < s.size) :
    OpQ X ⟨d, .index t x y, ty, pos, af, gd⟩ E L (.int .u8 (s[i.toNat]).toNat) := fun _ w hk _ => by
  simp [execOp, hk.ev hx, hk.ev hy, Instr.index, asIntOf, underlying, ht, h0, h1]
/-! nil -/
theorem q_pnil {p : Option Addr} {e : TypeId} (ht : X.P.underlying t = some (.pointer e)) (hx : Env.ev E x = some (.pointer p)) (hy : Env.ev E y = some (.pointer none)) : OpQ X ⟨d, .binOp .eql t x y u, ty, pos, af, gd⟩ E L (.bool p.isNone) := fun _ w hk _ => by
  simp only [execOp, hk.ev hx, hk.ev hy, eqGuard, Sem.run_bind, Sem.run_pure]
  simp [run_eql (P := X.P) (w := w) rfl (eq_ptr (p := p) 9999 ht)]
theorem q_pnn {p : Option Addr} {e : TypeId} (ht : X.P.underlying t = some (.pointer e)) (hx : Env.ev E x = some (.pointer p)) (hy : Env.ev E y = some (.pointer none)) : OpQ X ⟨d, .binOp .neq t x y u, ty, pos, af, gd⟩ E L (.bool p.isSome) := fun _ w hk _ => by
  simp only [execOp, hk.ev hx, hk.ev hy, eqGuard, Sem.run_bind, Sem.run_pure]
  cases p with
  | none => simp [run_neq (P := X.P) (w := w) rfl (eq_ptr (p := none) 9999 ht)]
  | some q => simp [run_neq (P := X.P) (w := w) rfl (eq_ptr (p := some q) 9999 ht)]
theorem q_slnil {p : Option Addr} {n c : Nat} {e : TypeId} (ht : X.P.underlying t = some (.slice e)) (hx : Env.ev E x = some (.slice p n c)) (hy : Env.ev E y = some (.slice none 0 0)) : OpQ X ⟨d, .binOp .eql t x y u, ty, pos, af, gd⟩ E L (.bool p.isNone) := fun _ w hk _ => by
  simp only [execOp, hk.ev hx, hk.ev hy, eqGuard, Sem.run_bind, Sem.run_pure]
  simp [run_eql (P := X.P) (w := w) rfl (eq_sl (p := p) (l := n) (c := c) 9999 ht)]
/-! tuples, functions -/
theorem q_extract {vs : List Value} {i : Nat} {v : Value} (hx : Env.ev E x = some (.tuple vs.toArray)) (hi : vs[i]? = some v) : OpQ X ⟨d, .extract x i, ty, pos, af, gd⟩ E L v := fun _ w hk _ => by
  simp [execOp, hk.ev hx, Instr.extract, hi]
theorem q_func {f : FuncId} {first captured : List Operand} {vs us : List Value} (h1 : Env.evs E first = some vs) (h2 : Env.evs E captured = some us) :
    OpQ X ⟨d, .makeFunc (.func f) first.toArray captured.toArray, ty, pos, af, gd⟩ E L (.func (.func f) vs.toArray us.toArray) := fun _ w hk _ => by
  simp [execOp, Instr.makeFunc, hk.evs h1, hk.evs h2]
/-! builtins that only look -/
theorem q_lenS {s : ByteArray} {a : TypeId} (ht : X.P.underlying a = some .string) (hx : Env.ev E x = some (.string s)) : OpQ X ⟨d, .call ⟨.builtin .len, [x].toArray, [a].toArray⟩, ty, pos, af, gd⟩ E L (.int .i64 s.size) := fun _ w hk _ => by
  simp [execOp, hk.ev hx, resolve, invoke, builtin, Builtin.len_, underlying, ht, goInt]
theorem q_len {p : Option Addr} {n c : Nat} {a e : TypeId} (ht : X.P.underlying a = some (.slice e)) (hx : Env.ev E x = some (.slice p n c)) : OpQ X ⟨d, .call ⟨.builtin .len, [x].toArray, [a].toArray⟩, ty, pos, af, gd⟩ E L (.int .i64 n) := fun _ w hk _ => by
  simp [execOp, hk.ev hx, resolve, invoke, builtin, Builtin.len_, underlying, ht, goInt]
theorem q_min {k : IntKind} {a b : Int} {ats : Array TypeId} (hx : Env.ev E x = some (.int k a)) (hy : Env.ev E y = some (.int k b)) : OpQ X ⟨d, .call ⟨.builtin .min, [x, y].toArray, ats⟩, ty, pos, af, gd⟩ E L (.int k (if b < a then b else a)) := fun _ w hk _ => by
  simp [execOp, hk.ev hx, hk.ev hy, resolve, invoke, builtin, Builtin.min_, Builtin.min2]
/-! cuts -/
theorem q_scut {s : ByteArray} {lo hi : Option Operand} {l h : Nat} (ht : X.P.underlying t = some .string) (hx : Env.ev E x = some (.string s))
    (hl : match lo with | none => l = 0 | some z => Env.ev E z = some (.int .i64 l)) (hh : match hi with | none => h = s.size | some z => Env.ev E z = some (.int .i64 h)) (h1 : l ≤ h) (h2 : h ≤ s.size) :
    OpQ X ⟨d, .slice t x lo hi none, ty, pos, af, gd⟩ E L (.string (s.extract l h)) := fun _ w hk _ => by
  cases lo <;> cases hi <;> simp only at hl hh
  · subst hl hh; simp [execOp, hk.ev hx, Instr.sliceAt, underlying, ht, Instr.slice, Instr.sliceBounds]
  · subst hl; simp [execOp, hk.ev hx, hk.ev hh, Instr.sliceAt, underlying, ht, Instr.slice, Instr.sliceBounds, Instr.sliceBound, asIntOf, h2]
  · subst hh; simp [execOp, hk.ev hx, hk.ev hl, Instr.sliceAt, underlying, ht, Instr.slice, Instr.sliceBounds, Instr.sliceBound, asIntOf, h1]
  · simp [execOp, hk.ev hx, hk.ev hl, hk.ev hh, Instr.sliceAt, underlying, ht, Instr.slice, Instr.sliceBounds, Instr.sliceBound, asIntOf, h1, h2]
/-- The address of what a cut leaves: at its capacity's end the model keeps the old one. -/
def cutAddr (p : Option Addr) (cap l sz : Nat) : Option Addr := if cap = l then p else p.map fun a => a.add (l * sz)
theorem q_cut {p : Option Addr} {n cap e sz bytes : Nat} {lo hi : Option Operand} {l h : Nat} (ht : slElem X.P t = some (e, sz, bytes)) (hx : Env.ev E x = some (.slice p n cap))
    (hl : match lo with | none => l = 0 | some z => Env.ev E z = some (.int .i64 l)) (hh : match hi with | none => h = n | some z => Env.ev E z = some (.int .i64 h)) (h1 : l ≤ h) (h2 : h ≤ cap) :
    OpQ X ⟨d, .slice t x lo hi none, ty, pos, af, gd⟩ E L (.slice (cutAddr p cap l sz) (h - l) (cap - l)) := fun _ w hk _ => by
  unfold slElem at ht
  cases hu : X.P.underlying t with
  | none => rw [hu] at ht; simp at ht
  | some ds =>
    cases ds <;> rw [hu] at ht <;> simp only [reduceCtorEq] at ht
    rename_i e'
    cases hi' : X.P.info? e' with
    | none => rw [hi'] at ht; simp at ht
    | some inf =>
      rw [hi'] at ht
      simp only [Option.some.injEq, Prod.mk.injEq] at ht
      obtain ⟨rfl, rfl, rfl⟩ := ht
      cases lo <;> cases hi <;> simp only at hl hh
      · subst hl hh; simp [execOp, hk.ev hx, Instr.sliceAt, underlying, hu, Instr.slice, Instr.sliceBounds, sizeOf, typeInfo, hi', cutAddr]
      · subst hl; simp [execOp, hk.ev hx, hk.ev hh, Instr.sliceAt, underlying, hu, Instr.slice, Instr.sliceBounds, Instr.sliceBound, asIntOf, h2, sizeOf, typeInfo, hi', cutAddr]
      · subst hh; simp [execOp, hk.ev hx, hk.ev hl, Instr.sliceAt, underlying, hu, Instr.slice, Instr.sliceBounds, Instr.sliceBound, asIntOf, h1, sizeOf, typeInfo, hi', cutAddr]
      · simp [execOp, hk.ev hx, hk.ev hl, hk.ev hh, Instr.sliceAt, underlying, hu, Instr.slice, Instr.sliceBounds, Instr.sliceBound, asIntOf, h1, h2, sizeOf, typeInfo, hi', cutAddr]
end
end Go.Proofs.YthnmoiilaaoooaaGreat.L
/-! The operations on memory: blocks, stores, rows that are frozen or owned, append. -/
namespace Go.Proofs.YthnmoiilaaoooaaGreat.L
open Go Go.RowKit

/-! ### Blocks of cells -/
def pv (b : Nat) (e : TypeId) (cs : List Value) : HP := pt b (.cells cs.toArray e (0, 0))
def fv (b : Nat) (e : TypeId) (cs : List Value) : HP := fz b (.cells cs.toArray e (0, 0))
theorem cell_of_heap {w : World} {b o : Nat} {c : Array Value} {e : TypeId} {fr : Nat × Nat} {v : Value} (h : w.heap[b]? = some (.cells c e fr)) (hv : c[o]? = some v) : w.cell? ⟨b, o, none⟩ = some v := by
  simp [World.cell?, h, hv]
theorem cell_pv {ρ : World} {L : List HP} {b o : Nat} {e : TypeId} {cs : List Value} {v : Value} (m : pv b e cs ∈ L) (hv : cs[o]? = some v) : ∀ w, St ρ L w → w.cell? ⟨b, o, none⟩ = some v := fun w hs =>
  cell_of_heap (hs.pt_heap m) (by simpa using hv)
theorem cell_fv {ρ : World} {L : List HP} {b o : Nat} {e : TypeId} {cs : List Value} {v : Value} (m : fv b e cs ∈ L) (hv : cs[o]? = some v) : ∀ w, St ρ L w → w.cell? ⟨b, o, none⟩ = some v := fun w hs =>
  cell_of_heap (hs.fz_heap m) (by simpa using hv)
theorem cells_pv {ρ : World} {L : List HP} {b : Nat} {e : TypeId} {cs : List Value} (m : pv b e cs ∈ L) : ∀ w, St ρ L w → ∀ j v, cs[j]? = some v → w.cell? ⟨b, 0 + j, none⟩ = some v := fun w hs j v hv => by
  rw [Nat.zero_add]; exact cell_pv m hv w hs
theorem cells_fv {ρ : World} {L : List HP} {b : Nat} {e : TypeId} {cs : List Value} (m : fv b e cs ∈ L) : ∀ w, St ρ L w → ∀ j v, cs[j]? = some v → w.cell? ⟨b, 0 + j, none⟩ = some v := fun w hs j v hv => by
  rw [Nat.zero_add]; exact cell_fv m hv w hs
theorem St.fzv {ρ : World} {b : Nat} {e : TypeId} {cs : List Value} {L : List HP} {w : World} (h : St ρ (pv b e cs :: L) w) : St ρ (fv b e cs :: L) w := h.freeze_pt

/-- The world with block b turned. -/
def putBlk (w : World) (b : Nat) (o : Obj) : World := { w with heap := w.heap.setIfInBounds b o }
theorem St.put {ρ : World} {L : List HP} {w : World} {b : Nat} {o : Obj} (h : St ρ (pt b o :: L) w) (o' : Obj) : St ρ (pt b o' :: L) (putBlk w b o') := by
  have hb := h.pt_heap (List.Mem.head _)
  have hlt : b < w.heap.size := (Array.getElem?_eq_some_iff.1 hb).1
  exact h.write rfl rfl rfl (by simp [putBlk, hlt]) (fun x hx => by simp [putBlk, Array.getElem?_setIfInBounds_ne (Ne.symm hx)])
theorem setCell_putBlk {w : World} {b o : Nat} {c : Array Value} {e : TypeId} {fr : Nat × Nat} (h : w.heap[b]? = some (.cells c e fr)) (v : Value) : w.setCell ⟨b, o, none⟩ v = putBlk w b (.cells (c.setIfInBounds o v) e fr) := by
  obtain ⟨hlt, hb⟩ := Array.getElem?_eq_some_iff.1 h
  unfold World.setCell putBlk
  congr 1
  apply Array.ext
  · simp
  · intro i h1 h2
    have h1' : i < w.heap.size := by simpa using h1
    rw [Array.getElem_setIfInBounds h1']
    simp only [Array.getElem_modify]
    by_cases hi : b = i
    · subst hi; simp [hb]
    · simp [hi]
theorem putBlk_putBlk (w : World) (b : Nat) (o o' : Obj) : putBlk (putBlk w b o) b o' = putBlk w b o' := by
  unfold putBlk; simp
theorem putBlk_self {w : World} {b : Nat} {o : Obj} (h : w.heap[b]? = some o) : putBlk w b o = w := by
  obtain ⟨hlt, hb⟩ := Array.getElem?_eq_some_iff.1 h
  unfold putBlk
  have : w.heap.setIfInBounds b o = w.heap := by
    apply Array.ext
    · simp
    · intro i h1 h2
      rw [Array.getElem_setIfInBounds (by simpa using h1)]
      split
      · subst_vars; rfl
      · rfl
  rw [this]
theorem heap_putBlk {w : World} {b : Nat} {o : Obj} (o' : Obj) (h : w.heap[b]? = some o) : (putBlk w b o').heap[b]? = some o' := by
  have hlt : b < w.heap.size := (Array.getElem?_eq_some_iff.1 h).1
  simp [putBlk, hlt]

/-- A row with vs written over it from 'at' on. -/
def spl (c : Array Value) (at_ : Nat) : List Value → Array Value
  | [] => c
  | v :: vs => spl (c.setIfInBounds at_ v) (at_ + 1) vs
theorem spl_size : ∀ (vs : List Value) (c : Array Value) (n : Nat), (spl c n vs).size = c.size
  | [], _, _ => rfl
  | v :: vs, c, n => by rw [spl, spl_size vs]; simp
theorem spl_get : ∀ (vs : List Value) (c : Array Value) (n j : Nat), n + vs.length ≤ c.size → (spl c n vs)[j]? = if n ≤ j ∧ j < n + vs.length then vs[j - n]? else c[j]?
  | [], c, n, j, _ => by rw [spl, if_neg (by simp only [List.length_nil]; omega)]
  | v :: vs, c, n, j, h => by
    simp only [List.length_cons] at h
    rw [spl, spl_get vs _ _ _ (by simp; omega)]
    have hn : n < c.size := by omega
    by_cases h1 : n + 1 ≤ j ∧ j < n + 1 + vs.length
    · rw [if_pos h1, if_pos (by simp only [List.length_cons]; omega)]
      rw [show j - n = (j - (n + 1)) + 1 by omega, List.getElem?_cons_succ]
    · rw [if_neg h1]
      by_cases h2 : j = n
      · subst h2; rw [if_pos (by simp)]; simp [hn]
      · rw [if_neg (by simp only [List.length_cons]; omega), Array.getElem?_setIfInBounds_ne (Ne.symm h2)]
theorem run_store_in {P : Program} {w : World} {b o : Nat} {c : Array Value} {e : TypeId} (h : w.heap[b]? = some (.cells c e (0, 0))) {v : Value} (hv : v.oneCell' = true) (ho : o < c.size) :
    (store ⟨b, o, none⟩ v).run P w = .ok () (putBlk w b (.cells (c.setIfInBounds o v) e (0, 0))) := by
  rw [run_store P w _ v _ hv]
  have h1 : w.cell? ⟨b, o, none⟩ = some c[o] := cell_of_heap h (by simp [ho])
  have h2 : w.frozen? ⟨b, o, none⟩ = false := by simp [World.frozen?, h]
  rw [h1]
  simp only [h2, Bool.false_eq_true, if_false]
  rw [setCell_putBlk h]
theorem run_storeCells {P : Program} {b o : Nat} {e : TypeId} : ∀ (vs : List Value) (i : Nat) (w : World) (c : Array Value), w.heap[b]? = some (.cells c e (0, 0)) → (∀ v ∈ vs, v.oneCell' = true) → o + i + vs.length ≤ c.size →
    (storeCells ⟨b, o, none⟩ vs i).run P w = .ok () (putBlk w b (.cells (spl c (o + i) vs) e (0, 0)))
  | [], i, w, c, h, _, _ => by simp [storeCells, spl, putBlk_self h]
  | v :: vs, i, w, c, h, hv, hl => by
    simp only [List.length_cons] at hl
    have h1 := run_store_in (P := P) h (hv v List.mem_cons_self) (o := o + i) (by omega)
    simp only [storeCells, Sem.run_bind, add_addr, h1, Result.andThen_ok]
    rw [run_storeCells vs (i + 1) _ (c.setIfInBounds (o + i) v) (heap_putBlk _ h) (fun u hu => hv u (List.mem_cons_of_mem _ hu)) (by simp; omega), putBlk_putBlk]
    rw [spl, show o + i + 1 = o + (i + 1) by omega]

/-! ### Kinds: what the cells of one element say -/
structure Kd (α : Type) where
  sz : Nat
  rd : Hp → α → List Value → Prop
  mono : ∀ {g g' x cs}, Hp.le g g' → rd g x cs → rd g' x cs
  len : ∀ {g x cs}, rd g x cs → cs.length = sz
  one : ∀ {g x cs}, rd g x cs → ∀ v ∈ cs, v.oneCell' = true
/-- A kind whose cells hang on no memory. -/
def Kd.flat {α : Type} (sz : Nat) (enc : α → List Value) (hl : ∀ x, (enc x).length = sz) (h1 : ∀ x, ∀ v ∈ enc x, v.oneCell' = true) : Kd α where
  sz := sz
  rd := fun _ x cs => cs = enc x
  mono := fun _ h => h
  len := fun h => h ▸ hl _
  one := fun h => h ▸ h1 _
def Kd.int (k : IntKind) : Kd Int := Kd.flat 1 (fun n => [.int k n]) (fun _ => rfl) (fun _ v h => by simp at h; subst h; rfl)
def Kd.str : Kd ByteArray := Kd.flat 1 (fun s => [.string s]) (fun _ => rfl) (fun _ v h => by simp at h; subst h; rfl)
def Kd.boolK : Kd Bool := Kd.flat 1 (fun b => [.bool b]) (fun _ => rfl) (fun _ v h => by simp at h; subst h; rfl)

/-- The cells from o on hold xs. -/
def rowAt {α : Type} (k : Kd α) (g : Hp) (c : Array Value) (o : Nat) (xs : List α) : Prop :=
  ∀ i x, xs[i]? = some x → ∃ cs, k.rd g x cs ∧ ∀ j v, cs[j]? = some v → c[o + i * k.sz + j]? = some v
theorem rowAt.mono {α : Type} {k : Kd α} {g g' : Hp} {c : Array Value} {o : Nat} {xs : List α} (hg : Hp.le g g') (h : rowAt k g c o xs) : rowAt k g' c o xs := fun i x hx =>
  let ⟨cs, hr, hc⟩ := h i x hx; ⟨cs, k.mono hg hr, hc⟩
/-- Frozen: the slice at p reads as xs. -/
def RowF {α : Type} (k : Kd α) (p : Option Addr) (xs : List α) : HP :=
  HP.per (fun g => xs = [] ∨ ∃ b o c e fr, p = some ⟨b, o, none⟩ ∧ g b = some (.cells c e fr) ∧ rowAt k g c o xs)
    (fun hg h => h.imp id fun ⟨b, o, c, e, fr, hp, hb, hr⟩ => ⟨b, o, c, e, fr, hp, hg _ _ hb, hr.mono hg⟩)
/-- Owned: the slice at p, of capacity cap, holds xs, and nobody else has its array. -/
def RowO {α : Type} (k : Kd α) (e : TypeId) (p : Option Addr) (cap : Nat) (xs : List α) : HP :=
  HP.own (fun g h => (p = none ∧ cap = 0 ∧ xs = []) ∨ ∃ b o c, p = some ⟨b, o, none⟩ ∧ xs.length ≤ cap ∧ h b = some (.cells c e (0, 0)) ∧ o + cap * k.sz ≤ c.size ∧ rowAt k g c o xs)
    (fun hg h => h.imp id fun ⟨b, o, c, hp, hl, hb, hs, hr⟩ => ⟨b, o, c, hp, hl, hb, hs, hr.mono hg⟩)
section
variable {α : Type} {k : Kd α} {ρ : World} {L : List HP} {w : World}
theorem rowF_addr {p : Option Addr} {xs : List α} (m : RowF k p xs ∈ L) (hne : xs ≠ []) : ∀ w, St ρ L w → ∃ b o, p = some ⟨b, o, none⟩ := fun _ hs =>
  hs.fact m (fun _ _ h => by
    rcases (h : _ ∨ _) with h | ⟨b, o, _, _, _, hp, _⟩
    · exact absurd h hne
    · exact ⟨b, o, hp⟩)
theorem rowO_addr {e : TypeId} {p : Option Addr} {cap : Nat} {xs : List α} (m : RowO k e p cap xs ∈ L) (hne : xs ≠ []) : ∀ w, St ρ L w → ∃ b o, p = some ⟨b, o, none⟩ := fun _ hs =>
  hs.fact m (fun _ _ h => by
    rcases (h : _ ∨ _) with ⟨_, _, h⟩ | ⟨b, o, _, hp, _⟩
    · exact absurd h hne
    · exact ⟨b, o, hp⟩)
theorem rowO_cap {e : TypeId} {p : Option Addr} {cap : Nat} {xs : List α} (m : RowO k e p cap xs ∈ L) : ∀ w, St ρ L w → xs.length ≤ cap := fun _ hs =>
  hs.fact m (fun _ _ h => by
    rcases (h : _ ∨ _) with ⟨_, _, h⟩ | ⟨b, o, _, hp, hl, _⟩
    · subst h; exact Nat.zero_le _
    · exact hl)
/-- The cells of element i of a frozen row: with what they say under the frozen heap. -/
theorem rowF_elem {b o : Nat} {xs : List α} {i : Nat} {x : α} (m : RowF k (some ⟨b, o, none⟩) xs ∈ L) (hx : xs[i]? = some x) (hs : St ρ L w) :
    ∃ g cs, Hp.le g (heapOf w) ∧ k.rd g x cs ∧ ∀ j v, cs[j]? = some v → w.cell? ⟨b, o + i * k.sz + j, none⟩ = some v := by
  obtain ⟨g, h, _, lg, _, d⟩ := hs.body
  obtain ⟨_, _, ha⟩ := sepAll_mem m d
  rcases (ha : _ ∨ _) with ha | ⟨b', o', c, e, fr, hp, hb, hr⟩
  · subst ha; simp at hx
  · cases hp
    obtain ⟨cs, hrd, hc⟩ := hr i x hx
    exact ⟨g, cs, lg, hrd, fun j v hv => cell_of_heap (lg _ _ hb) (hc j v hv)⟩
theorem rowO_elem {e : TypeId} {b o cap : Nat} {xs : List α} {i : Nat} {x : α} (m : RowO k e (some ⟨b, o, none⟩) cap xs ∈ L) (hx : xs[i]? = some x) (hs : St ρ L w) :
    ∃ g cs, Hp.le g (heapOf w) ∧ k.rd g x cs ∧ ∀ j v, cs[j]? = some v → w.cell? ⟨b, o + i * k.sz + j, none⟩ = some v := by
  obtain ⟨g, h, _, lg, lh, d⟩ := hs.body
  obtain ⟨h1, l1, ha⟩ := sepAll_mem m d
  rcases (ha : _ ∨ _) with ⟨hp, _⟩ | ⟨b', o', c, hp, _, hb, _, hr⟩
  · cases hp
  · cases hp
    obtain ⟨cs, hrd, hc⟩ := hr i x hx
    exact ⟨g, cs, lg, hrd, fun j v hv => cell_of_heap (lh _ _ (l1 _ _ hb)) (hc j v hv)⟩
end
/-- Of flat kinds: cell j of element i. -/
theorem rowF_cell {α : Type} {n : Nat} {enc : α → List Value} {hl : ∀ x, (enc x).length = n} {h1 : ∀ x, ∀ v ∈ enc x, v.oneCell' = true} {ρ : World} {L : List HP} {b o : Nat} {xs : List α} {i j : Nat} {x : α} {v : Value}
    (m : RowF (Kd.flat n enc hl h1) (some ⟨b, o, none⟩) xs ∈ L) (hx : xs[i]? = some x) (hv : (enc x)[j]? = some v) : ∀ w, St ρ L w → w.cell? ⟨b, o + i * n + j, none⟩ = some v := fun _ hs => by
  obtain ⟨_, cs, _, hrd, hc⟩ := rowF_elem m hx hs
  cases hrd
  exact hc j v hv
theorem rowO_cell {α : Type} {n : Nat} {enc : α → List Value} {hl : ∀ x, (enc x).length = n} {h1 : ∀ x, ∀ v ∈ enc x, v.oneCell' = true} {ρ : World} {L : List HP} {e : TypeId} {b o cap : Nat} {xs : List α} {i j : Nat} {x : α} {v : Value}
    (m : RowO (Kd.flat n enc hl h1) e (some ⟨b, o, none⟩) cap xs ∈ L) (hx : xs[i]? = some x) (hv : (enc x)[j]? = some v) : ∀ w, St ρ L w → w.cell? ⟨b, o + i * n + j, none⟩ = some v := fun _ hs => by
  obtain ⟨_, cs, _, hrd, hc⟩ := rowO_elem m hx hs
  cases hrd
  exact hc j v hv
/-! ### Rows out of blocks, and one out of the other -/
section
variable {α : Type} {k : Kd α} {ρ : World} {L : List HP} {w : World}
theorem rowF_nil (p : Option Addr) (h : St ρ L w) : St ρ (RowF k p ([] : List α) :: L) w := by
  obtain ⟨g, q, a, b, c, d⟩ := h.body
  exact ⟨h.os, h.tape, h.output, g, q, a, b, c, fun _ => none, q, fun _ => .inl rfl, Hp.none_le _, Hp.le_refl _, .inl rfl, d⟩
theorem rowO_nil (e : TypeId) (h : St ρ L w) : St ρ (RowO k e none 0 ([] : List α) :: L) w := by
  obtain ⟨g, q, a, b, c, d⟩ := h.body
  exact ⟨h.os, h.tape, h.output, g, q, a, b, c, fun _ => none, q, fun _ => .inl rfl, Hp.none_le _, Hp.le_refl _, .inl ⟨rfl, rfl, rfl⟩, d⟩
theorem rowO_freeze {e : TypeId} {p : Option Addr} {cap : Nat} {xs : List α} (h : St ρ (RowO k e p cap xs :: L) w) : St ρ (RowF k p xs :: L) w :=
  h.freeze (fun g hh u hg hu ha => by
    rcases (ha : _ ∨ _) with ⟨_, _, h⟩ | ⟨b, o, c, hp, _, hb, _, hr⟩
    · exact .inl h
    · exact .inr ⟨b, o, c, e, (0, 0), hp, hu _ _ hb, hr.mono hg⟩)
end

/-! ### A row that may be read: frozen, or owned -/
def IsRow {α : Type} (A : HP) (k : Kd α) (p : Option Addr) (xs : List α) : Prop :=
  ∀ g h, A.holds g h → xs = [] ∨ ∃ b o c e fr, p = some ⟨b, o, none⟩ ∧ (g b = some (.cells c e fr) ∨ h b = some (.cells c e fr)) ∧ rowAt k g c o xs
theorem isF {α : Type} {k : Kd α} {p : Option Addr} {xs : List α} : IsRow (RowF k p xs) k p xs := fun _ _ h =>
  (h : _ ∨ _).imp id fun ⟨b, o, c, e, fr, hp, hb, hr⟩ => ⟨b, o, c, e, fr, hp, .inl hb, hr⟩
theorem isO {α : Type} {k : Kd α} {e : TypeId} {p : Option Addr} {cap : Nat} {xs : List α} : IsRow (RowO k e p cap xs) k p xs := fun _ _ h =>
  (h : _ ∨ _).imp (fun h => h.2.2) fun ⟨b, o, c, hp, _, hb, _, hr⟩ => ⟨b, o, c, e, (0, 0), hp, .inr hb, hr⟩
theorem row_addr {α : Type} {k : Kd α} {ρ : World} {L : List HP} {A : HP} {p : Option Addr} {xs : List α} (hA : IsRow A k p xs) (m : A ∈ L) (hne : xs ≠ []) : ∀ w, St ρ L w → ∃ b o, p = some ⟨b, o, none⟩ := fun _ hs =>
  hs.fact m (fun g h ha => by
    rcases hA g h ha with h | ⟨b, o, _, _, _, hp, _⟩
    · exact absurd h hne
    · exact ⟨b, o, hp⟩)
theorem row_none {α : Type} {k : Kd α} {ρ : World} {L : List HP} {A : HP} {xs : List α} (hA : IsRow A k none xs) (m : A ∈ L) : ∀ w, St ρ L w → xs = [] := fun _ hs =>
  hs.fact m (fun g h ha => by
    rcases hA g h ha with h | ⟨b, o, _, _, _, hp, _⟩
    · exact h
    · cases hp)
theorem row_elem {α : Type} {k : Kd α} {ρ : World} {L : List HP} {w : World} {A : HP} {b o : Nat} {xs : List α} {i : Nat} {x : α} (hA : IsRow A k (some ⟨b, o, none⟩) xs) (m : A ∈ L) (hx : xs[i]? = some x) (hs : St ρ L w) :
    ∃ g cs, Hp.le g (heapOf w) ∧ k.rd g x cs ∧ ∀ j v, cs[j]? = some v → w.cell? ⟨b, o + i * k.sz + j, none⟩ = some v := by
  obtain ⟨g, h, _, lg, lh, d⟩ := hs.body
  obtain ⟨h1, l1, ha⟩ := sepAll_mem m d
  rcases hA g h1 ha with ha | ⟨b', o', c, e, fr, hp, hb, hr⟩
  · subst ha; simp at hx
  · cases hp
    obtain ⟨cs, hrd, hc⟩ := hr i x hx
    have hb' : w.heap[b]? = some (.cells c e fr) := hb.elim (fun hb => lg _ _ hb) (fun hb => lh _ _ (l1 _ _ hb))
    exact ⟨g, cs, lg, hrd, fun j v hv => cell_of_heap hb' (hc j v hv)⟩
theorem row_cell {α : Type} {n : Nat} {enc : α → List Value} {hl : ∀ x, (enc x).length = n} {h1 : ∀ x, ∀ v ∈ enc x, v.oneCell' = true} {ρ : World} {L : List HP} {A : HP} {b o : Nat} {xs : List α} {i j : Nat} {x : α} {v : Value}
    (hA : IsRow A (Kd.flat n enc hl h1) (some ⟨b, o, none⟩) xs) (m : A ∈ L) (hx : xs[i]? = some x) (hv : (enc x)[j]? = some v) : ∀ w, St ρ L w → w.cell? ⟨b, o + i * n + j, none⟩ = some v := fun _ hs => by
  obtain ⟨_, cs, _, hrd, hc⟩ := row_elem hA m hx hs
  cases hrd
  exact hc j v hv
end Go.Proofs.YthnmoiilaaoooaaGreat.L
/-! The operations that make or turn memory: variables, structs, stores, literals, append. -/
namespace Go.Proofs.YthnmoiilaaoooaaGreat.L
open Go Go.RowKit

/-! ### Lists of cells, turned at a place: relations, so that what comes out is laid out -/
inductive SetAt : List Value → Nat → Value → List Value → Prop where
  | here {x v xs} : SetAt (x :: xs) 0 v (v :: xs)
  | there {x v xs ys n} : SetAt xs n v ys → SetAt (x :: xs) (n + 1) v (x :: ys)
theorem SetAt.spec {xs ys : List Value} {n : Nat} {v : Value} (h : SetAt xs n v ys) : ys = xs.set n v ∧ n < xs.length := by
  induction h with
  | here => exact ⟨rfl, by simp⟩
  | there _ ih => exact ⟨by rw [List.set_cons_succ, ← ih.1], by simp; exact ih.2⟩
inductive SetN : List Value → Nat → List Value → List Value → Prop where
  | nil {xs n} : SetN xs n [] xs
  | cons {xs ys zs n v vs} : SetAt xs n v ys → SetN ys (n + 1) vs zs → SetN xs n (v :: vs) zs
theorem SetN.spec {xs ys vs : List Value} {n : Nat} (h : SetN xs n vs ys) : spl xs.toArray n vs = ys.toArray ∧ (vs = [] ∨ n + vs.length ≤ xs.length) := by
  induction h with
  | nil => exact ⟨rfl, .inl rfl⟩
  | cons h1 _ ih =>
    obtain ⟨e1, l1⟩ := h1.spec
    obtain ⟨e2, l2⟩ := ih
    refine ⟨?_, .inr ?_⟩
    · rw [spl, ← e2, e1]; simp
    · rcases l2 with rfl | l2
      · simp; omega
      · rw [e1] at l2; simp at l2 ⊢; omega
inductive Fill (place : Nat → Option (Nat × Nat)) : List Value → List (Nat × Value) → List Value → Prop where
  | nil {xs} : Fill place xs [] xs
  | cons {xs ys zs i v u us rest off size} : place i = some (off, size) → v.cells = (u :: us).toArray → us.length + 1 = size → SetN xs off (u :: us) ys → Fill place ys rest zs → Fill place xs ((i, v) :: rest) zs
theorem foldl_spl : ∀ (vs : List Value) (c : Array Value) (n k : Nat), (vs.toArray.zipIdx k).foldl (fun cs (p : Value × Nat) => cs.setIfInBounds (n + p.2) p.1) c = spl c (n + k) vs
  | [], c, n, k => by rw [Array.zipIdx_toArray]; simp [spl]
  | v :: vs, c, n, k => by
    have := foldl_spl vs (c.setIfInBounds (n + k) v) n (k + 1)
    rw [spl, show n + k + 1 = n + (k + 1) by omega, ← this, Array.zipIdx_toArray, Array.zipIdx_toArray, List.zipIdx_cons]
    simp
theorem Fill.spec {place : Nat → Option (Nat × Nat)} {xs ys : List Value} {parts : List (Nat × Value)} (h : Fill place xs parts ys) : Instr.fill place xs.toArray parts = some ys.toArray := by
  induction h with
  | nil => rfl
  | @cons xs ys zs i v u us rest off size hp hv hl hs _ ih =>
    obtain ⟨e, l⟩ := hs.spec
    have h1 : v.cells.size = size := by rw [hv]; simpa using hl
    have h2 : ¬ (off + v.cells.size > xs.toArray.size) := by
      rw [h1, ← hl]
      rcases l with l | l
      · cases l
      · simp at l ⊢; omega
    have h3 : (v.cells.zipIdx.foldl (fun cs (p : Value × Nat) => cs.setIfInBounds (off + p.2) p.1) xs.toArray) = ys.toArray := by
      rw [hv, ← e]; exact foldl_spl (u :: us) xs.toArray off 0
    have h3' : (v.cells.zipIdx.foldl (fun cs x => match x with | (c, j) => cs.setIfInBounds (off + j) c) xs.toArray) = ys.toArray := h3
    have h4 : ¬ (v.cells.size ≠ size) := fun h => h h1
    simp only [Instr.fill, hp, h4, h2, or_self, if_false, decide_eq_true_eq, Bool.or_eq_true, h3']
    simpa using ih

/-! ### What the tables say of a struct's fields, and of a literal's zeros -/
def structTab (P : Program) (t : TypeId) : Option (List (Nat × Nat) × List Value) :=
  match P.underlying t, (P.info? t).bind (·.zero) with
  | some (.struct fs), some z => ((fs.toList.mapM fun f => (P.info? f.type).map fun i => (f.offset, i.size)) : Option (List (Nat × Nat))).map fun l => (l, z.cells.toList)
  | _, _ => none
def slZeros (P : Program) (t : TypeId) (len : Nat) : Option (TypeId × Nat × List Value) :=
  match P.underlying t with
  | some (.slice e) => match P.info? e with
    | some i => match i.zero with
      | some z => if len * i.size > 2 ^ 24 then none else if len * i.size = 0 then none else some (e, i.size, ((Array.range (len * i.size)).map (fun j => z.cells[j % z.cells.size]!)).toList)
      | none => none
    | none => none
  | _ => none
def Env.parts (E : Env) : List (Nat × Operand) → Option (List (Nat × Value))
  | [] => some []
  | (i, x) :: l => match Env.ev E x, Env.parts E l with | some v, some vs => some ((i, v) :: vs) | _, _ => none
theorem Know.parts {N : Nat} {E : Env} {a : Act} (h : Know N E a) : ∀ {l : List (Nat × Operand)} {vs : List (Nat × Value)}, Env.parts E l = some vs → l.map (fun (i, x) => (i, a.eval x)) = vs
  | [], vs, e => by cases e; rfl
  | (i, x) :: l, vs, e => by
    simp only [Env.parts] at e
    cases hx : Env.ev E x with
    | none => rw [hx] at e; simp at e
    | some v =>
      cases hl : Env.parts E l with
      | none => rw [hx, hl] at e; simp at e
      | some us =>
        rw [hx, hl] at e
        cases e
        have := h.parts hl
        rw [List.map_cons, this]
        simp only [h.ev hx]
theorem mapM_places {P : Program} {w : World} : ∀ (fs : List Field) (l : List (Nat × Nat)), (fs.mapM (m := Option) fun f => (P.info? f.type).map fun i => (f.offset, i.size)) = some l →
    (fs.mapM (m := Sem) fun f => do pure (f.offset, ← sizeOf f.type)).run P w = .ok l w
  | [], l, h => by simp at h; subst h; rfl
  | f :: fs, l, h => by
    rw [List.mapM_cons] at h ⊢
    cases hi : P.info? f.type with
    | none => rw [hi] at h; simp at h
    | some i =>
      rw [hi] at h
      cases hr : fs.mapM (m := Option) fun f => (P.info? f.type).map fun i => (f.offset, i.size) with
      | none => rw [hr] at h; simp at h
      | some l' =>
        rw [hr] at h
        simp at h
        subst h
        have := mapM_places (P := P) (w := w) fs l' hr
        simp only [Sem.run_bind, Sem.run_pure, sizeOf, typeInfo, run_program, Result.andThen_ok, hi] at this ⊢
        rw [this]
        rfl
section
variable {X : Fx} {E : Env} {L : List HP} {d : Option Tmp} {ty : TypeId} {pos : String} {af : Array Edge} {gd : Option (Nat × Bool)} {t : TypeId}
theorem q_build {parts : List (Nat × Operand)} {vs : List (Nat × Value)} {places : List (Nat × Nat)} {zeros cs : List Value} (ht : structTab X.P t = some (places, zeros)) (hp : Env.parts E parts = some vs)
    (hf : Fill (fun i => places[i]?) zeros vs cs) : OpQ X ⟨d, .build t parts.toArray, ty, pos, af, gd⟩ E L (.agg cs.toArray) := fun a w hk _ => by
  unfold structTab at ht
  cases hu : X.P.underlying t with
  | none => rw [hu] at ht; simp at ht
  | some ds =>
    cases hz : (X.P.info? t).bind (·.zero) with
    | none => rw [hu, hz] at ht; cases ds <;> simp at ht
    | some z =>
      rw [hu, hz] at ht
      cases ds <;> simp only [reduceCtorEq] at ht
      rename_i fs
      cases hm : fs.toList.mapM (m := Option) fun f => (X.P.info? f.type).map fun i => (f.offset, i.size) with
      | none => rw [hm] at ht; simp at ht
      | some l =>
        rw [hm] at ht
        simp only [Option.map_some, Option.some.injEq, Prod.mk.injEq] at ht
        obtain ⟨rfl, rfl⟩ := ht
        obtain ⟨inf, hinf, hzz⟩ := Option.bind_eq_some_iff.1 hz
        have h1 := mapM_places (P := X.P) (w := w) fs.toList l hm
        have h2 := hf.spec
        have h3 := hk.parts hp
        have h4 : fs.mapM (m := Sem) (fun f => do pure (f.offset, ← sizeOf f.type)) = (do let l ← fs.toList.mapM (m := Sem) (fun f => do pure (f.offset, ← sizeOf f.type)); pure l.toArray) := by
          rw [Array.mapM_eq_mapM_toList]; rfl
        simp only [execOp, Instr.build, Sem.run_bind, zeroValue, typeInfo, run_program, Result.andThen_ok, hinf, Sem.run_pure, hzz, underlying, hu, h4, h1]
        have h5 : (parts.toArray.map fun (p : Nat × Operand) => (p.1, a.eval p.2)).toList = vs := by
          rw [← h3]; simp
        have h6 : (fun i : Nat => l.toArray[i]?) = (fun i : Nat => l[i]?) := by funext i; simp
        have h7 : z.cells = z.cells.toList.toArray := by simp
        rw [h6, h7]
        have h5' : (Array.map (fun x => match x with | (i, x) => (i, a.eval x)) parts.toArray).toList = vs := h5
        rw [h5', h2]
        rfl
/-- A new variable. -/
theorem l_box {e : TypeId} {x : Operand} {v : Value} {cs : List Value} (hx : Env.ev E x = some v) (hc : v.cells = cs.toArray) :
    OpL X ⟨d, .box e x, ty, pos, af, gd⟩ E L (fun v' L' => ∃ b, v' = .pointer (some ⟨b, 0, none⟩) ∧ L' = pv b e cs :: L) := fun a w hk hs => by
  unfold Oper.wp
  have : (execOp a.eval ⟨d, .box e x, ty, pos, af, gd⟩).run X.P w = .ok (.value (.pointer (some ⟨w.heap.size, 0, none⟩))) { w with heap := w.heap.push (.cells cs.toArray e) } := by
    simp [execOp, hk.ev hx, Instr.box, newVar, newRow, hc]
  rw [this]
  exact ⟨_, _, ⟨w.heap.size, rfl, rfl⟩, rfl, hs.alloc _⟩
theorem l_alloc {e : TypeId} {cs : List Value} (hz : zeroOf X.P e = some cs) :
    OpL X ⟨d, .alloc e, ty, pos, af, gd⟩ E L (fun v' L' => ∃ b, v' = .pointer (some ⟨b, 0, none⟩) ∧ L' = pv b e cs :: L) := fun a w hk hs => by
  unfold zeroOf at hz
  obtain ⟨z, hz1, hz2⟩ := Option.map_eq_some_iff.1 hz
  obtain ⟨inf, hinf, hzz⟩ := Option.bind_eq_some_iff.1 hz1
  have hc : z.cells = cs.toArray := by rw [← hz2]
  unfold Oper.wp
  have : (execOp a.eval ⟨d, .alloc e, ty, pos, af, gd⟩).run X.P w = .ok (.value (.pointer (some ⟨w.heap.size, 0, none⟩))) { w with heap := w.heap.push (.cells cs.toArray e) } := by
    simp [execOp, Instr.alloc, zeroValue, typeInfo, hinf, hzz, newVar, newRow, hc]
  rw [this]
  exact ⟨_, _, ⟨w.heap.size, rfl, rfl⟩, rfl, hs.alloc _⟩
/-- A slice literal. -/
theorem l_slice {n e sz : Nat} {parts : List (Nat × Operand)} {vs : List (Nat × Value)} {zeros cs : List Value} (ht : slZeros X.P t n = some (e, sz, zeros)) (hp : Env.parts E parts = some vs)
    (hf : Fill (fun i => some (i * sz, sz)) zeros vs cs) :
    OpL X ⟨d, .buildSlice t n parts.toArray, ty, pos, af, gd⟩ E L (fun v' L' => ∃ b, v' = .slice (some ⟨b, 0, none⟩) n n ∧ L' = pv b e cs :: L) := fun a w hk hs => by
  unfold slZeros at ht
  cases hu : X.P.underlying t with
  | none => rw [hu] at ht; simp at ht
  | some ds =>
    cases ds <;> rw [hu] at ht <;> simp only [reduceCtorEq] at ht
    rename_i e'
    cases hi : X.P.info? e' with
    | none => rw [hi] at ht; simp at ht
    | some i =>
      rw [hi] at ht
      simp only at ht
      cases hz : i.zero with
      | none => rw [hz] at ht; simp at ht
      | some z =>
        rw [hz] at ht
        simp only at ht
        by_cases h1 : n * i.size > 2 ^ 24
        · rw [if_pos h1] at ht; cases ht
        · rw [if_neg h1] at ht
          by_cases h0 : n * i.size = 0
          · rw [if_pos h0] at ht; cases ht
          · rw [if_neg h0] at ht
            simp only [Option.some.injEq, Prod.mk.injEq] at ht
            obtain ⟨rfl, rfl, hzs⟩ := ht
            have h2 := hf.spec
            have h3 := hk.parts hp
            have h5 : (Array.map (fun x => match x with | (i, x) => (i, a.eval x)) parts.toArray).toList = vs := by
              rw [← h3]; simp
            have h6 : ((Array.range (n * i.size)).map (fun j => z.cells[j % z.cells.size]!)) = zeros.toArray := by rw [← hzs]
            unfold Oper.wp
            have : (execOp a.eval ⟨d, .buildSlice t n parts.toArray, ty, pos, af, gd⟩).run X.P w = .ok (.value (.slice (some ⟨w.heap.size, 0, none⟩) n n)) { w with heap := w.heap.push (.cells cs.toArray e') } := by
              simp only [execOp, Instr.buildSlice, Sem.run_bind, underlying, run_program, Result.andThen_ok, hu, Sem.run_pure, sizeOf, typeInfo, hi, h1, if_false, h0, zeroValue, hz, h6, h5, h2, newRow, run_newObj]
            rw [this]
            exact ⟨_, _, ⟨w.heap.size, rfl, rfl⟩, rfl, hs.alloc _⟩
/-! stores -/
theorem l_store1 {x y : Operand} {b o : Nat} {e : TypeId} {v : Value} {cs cs' : List Value} {L1 : List HP} (ht : cellK X.P t = some (false, 1)) (hx : Env.ev E x = some (.pointer (some ⟨b, o, none⟩))) (hy : Env.ev E y = some v)
    (h1 : v.oneCell' = true) (hp : Pick L (pv b e cs) L1) (hset : SetAt cs o v cs') : OpL X ⟨d, .store t x y, ty, pos, af, gd⟩ E L (fun v' L' => v' = undef ∧ L' = pv b e cs' :: L1) := fun a w hk hs => by
  have hs' := hs.pick hp
  have hb : w.heap[b]? = some (.cells cs.toArray e (0, 0)) := hs'.pt_heap (List.Mem.head _)
  obtain ⟨e1, l1⟩ := hset.spec
  have hcells : v.cells = #[v] := by cases v <;> first | rfl | (simp [Value.oneCell'] at h1)
  have hrun := run_storeCells (P := X.P) (b := b) (o := o) [v] 0 w cs.toArray hb (by simpa using h1) (by simp; omega)
  unfold Oper.wp
  have : (execOp a.eval ⟨d, .store t x y, ty, pos, af, gd⟩).run X.P w = .ok .skip (putBlk w b (.cells cs'.toArray e (0, 0))) := by
    simp only [execOp, hk.ev hx, hk.ev hy, Instr.storeAt, Instr.sureAddr, storeVar, Sem.run_bind, Sem.run_pure, Result.andThen_ok, run_sizeK ht, hcells]
    simp only [List.size_toArray, List.length_cons, List.length_nil, Nat.zero_add, ne_eq, not_true_eq_false, if_false]
    rw [hrun]
    simp [spl, e1]
  rw [this]
  exact ⟨undef, _, ⟨rfl, rfl⟩, rfl, hs'.put _⟩
theorem l_storeN {x y : Operand} {b o n : Nat} {e : TypeId} {vs cs cs' : List Value} {L1 : List HP} (ht : cellK X.P t = some (true, n)) (hx : Env.ev E x = some (.pointer (some ⟨b, o, none⟩))) (hy : Env.ev E y = some (.agg vs.toArray))
    (hn : vs.length = n) (h1 : ∀ v ∈ vs, v.oneCell' = true) (hp : Pick L (pv b e cs) L1) (hset : SetN cs o vs cs') : OpL X ⟨d, .store t x y, ty, pos, af, gd⟩ E L (fun v' L' => v' = undef ∧ L' = pv b e cs' :: L1) := fun a w hk hs => by
  have hs' := hs.pick hp
  have hb : w.heap[b]? = some (.cells cs.toArray e (0, 0)) := hs'.pt_heap (List.Mem.head _)
  obtain ⟨e1, l1⟩ := hset.spec
  unfold Oper.wp
  have : (execOp a.eval ⟨d, .store t x y, ty, pos, af, gd⟩).run X.P w = .ok .skip (putBlk w b (.cells cs'.toArray e (0, 0))) := by
    simp only [execOp, hk.ev hx, hk.ev hy, Instr.storeAt, Instr.sureAddr, storeVar, Sem.run_bind, Sem.run_pure, Result.andThen_ok, run_sizeK ht, Value.cells]
    simp only [List.size_toArray, hn, ne_eq, not_true_eq_false, if_false]
    rcases l1 with rfl | l1
    · have e1 : cs.toArray = cs'.toArray := e1
      rw [← e1, putBlk_self hb]
      simp [storeCells]
    · rw [run_storeCells (P := X.P) vs 0 w cs.toArray hb h1 (by simp; omega), Nat.add_zero, e1]
      rfl
  rw [this]
  exact ⟨undef, _, ⟨rfl, rfl⟩, rfl, hs'.put _⟩
end
end Go.Proofs.YthnmoiilaaoooaaGreat.L
