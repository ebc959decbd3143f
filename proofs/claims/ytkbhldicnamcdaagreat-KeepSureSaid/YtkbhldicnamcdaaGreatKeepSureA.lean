/- Whatever stays at a crash, the state behind all changes that were answered OK is there, or also the one more that was not; no condition. -/
import Derived.OrdersHeld
import Derived.KernelRfl
import Derived.Below
import Derived.IntWalk
import Derived.Laws.World
import Derived.Lib.Strings
import Derived.Laws.BytesString
import Derived.ChangeArms
import Derived.RowKit
import Derived.ChangeMaps
import Derived.ChangeMaps5
import Derived.Carry
import Derived.OpenShut
import Derived.Laws.StructEq
import Derived.Test.YtkbhldicnamcdaaGreatProg
open Go.Proofs.Tryz
set_option linter.unusedVariables false
set_option linter.unusedSimpArgs false
set_option maxRecDepth 100000
namespace Go.Proofs.YtkbhldicnamcdaaGreat.L
open Go
abbrev Hp := Nat → Option Obj
def Hp.le (g h : Hp) : Prop := ∀ b o, g b = some o → h b = some o
def Hp.apart (g h : Hp) : Prop := ∀ b, g b = none ∨ h b = none
def heapOf (w : World) : Hp := fun b => w.heap[b]?
theorem Hp.le_refl (g : Hp) : Hp.le g g := fun _ _ h => h
theorem Hp.le_trans {a b c : Hp} (h : Hp.le a b) (k : Hp.le b c) : Hp.le a c := fun x o e => k x o (h x o e)
theorem Hp.apart_symm {a b : Hp} (h : Hp.apart a b) : Hp.apart b a := fun x => (h x).symm
theorem Hp.apart_le {a b a' b' : Hp} (h : Hp.apart a b) (ha : Hp.le a' a) (hb : Hp.le b' b) : Hp.apart a' b' := fun x => by
 rcases h x with e | e
 ·refine .inl ?_
  cases hx : a' x with
  | none => rfl
  | some o => rw [ha x o hx] at e; cases e
 ·refine .inr ?_
  cases hx : b' x with
  | none => rfl
  | some o => rw [hb x o hx] at e; cases e
structure HP where
 pers : Bool
 holds : Hp → Hp → Prop
 mono : ∀ {g g' h}, Hp.le g g' → holds g h → holds g' h
 free : pers = true → ∀ {g h h'}, holds g h → holds g h'
def HP.own (p : Hp → Hp → Prop) (m : ∀ {g g' h}, Hp.le g g' → p g h → p g' h) : HP := ⟨false, p, m, fun h => by cases h⟩
theorem Hp.none_le (h : Hp) : Hp.le (fun _ => none) h := fun _ _ e => by cases e
def HP.per (p : Hp → Prop) (m : ∀ {g g'}, Hp.le g g' → p g → p g') : HP := ⟨true, fun g _ => p g, fun h k => m h k, fun _ _ _ _ h => h⟩
def sepAll : List HP → Hp → Hp → Prop
 | [], _, _ => True
 | A :: L, g, h => ∃ h1 h2, Hp.apart h1 h2 ∧ Hp.le h1 h ∧ Hp.le h2 h ∧ A.holds g h1 ∧ sepAll L g h2
theorem sepAll_mono : ∀ {L : List HP} {g g' h h' : Hp}, Hp.le g g' → Hp.le h h' → sepAll L g h → sepAll L g' h'
 | [], _, _, _, _, _, _, _ => trivial
 | A :: _, _, _, _, _, hg, hh, ⟨h1, h2, ap, l1, l2, ha, hl⟩ =>
  ⟨h1, h2, ap, Hp.le_trans l1 hh, Hp.le_trans l2 hh, A.mono hg ha, sepAll_mono hg (Hp.le_refl _) hl⟩
structure St (ρ : World) (L : List HP) (w : World) : Prop where
 os : w.os = ρ.os
 tape : w.tape = ρ.tape
 output : w.output = ρ.output ∧ ρ.drawn ≤ w.drawn
 body : ∃ g h, Hp.apart g h ∧ Hp.le g (heapOf w) ∧ Hp.le h (heapOf w) ∧ sepAll L g h
theorem St.nil {ρ : World} {L : List HP} {w : World} (h : St ρ L w) : St ρ [] w :=
 let ⟨g, k, a, b, c, _⟩ := h.body
 ⟨h.os, h.tape, h.output, g, k, a, b, c, trivial⟩
theorem St.drewN {ρ : World} {L : List HP} {w : World} (h : St ρ L w) (n : Nat) (hn : w.drawn ≤ n) : St ρ L { w with drawn := n } := ⟨h.os, h.tape, ⟨h.output.1, Nat.le_trans h.output.2 hn⟩, h.body⟩
inductive Pick : List HP → HP → List HP → Prop where
 | here {A L} : Pick (A :: L) A L
 | there {A B L L'} : Pick L A L' → Pick (B :: L) A (B :: L')
theorem Pick.sep {L : List HP} {A : HP} {L' : List HP} (p : Pick L A L') : ∀ {g h}, sepAll L g h → sepAll (A :: L') g h := by
 induction p with
 | here => exact fun h => h
 | there _ ih =>
  rintro g h ⟨h1, h2, ap, l1, l2, hb, hl⟩
  obtain ⟨k1, k2, ap', m1, m2, ha, hl'⟩ := ih hl
  have hle : ∀ x o, (match h1 x with | some o => some o | none => k2 x) = some o → h x = some o := by
   intro x o e
   cases hx : h1 x with
   | some o' => rw [hx] at e; cases e; exact l1 x _ hx
   | none => rw [hx] at e; exact l2 x o (m2 x o e)
  refine ⟨k1, fun x => match h1 x with | some o => some o | none => k2 x, ?_, Hp.le_trans m1 l2, hle, ha, h1, k2, ?_, ?_, ?_, hb, hl'⟩
  ·intro x
   rcases Hp.apart_le ap (Hp.le_refl _) m1 x with e | e
   ·rcases ap' x with e' | e'
    ·exact .inl e'
    ·refine .inr ?_; show (match h1 x with | some o => some o | none => k2 x) = none; rw [e]; exact e'
   ·exact .inl e
  ·exact Hp.apart_le ap (Hp.le_refl _) m2
  ·intro x o e; show (match h1 x with | some o => some o | none => k2 x) = some o; rw [e]
  ·intro x o e
   show (match h1 x with | some o => some o | none => k2 x) = some o
   rcases Hp.apart_le ap (Hp.le_refl _) m2 x with e' | e'
   ·rw [e']; exact e
   ·rw [e'] at e; cases e
theorem St.pick {ρ : World} {L : List HP} {A : HP} {L' : List HP} {w : World} (p : Pick L A L') (h : St ρ L w) : St ρ (A :: L') w :=
 let ⟨g, k, a, b, c, d⟩ := h.body
 ⟨h.os, h.tape, h.output, g, k, a, b, c, p.sep d⟩
theorem sepAll_mem {L : List HP} {A : HP} (m : A ∈ L) : ∀ {g h}, sepAll L g h → ∃ h1, Hp.le h1 h ∧ A.holds g h1 := by
 induction m with
 | head => rintro g h ⟨h1, _, _, l1, _, ha, _⟩; exact ⟨h1, l1, ha⟩
 | tail _ _ ih =>
  rintro g h ⟨_, h2, _, _, l2, _, hl⟩
  obtain ⟨k, lk, hk⟩ := ih hl
  exact ⟨k, Hp.le_trans lk l2, hk⟩
theorem St.tail {ρ : World} {A : HP} {L : List HP} {w : World} (h : St ρ (A :: L) w) : St ρ L w :=
 let ⟨g, _, a, b, c, _, h2, _, _, l2, _, d⟩ := h.body
 ⟨h.os, h.tape, h.output, g, h2, Hp.apart_le a (Hp.le_refl _) l2, b, Hp.le_trans l2 c, d⟩
theorem St.derive {ρ : World} {A B : HP} {L : List HP} {w : World} (m : A ∈ L) (hp : B.pers = true) (hi : ∀ g h, A.holds g h → B.holds g h) (h : St ρ L w) : St ρ (B :: L) w := by
 obtain ⟨g, k, a, b, c, d⟩ := h.body
 obtain ⟨_, _, ha⟩ := sepAll_mem m d
 exact ⟨h.os, h.tape, h.output, g, k, a, b, c, fun _ => none, k, fun _ => .inl rfl, Hp.none_le _, Hp.le_refl _, B.free hp (hi _ _ ha), d⟩
theorem St.turn {ρ : World} {A B : HP} {L : List HP} {w : World} (hi : ∀ g h, A.holds g h → B.holds g h) (h : St ρ (A :: L) w) : St ρ (B :: L) w :=
 let ⟨g, k, a, b, c, h1, h2, ap, l1, l2, ha, d⟩ := h.body
 ⟨h.os, h.tape, h.output, g, k, a, b, c, h1, h2, ap, l1, l2, hi _ _ ha, d⟩
theorem St.fact {ρ : World} {A : HP} {φ : Prop} {L : List HP} {w : World} (m : A ∈ L) (hi : ∀ g h, A.holds g h → φ) (h : St ρ L w) : φ := by
 obtain ⟨g, k, a, b, c, d⟩ := h.body
 obtain ⟨_, _, ha⟩ := sepAll_mem m d
 exact hi _ _ ha
inductive Give : List HP → List HP → List HP → Prop where
 | nil {L} : Give L [] L
 | own {L A L1 M L2} : Pick L A L1 → Give L1 M L2 → Give L (A :: M) L2
 | per {L A M L2} : A.pers = true → A ∈ L → Give L M L2 → Give L (A :: M) L2
theorem sepAll_give {L M L' : List HP} (p : Give L M L') : ∀ {g h}, sepAll L g h → sepAll (M ++ L') g h := by
 induction p with
 | nil => exact fun h => h
 | own pk _ ih =>
  intro g h hs
  obtain ⟨h1, h2, ap, l1, l2, ha, hl⟩ := pk.sep hs
  exact ⟨h1, h2, ap, l1, l2, ha, ih hl⟩
 | per hp m _ ih =>
  intro g h hs
  obtain ⟨_, _, ha⟩ := sepAll_mem m hs
  exact ⟨fun _ => none, h, fun _ => .inl rfl, Hp.none_le _, Hp.le_refl _, HP.free _ hp ha, ih hs⟩
theorem St.give {ρ : World} {L M L' : List HP} {w : World} (p : Give L M L') (h : St ρ L w) : St ρ (M ++ L') w :=
 let ⟨g, k, a, b, c, d⟩ := h.body
 ⟨h.os, h.tape, h.output, g, k, a, b, c, sepAll_give p d⟩
theorem sepAll_left {M L : List HP} : ∀ {g h}, sepAll (M ++ L) g h → sepAll M g h := by
 induction M with
 | nil => exact fun _ => trivial
 | cons A M ih => rintro g h ⟨h1, h2, ap, l1, l2, ha, hl⟩; exact ⟨h1, h2, ap, l1, l2, ha, ih hl⟩
theorem St.sub {ρ : World} {L M L' : List HP} {w : World} (p : Give L M L') (h : St ρ L w) : St ρ M w :=
 let ⟨g, k, a, b, c, d⟩ := h.body
 ⟨h.os, h.tape, h.output, g, k, a, b, c, sepAll_left (sepAll_give p d)⟩
inductive Drop : List HP → List HP → Prop where
 | refl {L} : Drop L L
 | skip {A L L'} : Drop L L' → Drop (A :: L) L'
theorem Drop.sep {L L' : List HP} (d : Drop L L') : ∀ {g h}, sepAll L g h → sepAll L' g h := by
 induction d with
 | refl => exact fun h => h
 | skip _ ih =>
  rintro g h ⟨_, h2, _, _, l2, _, hl⟩
  exact sepAll_mono (Hp.le_refl _) l2 (ih hl)
theorem Drop.app {L L' : List HP} (M : List HP) (d : Drop L L') : ∀ {g h}, sepAll (M ++ L) g h → sepAll (M ++ L') g h := by
 induction M with
 | nil => exact fun h => d.sep h
 | cons A M ih =>
  rintro g h ⟨h1, h2, ap, l1, l2, ha, hl⟩
  exact ⟨h1, h2, ap, l1, l2, ha, ih hl⟩
theorem St.fit {ρ : World} {Lc M L' L : List HP} {w : World} (h : St ρ Lc w) (g : Give Lc M L') (d : Drop L' L) : St ρ (M ++ L) w :=
 let ⟨g', k, a, b, c, s⟩ := (h.give g).body
 ⟨h.os, h.tape, h.output, g', k, a, b, c, d.app M s⟩
def pt (b : Nat) (o : Obj) : HP := HP.own (fun _ h => h b = some o) (fun _ h => h)
def fz (b : Nat) (o : Obj) : HP := HP.per (fun g => g b = some o) (fun hg h => hg _ _ h)
def old (W : World) : HP := HP.per (fun g => Hp.le (heapOf W) g) (fun hg h => Hp.le_trans h hg)
def pure_ (φ : Prop) : HP := HP.per (fun _ => φ) (fun _ h => h)
theorem St.pt_heap {ρ : World} {b : Nat} {o : Obj} {L : List HP} {w : World} (m : pt b o ∈ L) (h : St ρ L w) : w.heap[b]? = some o := by
 obtain ⟨g, k, _, _, c, d⟩ := h.body
 obtain ⟨h1, l1, ha⟩ := sepAll_mem m d
 exact c _ _ (l1 _ _ ha)
theorem St.fz_heap {ρ : World} {b : Nat} {o : Obj} {L : List HP} {w : World} (m : fz b o ∈ L) (h : St ρ L w) : w.heap[b]? = some o := by
 obtain ⟨g, k, _, hb, _, d⟩ := h.body
 obtain ⟨_, _, ha⟩ := sepAll_mem m d
 exact hb _ _ ha
theorem St.old_below {ρ W : World} {L : List HP} {w : World} (m : old W ∈ L) (ho : ρ.os = W.os) (ht : ρ.tape = W.tape) (hu : ρ.output = W.output) (h : St ρ L w) : RowKit.Below W.heap.size W w := by
 obtain ⟨g, k, _, hb, _, d⟩ := h.body
 obtain ⟨_, _, ha⟩ := sepAll_mem m d
 have key : ∀ i, i < W.heap.size → w.heap[i]? = W.heap[i]? := fun i hi => by
  have e : W.heap[i]? = some W.heap[i] := Array.getElem?_eq_getElem hi
  rw [e]; exact hb _ _ (ha _ _ e)
 refine ⟨h.os.trans ho, h.tape.trans ht, h.output.1.trans hu, ?_, key⟩
 by_cases h0 : W.heap.size = 0
 ·omega
 ·have := key (W.heap.size - 1) (by omega)
  rw [Array.getElem?_eq_getElem (by omega : W.heap.size - 1 < W.heap.size)] at this
  have := (Array.getElem?_eq_some_iff.1 this).1
  omega
def Hp.set (h : Hp) (b : Nat) (o : Option Obj) : Hp := fun x => if x = b then o else h x
theorem heapOf_push (w : World) (o : Obj) : heapOf { w with heap := w.heap.push o } = (heapOf w).set w.heap.size (some o) := by
 funext x
 show (w.heap.push o)[x]? = if x = w.heap.size then some o else w.heap[x]?
 rw [Array.getElem?_push]
theorem St.alloc {ρ : World} {L : List HP} {w : World} (h : St ρ L w) (o : Obj) : St ρ (pt w.heap.size o :: L) { w with heap := w.heap.push o } := by
 obtain ⟨g, k, ap, lg, lk, d⟩ := h.body
 have no : (heapOf w) w.heap.size = none := by simp [heapOf]
 have none_of : ∀ {q : Hp}, Hp.le q (heapOf w) → q w.heap.size = none := fun {q} lq => by
  cases hq : q w.heap.size with
  | none => rfl
  | some o' => have := lq _ _ hq; rw [no] at this; cases this
 have up : ∀ {q : Hp}, Hp.le q (heapOf w) → Hp.le q (heapOf { w with heap := w.heap.push o }) := fun {q} lq x o' e => by
  rw [heapOf_push]
  show (if x = w.heap.size then some o else heapOf w x) = some o'
  by_cases hx : x = w.heap.size
  ·subst hx; rw [none_of lq] at e; cases e
  ·rw [if_neg hx]; exact lq _ _ e
 refine ⟨h.os, h.tape, h.output, g, k.set w.heap.size (some o), ?_, up lg, ?_, fun x => if x = w.heap.size then some o else none, k, ?_, ?_, ?_, ?_, d⟩
 ·intro x
  by_cases hx : x = w.heap.size
  ·subst hx; exact .inl (none_of lg)
  ·rcases ap x with e | e
   ·exact .inl e
   ·exact .inr (by show (if x = _ then _ else k x) = none; rw [if_neg hx]; exact e)
 ·intro x o' e
  rw [heapOf_push]
  show (if x = w.heap.size then some o else heapOf w x) = some o'
  have e : (if x = w.heap.size then some o else k x) = some o' := e
  by_cases hx : x = w.heap.size
  ·rw [if_pos hx] at e ⊢; exact e
  ·rw [if_neg hx] at e ⊢; exact lk _ _ e
 ·intro x
  by_cases hx : x = w.heap.size
  ·subst hx; exact .inr (none_of lk)
  ·exact .inl (if_neg hx)
 ·intro x o' e
  by_cases hx : x = w.heap.size
  ·have e : (if x = w.heap.size then some o else none) = some o' := e
   rw [if_pos hx] at e; show (if x = _ then _ else k x) = _; rw [if_pos hx]; exact e
  ·have e : (if x = w.heap.size then some o else none) = some o' := e
   rw [if_neg hx] at e; cases e
 ·intro x o' e
  show (if x = _ then _ else k x) = _
  by_cases hx : x = w.heap.size
  ·subst hx; rw [none_of lk] at e; cases e
  ·rw [if_neg hx]; exact e
 ·show (if w.heap.size = w.heap.size then some o else none) = some o
  rw [if_pos rfl]
theorem St.write {ρ : World} {L : List HP} {w w' : World} {b : Nat} {o o' : Obj} (h : St ρ (pt b o :: L) w) (e1 : w'.os = w.os) (e2 : w'.tape = w.tape) (e3 : w'.output = w.output)
  (hb : w'.heap[b]? = some o') (hne : ∀ x, x ≠ b → w'.heap[x]? = w.heap[x]?) (e4 : w.drawn ≤ w'.drawn := by exact Nat.le_refl _) : St ρ (pt b o' :: L) w' := by
 obtain ⟨g, k, ap, lg, lk, h1, h2, ap', l1, l2, ha, d⟩ := h.body
 have ha : h1 b = some o := ha
 have h2b : h2 b = none := by
  rcases ap' b with e | e
  ·rw [ha] at e; cases e
  ·exact e
 have gb : g b = none := by
  rcases ap b with e | e
  ·exact e
  ·rw [l1 _ _ ha] at e; cases e
 have up : ∀ {q : Hp}, q b = none → Hp.le q (heapOf w) → Hp.le q (heapOf w') := fun {q} hq lq x y e => by
  have hx : x ≠ b := fun hx => by subst hx; rw [hq] at e; cases e
  show w'.heap[x]? = some y
  rw [hne x hx]; exact lq _ _ e
 refine ⟨e1.trans h.os, e2.trans h.tape, ⟨e3.trans h.output.1, Nat.le_trans h.output.2 e4⟩, g, h2.set b (some o'), ?_, up gb lg, ?_, fun x => if x = b then some o' else none, h2, ?_, ?_, ?_, ?_, d⟩
 ·intro x
  by_cases hx : x = b
  ·subst hx; exact .inl gb
  ·rcases Hp.apart_le ap (Hp.le_refl _) l2 x with e | e
   ·exact .inl e
   ·exact .inr (by show (if x = b then _ else h2 x) = none; rw [if_neg hx]; exact e)
 ·intro x y e
  have e : (if x = b then some o' else h2 x) = some y := e
  show w'.heap[x]? = some y
  by_cases hx : x = b
  ·rw [if_pos hx] at e; rw [hx, hb]; exact e
  ·rw [if_neg hx] at e; exact up h2b (Hp.le_trans l2 lk) _ _ e
 ·intro x
  by_cases hx : x = b
  ·subst hx; exact .inr h2b
  ·exact .inl (if_neg hx)
 ·intro x y e
  by_cases hx : x = b
  ·have e : (if x = b then some o' else none) = some y := e
   rw [if_pos hx] at e; show (if x = b then _ else h2 x) = _; rw [if_pos hx]; exact e
  ·have e : (if x = b then some o' else none) = some y := e
   rw [if_neg hx] at e; cases e
 ·intro x y e
  show (if x = b then _ else h2 x) = _
  by_cases hx : x = b
  ·subst hx; rw [h2b] at e; cases e
  ·rw [if_neg hx]; exact e
 ·show (if b = b then some o' else none) = some o'
  rw [if_pos rfl]
theorem St.freeze {ρ : World} {A B : HP} {L : List HP} {w : World} (hi : ∀ g h u, Hp.le g u → Hp.le h u → A.holds g h → B.holds u (fun _ => none)) (h : St ρ (A :: L) w) : St ρ (B :: L) w := by
 obtain ⟨g, k, ap, lg, lk, h1, h2, ap', l1, l2, ha, d⟩ := h.body
 let u : Hp := fun x => match g x with | some o => some o | none => h1 x
 have lgu : Hp.le g u := fun x o e => by show (match g x with | some o => some o | none => h1 x) = some o; rw [e]
 have l1u : Hp.le h1 u := fun x o e => by
  show (match g x with | some o => some o | none => h1 x) = some o
  rcases Hp.apart_le ap (Hp.le_refl _) l1 x with e' | e'
  ·rw [e']; exact e
  ·rw [e'] at e; cases e
 have lu : Hp.le u (heapOf w) := fun x o e => by
  have e : (match g x with | some o => some o | none => h1 x) = some o := e
  cases hx : g x with
  | some o' => rw [hx] at e; cases e; exact lg _ _ hx
  | none => rw [hx] at e; exact lk _ _ (l1 _ _ e)
 refine ⟨h.os, h.tape, h.output, u, h2, ?_, lu, Hp.le_trans l2 lk, fun _ => none, h2, fun _ => .inl rfl, Hp.none_le _, Hp.le_refl _, hi g h1 u lgu l1u ha, sepAll_mono lgu (Hp.le_refl _) d⟩
 intro x
 rcases ap' x with e' | e'
 ·rcases Hp.apart_le ap (Hp.le_refl _) l2 x with e | e
  ·refine .inl ?_; show (match g x with | some o => some o | none => h1 x) = none; rw [e]; exact e'
  ·exact .inr e
 ·exact .inr e'
theorem St.freeze_pt {ρ : World} {b : Nat} {o : Obj} {L : List HP} {w : World} (h : St ρ (pt b o :: L) w) : St ρ (fz b o :: L) w :=
 h.freeze (fun _ _ _ _ hu ha => hu _ _ ha)
end Go.Proofs.YtkbhldicnamcdaaGreat.L
namespace Go.Proofs.YtkbhldicnamcdaaGreat.L
open Go
abbrev Env := List (Nat × Value)
def Env.get : Env → Nat → Option Value
 | [], _ => none
 | (d, v) :: E, t => match Nat.beq d t with | true => some v | false => Env.get E t
def Env.ev (E : Env) : Operand → Option Value
 | .tmp t => Env.get E t
 | .const v => some v
 | .global g => some (.pointer (some ⟨g, 0, none⟩))
 | .func f => some (.func (.func f) #[] #[])
def Env.put (E : Env) : Option Tmp → Value → Env
 | some d, v => (d, v) :: E
 | none, _ => E
structure Know (N : Nat) (E : Env) (a : Act) : Prop where
 defers : a.defers = []
 size : a.tmps.size = N
 slot : ∀ t v, Env.get E t = some v → a.tmps[t]? = some v
theorem Know.ev {N : Nat} {E : Env} {a : Act} (h : Know N E a) {x : Operand} {v : Value} (hx : Env.ev E x = some v) : a.eval x = v := by
 cases x with
 | tmp t => have := h.slot t v hx; simp [Act.eval, this]
 | const u => simpa [Env.ev, Act.eval] using hx
 | global g => simpa [Env.ev, Act.eval] using hx
 | func f => simpa [Env.ev, Act.eval] using hx
def dstOk (N : Nat) : Option Tmp → Bool
 | some d => Nat.ble (d + 1) N
 | none => true
theorem get_cons {d t : Nat} {u : Value} {E : Env} : Env.get ((d, u) :: E) t = if d = t then some u else Env.get E t := by
 show (match Nat.beq d t with | true => some u | false => Env.get E t) = _
 by_cases h : d = t
 ·have : Nat.beq d t = true := by simp [h]
  rw [this, if_pos h]
 ·have : Nat.beq d t = false := by
   cases hb : Nat.beq d t with
   | false => rfl
   | true => exact absurd (Nat.eq_of_beq_eq_true hb) h
  rw [this, if_neg h]
theorem Know.put {N : Nat} {E : Env} {a : Act} (h : Know N E a) {dst : Option Tmp} (hd : dstOk N dst = true) (v : Value) : Know N (Env.put E dst v) (a.put dst v) := by
 cases dst with
 | none => exact h
 | some d =>
  have hlt : d < N := Nat.le_of_ble_eq_true hd
  refine ⟨h.defers, by simp [Act.put, h.size], fun t u e => ?_⟩
  have e : Env.get ((d, v) :: E) t = some u := e
  rw [get_cons] at e
  by_cases hdt : d = t
  ·subst hdt
   rw [if_pos rfl] at e
   simp [Act.put, h.size, hlt, Option.some.inj e]
  ·rw [if_neg hdt] at e
   simp [Act.put, Array.getElem?_setIfInBounds_ne hdt, h.slot t u e]
def Env.sub (E E' : Env) : Prop := ∀ t v, Env.get E' t = some v → Env.get E t = some v
theorem Env.sub_nil (E : Env) : Env.sub E [] := fun _ _ h => by cases h
theorem eC {E E' : Env} {d : Nat} {v : Value} (h : Env.get E d = some v) (k : Env.sub E E') : Env.sub E ((d, v) :: E') := fun t u e => by
 rw [get_cons] at e
 by_cases hdt : d = t
 ·subst hdt; rw [if_pos rfl] at e; rw [← Option.some.inj e]; exact h
 ·rw [if_neg hdt] at e; exact k t u e
theorem Know.sub {N : Nat} {E E' : Env} {a : Act} (h : Know N E a) (k : Env.sub E E') : Know N E' a := ⟨h.defers, h.size, fun t v e => h.slot t v (k t v e)⟩
structure Fx where
 P : Program
 f : FuncId
 R : Ending → World → Prop
 N : Nat
 ρ : World
def Run (X : Fx) (k : List Item) (a : Act) (w : World) : Prop :=
 ∀ (b : Frame) (cs : List Frame), b.fn = X.f → b.kind = .normal →
  ∃ e w' fr, X.R e w' ∧ Comes X.P (lone (b.at a k) cs w) (lone fr cs w') e ∧ fr.fn = X.f ∧ fr.leaving X.P w' e
def K (X : Fx) (k : List Item) (E : Env) (L : List HP) : Prop := ∀ a w, Know X.N E a → St X.ρ L w → Run X k a w
section
variable {X : Fx} {k : List Item} {a : Act} {w : World} {E : Env} {L : List HP}
theorem Run.step {k' : List Item} {a' : Act} {w' : World} (hs : ∀ (b : Frame) (cs : List Frame), Steps X.P (lone (b.at a k) cs w) (lone (b.at a' k') cs w')) (h : Run X k' a' w') : Run X k a w :=
 fun b cs hf hk => let ⟨e, w'', fr, hR, hc, r⟩ := h b cs hf hk; ⟨e, w'', fr, hR, Comes.of_steps (hs b cs) hc, r⟩
theorem Run.code {c : Code} {Q : Exit → Act → World → Prop} (hq : ∀ e a w, Q e a w → e = .normal ∧ Run X k a w) (h : c.wp X.P Q a w) : Run X (.code c :: k) a w := by
 intro b cs hf hk
 obtain ⟨e, a', w', q, harr⟩ := h b k cs
 obtain ⟨rfl, hr⟩ := hq _ _ _ q
 obtain ⟨e, w'', fr, hR, hc, r⟩ := hr b cs hf hk
 exact ⟨e, w'', fr, hR, Comes.of_steps harr hc, r⟩
theorem K.seq {x y : Code} (h : K X (.code x :: .code y :: k) E L) : K X (.code (.seq x y) :: k) E L :=
 fun a w hk hs => Run.step (fun _ _ => .one step_seq) (h a w hk hs)
theorem K.skip (h : K X k E L) : K X (.code .skip :: k) E L := fun a w hk hs => Run.step (fun _ _ => .one step_skip) (h a w hk hs)
theorem K.label {l : Nat} (h : K X k E L) : K X (.code (.label l) :: k) E L := fun a w hk hs => Run.step (fun _ _ => .one step_label) (h a w hk hs)
theorem K.block {id : Nat} {c : Code} (h : K X (.code c :: .inBlock id :: k) E L) : K X (.code (.block id c) :: k) E L := fun a w hk hs => Run.step (fun _ _ => .one step_block) (h a w hk hs)
theorem K.inBlock {id : Nat} (h : K X k E L) : K X (.inBlock id :: k) E L := fun a w hk hs => Run.step (fun _ _ => .one step_inBlock) (h a w hk hs)
theorem K.exit {id : Nat} {k' : List Item} (he : exitTo id k = some k') (h : K X k' E L) : K X (.code (.exit id) :: k) E L := fun a w hk hs => Run.step (fun _ _ => .one (step_exit he)) (h a w hk hs)
theorem K.cond {c : Operand} {x y : Code} {t : Bool} (hc : Env.ev E c = some (.bool t)) (h : K X (.code (if t then x else y) :: k) E L) : K X (.code (.cond c x y) :: k) E L :=
 fun a w hk hs => Run.step (fun _ _ => .one (step_cond (hk.ev hc))) (h a w hk hs)
theorem K.yes {c : Operand} {x y : Code} (hc : Env.ev E c = some (.bool true)) (h : K X (.code x :: k) E L) : K X (.code (.cond c x y) :: k) E L := K.cond hc h
theorem K.no {c : Operand} {x y : Code} (hc : Env.ev E c = some (.bool false)) (h : K X (.code y :: k) E L) : K X (.code (.cond c x y) :: k) E L := K.cond hc h
theorem K.ite {c : Operand} {x y : Code} {b : Bool} (hc : Env.ev E c = some (.bool b)) (h1 : b = true → K X (.code x :: k) E L) (h2 : b = false → K X (.code y :: k) E L) : K X (.code (.cond c x y) :: k) E L := by
 cases b
 ·exact K.no hc (h2 rfl)
 ·exact K.yes hc (h1 rfl)
theorem K.dite {c : Operand} {x y : Code} {p : Prop} {dp : Decidable p} (hc : Env.ev E c = some (.bool (@decide p dp))) (h1 : p → K X (.code x :: k) E L) (h2 : ¬ p → K X (.code y :: k) E L) : K X (.code (.cond c x y) :: k) E L :=
 K.ite hc (fun h => h1 (of_decide_eq_true h)) (fun h => h2 (of_decide_eq_false h))
theorem K.loop {c : Code} (h : K X (.code c :: .inLoop c :: k) E L) : K X (.code (.loop c) :: k) E L := fun a w hk hs => Run.step (fun _ _ => .one step_loop) (h a w hk hs)
theorem K.inLoop {c : Code} (h : K X (.code c :: .inLoop c :: k) E L) : K X (.inLoop c :: k) E L := fun a w hk hs => Run.step (fun _ _ => .one step_inLoop) (h a w hk hs)
theorem K.rounds {c : Code} {ι : Type} (I : ι → Env × List HP) (μ : ι → Nat) (i : ι) (hE : Env.sub E (I i).1) (hL : ∀ w, St X.ρ L w → St X.ρ (I i).2 w)
  (round : ∀ i, (∀ j, μ j < μ i → K X (.inLoop c :: k) (I j).1 (I j).2) → K X (.code c :: .inLoop c :: k) (I i).1 (I i).2) : K X (.code (.loop c) :: k) E L := by
 have key : ∀ n j, μ j = n → K X (.code c :: .inLoop c :: k) (I j).1 (I j).2 := by
  intro n
  induction n using Nat.strongRecOn with
  | _ n ih =>
   intro j hj
   exact round j (fun l hl => K.inLoop (ih (μ l) (hj ▸ hl) l rfl))
 exact K.loop (fun a w hk hs => key _ i rfl a w (hk.sub hE) (hL w hs))
theorem K.weak {E' : Env} {L' : List HP} (hE : Env.sub E E') (hL : ∀ w, St X.ρ L w → St X.ρ L' w) (h : K X k E' L') : K X k E L := fun a w hk hs => h a w (hk.sub hE) (hL w hs)
theorem K.st {L' : List HP} (hL : ∀ w, St X.ρ L w → St X.ρ L' w) (h : K X k E L') : K X k E L := fun a w hk hs => h a w hk (hL w hs)
theorem K.ex {ι : Type} {B : ι → List HP} (hL : ∀ w, St X.ρ L w → ∃ i, St X.ρ (B i) w) (h : ∀ i, K X k E (B i)) : K X k E L := fun a w hk hs => let ⟨i, hi⟩ := hL w hs; h i a w hk hi
theorem K.fact {φ : Prop} (hL : ∀ w, St X.ρ L w → φ) (h : φ → K X k E L) : K X k E L := fun a w hk hs => h (hL w hs) a w hk hs
theorem K.ret {fn : Func} {v : Value} (hf : X.P.funcs[X.f]? = some fn) (hv : ∀ a w, Know X.N E a → St X.ρ L w → (results fn a.tmps).run X.P w = .ok v w)
  (hR : ∀ w, St X.ρ L w → X.R (.returned v) w) : K X (.code .ret :: k) E L := fun a w hk hs b cs hf' hk' =>
 ⟨.returned v, w, _, hR w hs, .one step_ret, hf', rfl, hk.defers, hk', fn, by show X.P.funcs[b.fn]? = _; rw [hf']; exact hf, hv a w hk hs⟩
theorem K.fin {fn : Func} {v : Value} (hf : X.P.funcs[X.f]? = some fn) (hv : ∀ a w, Know X.N E a → St X.ρ L w → (results fn a.tmps).run X.P w = .ok v w)
  (hR : ∀ w, St X.ρ L w → X.R (.returned v) w) : K X [] E L := fun a w hk hs b cs hf' hk' =>
 ⟨.returned v, w, _, hR w hs, .one step_end, hf', rfl, hk.defers, hk', fn, by show X.P.funcs[b.fn]? = _; rw [hf']; exact hf, hv a w hk hs⟩
end
section
variable {P : Program} {fn : Func} {N : Nat} {E : Env} {a : Act} {w : World}
theorem res0 (h : fn.results = #[]) : (results fn a.tmps).run P w = .ok (.tuple #[]) w := by simp [results, h]
theorem res1 {t : Nat} {v : Value} (h : fn.results = #[.tmp t]) (hk : Know N E a) (h1 : Env.get E t = some v) : (results fn a.tmps).run P w = .ok v w := by
 have := hk.slot _ _ h1
 simp [results, h, this]
theorem res2 {t u : Nat} {v x : Value} (h : fn.results = #[.tmp t, .tmp u]) (hk : Know N E a) (h1 : Env.get E t = some v) (h2 : Env.get E u = some x) : (results fn a.tmps).run P w = .ok (.tuple #[v, x]) w := by
 have e1 := hk.slot _ _ h1
 have e2 := hk.slot _ _ h2
 simp [results, h, e1, e2]
theorem res3 {t u s : Nat} {v x y : Value} (h : fn.results = #[.tmp t, .tmp u, .tmp s]) (hk : Know N E a) (h1 : Env.get E t = some v) (h2 : Env.get E u = some x) (h3 : Env.get E s = some y) : (results fn a.tmps).run P w = .ok (.tuple #[v, x, y]) w := by
 have e1 := hk.slot _ _ h1
 have e2 := hk.slot _ _ h2
 have e3 := hk.slot _ _ h3
 simp [results, h, e1, e2, e3]
end
def noQ : Exit → Act → World → Prop := fun _ _ _ => False
def Env.yield (E : Env) (ops : Array Oper) (j : Nat) : Option Bool :=
 match ((ops[j]?).bind (·.dst)).bind (Env.get E) with
 | some (.bool b) => some b
 | _ => none
def okOp (N : Nat) (ops : Array Oper) (E : Env) (o : Oper) (want : Bool) : Bool :=
 dstOk N o.dst && match o.guard with
  | none => want
  | some (j, g) => match Env.yield E ops j with
   | some b => (b == g) == want
   | none => false
theorem okOp_dst {N : Nat} {ops : Array Oper} {E : Env} {o : Oper} {want : Bool} (h : okOp N ops E o want = true) : dstOk N o.dst = true := by
 unfold okOp at h
 rw [Bool.and_eq_true] at h
 exact h.1
theorem okOp_wanted {N : Nat} {ops : Array Oper} {E : Env} {o : Oper} {want : Bool} {a : Act} (hk : Know N E a) (h : okOp N ops E o want = true) : Region.wanted o (yielded ops a.tmps) = want := by
 unfold okOp at h
 rw [Bool.and_eq_true] at h
 obtain ⟨_, h⟩ := h
 unfold Region.wanted
 cases hg : o.guard with
 | none => rw [hg] at h; simpa using h.symm
 | some p =>
  obtain ⟨j, g⟩ := p
  rw [hg] at h
  simp only at h ⊢
  unfold Env.yield at h
  unfold yielded
  cases hd : (ops[j]?).bind (·.dst) with
  | none => rw [hd] at h; simp at h
  | some d =>
   rw [hd] at h
   simp only [Option.bind_some] at h ⊢
   cases hv : Env.get E d with
   | none => rw [hv] at h; simp at h
   | some v =>
    rw [hv] at h
    rw [hk.slot d v hv]
    cases v <;> simp_all
def OpQ (X : Fx) (o : Oper) (E : Env) (L : List HP) (v : Value) : Prop :=
 ∀ a w, Know X.N E a → St X.ρ L w → (execOp a.eval o).run X.P w = .ok (.value v) w
def OpL (X : Fx) (o : Oper) (E : Env) (L : List HP) (Φ : Value → List HP → Prop) : Prop :=
 ∀ a w, Know X.N E a → St X.ρ L w → o.wp X.P a w (fun a' w' => ∃ v L', Φ v L' ∧ a' = a.put o.dst v ∧ St X.ρ L' w') noQ
theorem OpQ.loud {X : Fx} {o : Oper} {E : Env} {L : List HP} {v : Value} (h : OpQ X o E L v) : OpL X o E L (fun v' L' => v' = v ∧ L' = L) := fun a w hk hs => by
 unfold Oper.wp
 rw [h a w hk hs]
 exact ⟨v, L, ⟨rfl, rfl⟩, rfl, hs⟩
theorem OpL.mono {X : Fx} {o : Oper} {E : Env} {L : List HP} {Φ Ψ : Value → List HP → Prop} (h : OpL X o E L Φ) (hi : ∀ v L', Φ v L' → Ψ v L') : OpL X o E L Ψ :=
 fun a w hk hs => Oper.wp_mono (fun _ _ ⟨v, L', hf, r⟩ => ⟨v, L', hi v L' hf, r⟩) (h a w hk hs)
def wpL (P : Program) (ops : Array Oper) (Q : Act → World → Prop) : List Oper → Act → World → Prop
 | [], a, w => Q a w
 | o :: l, a, w => if Region.wanted o (yielded ops a.tmps) then o.wp P a w (wpL P ops Q l) noQ else wpL P ops Q l (a.put o.dst undef) w
def Nrm (Q : Act → World → Prop) : Exit → Act → World → Prop
 | .normal, a, w => Q a w
 | _, _, _ => False
theorem Oper.wp_noQ {P : Program} {o : Oper} {a : Act} {w : World} {J : Act → World → Prop} {Q : Exit → Act → World → Prop} (h : o.wp P a w J noQ) : o.wp P a w J Q := by
 unfold Oper.wp at *
 generalize (execOp a.eval o).run P w = r at *
 cases r with
 | ok n w' =>
  cases n <;> simp only [Oper.upon] at h ⊢ <;> try exact h
  exact Calls.mono h (fun e w'' he => by
   cases e with
   | returned v => exact he
   | panicked c => exact (show False from he).elim
   | outgrown => obtain ⟨_, _, h'⟩ := (show LetsOut noQ from he); exact (show False from h').elim)
 | halt x w' => cases x <;> simp only [Oper.upon, noQ] at h
theorem wpL_ops {P : Program} {ops : Array Oper} {Q : Act → World → Prop} : ∀ (n i : Nat), i + n = ops.size → ∀ (a : Act) (w : World), wpL P ops Q (ops.toList.drop i) a w → wpOps P ops (Nrm Q) (List.range' i n) a w
 | 0, i, hi, a, w, h => by
  rw [List.drop_eq_nil_of_le (by simp; omega)] at h
  exact h
 | n + 1, i, hi, a, w, h => by
  have hlt : i < ops.toList.length := by simp; omega
  have e : ops.toList.drop i = ops[i]'(by simpa using hlt) :: ops.toList.drop (i + 1) := by
   rw [List.drop_eq_getElem_cons hlt]; rfl
  have ho : ops[i]? = some (ops[i]'(by simpa using hlt)) := Array.getElem?_eq_getElem _
  rw [e] at h
  simp only [wpL] at h
  rw [List.range'_succ]
  simp only [wpOps, ho]
  split
  ·rename_i hw
   rw [if_pos hw] at h
   exact .inl (Oper.wp_mono (fun a w h => wpL_ops n (i + 1) (by omega) a w h) (Oper.wp_noQ h))
  ·rename_i hw
   rw [if_neg hw] at h
   exact wpL_ops n (i + 1) (by omega) _ _ h
def KO (X : Fx) (ops : Array Oper) (l : List Oper) (k : List Item) (E : Env) (L : List HP) : Prop :=
 ∀ a w, Know X.N E a → St X.ρ L w → wpL X.P ops (Run X k) l a w
section
variable {X : Fx} {k : List Item} {E : Env} {L : List HP} {ops : Array Oper} {l : List Oper}
theorem K.region {id : Nat} (h : KO X l.toArray l k E L) : K X (.code (.region id l.toArray false) :: k) E L := fun a w hk hs =>
 Run.code (Q := Nrm (Run X k)) (fun e _ _ q => by cases e <;> first | exact ⟨rfl, q⟩ | exact q.elim)
  (wp_region (by rw [List.range_eq_range']; exact wpL_ops _ 0 (by simp) a w (by simpa using h a w hk hs)))
theorem KO.done (h : K X k E L) : KO X ops [] k E L := h
variable {d : Tmp} {op : Op} {ty : TypeId} {pos : String} {af : Array Edge} {gd : Option (Nat × Bool)}
theorem KO.q {v : Value} (hok : okOp X.N ops E ⟨some d, op, ty, pos, af, gd⟩ true = true) (hq : OpQ X ⟨some d, op, ty, pos, af, gd⟩ E L v) (h : KO X ops l k ((d, v) :: E) L) : KO X ops (⟨some d, op, ty, pos, af, gd⟩ :: l) k E L := fun a w hk hs => by
 simp only [wpL, okOp_wanted hk hok, if_true]
 unfold Oper.wp
 rw [hq a w hk hs]
 exact h _ _ (hk.put (okOp_dst hok) v) hs
theorem KO.skip (hok : okOp X.N ops E ⟨some d, op, ty, pos, af, gd⟩ false = true) (h : KO X ops l k ((d, undef) :: E) L) : KO X ops (⟨some d, op, ty, pos, af, gd⟩ :: l) k E L := fun a w hk hs => by
 simp only [wpL, okOp_wanted hk hok, Bool.false_eq_true, if_false]
 exact h _ _ (hk.put (okOp_dst hok) undef) hs
theorem KO.loud {Φ : Value → List HP → Prop} (hok : okOp X.N ops E ⟨some d, op, ty, pos, af, gd⟩ true = true) (hl : OpL X ⟨some d, op, ty, pos, af, gd⟩ E L Φ) (h : ∀ v L', Φ v L' → KO X ops l k ((d, v) :: E) L') : KO X ops (⟨some d, op, ty, pos, af, gd⟩ :: l) k E L := fun a w hk hs => by
 simp only [wpL, okOp_wanted hk hok, if_true]
 refine Oper.wp_mono ?_ (hl a w hk hs)
 rintro a' w' ⟨v, L', hf, rfl, hs'⟩
 exact h v L' hf _ _ (hk.put (okOp_dst hok) v) hs'
theorem kN {Φ : Value → List HP → Prop} (hok : okOp X.N ops E ⟨none, op, ty, pos, af, gd⟩ true = true) (hl : OpL X ⟨none, op, ty, pos, af, gd⟩ E L Φ) (h : ∀ v L', Φ v L' → KO X ops l k E L') : KO X ops (⟨none, op, ty, pos, af, gd⟩ :: l) k E L := fun a w hk hs => by
 simp only [wpL, okOp_wanted hk hok, if_true]
 refine Oper.wp_mono ?_ (hl a w hk hs)
 rintro a' w' ⟨v, L', hf, rfl, hs'⟩
 exact h v L' hf _ _ (hk.put (okOp_dst hok) v) hs'
theorem KO.st {L' : List HP} (hL : ∀ w, St X.ρ L w → St X.ρ L' w) (h : KO X ops l k E L') : KO X ops l k E L := fun a w hk hs => h a w hk (hL w hs)
theorem KO.fact {φ : Prop} (hL : ∀ w, St X.ρ L w → φ) (h : φ → KO X ops l k E L) : KO X ops l k E L := fun a w hk hs => h (hL w hs) a w hk hs
theorem KO.ex {ι : Type} {B : ι → List HP} (hL : ∀ w, St X.ρ L w → ∃ i, St X.ρ (B i) w) (h : ∀ i, KO X ops l k E (B i)) : KO X ops l k E L := fun a w hk hs => let ⟨i, hi⟩ := hL w hs; h i a w hk hi
end
def waitsFor (md : Region.Mode) (ops : Array Oper) (j i : Nat) : Bool :=
 match ops[j]? with
 | some o => o.after.any fun e => Region.binds md e && e.on == i
 | none => false
def wpAnyT (P : Program) (md : Region.Mode) (ops : Array Oper) (Q : Exit → Act → World → Prop) (S : World → Prop) : Nat → List Nat → Array Bool → Act → World → Prop
 | 0, _, listed, a, w => Region.ready md ops listed = [] ∧ Q .normal a w
 | fuel + 1, early, listed, a, w =>
  (Region.ready md ops listed = [] → Q .normal a w) ∧
  ∀ j ∈ Region.ready md ops listed, wpOp P ops Q j (fun a' w' => ((early.all fun i => waitsFor md ops j i) = true ∨ S w') ∧ wpAnyT P md ops Q S fuel (early.filter fun i => !waitsFor md ops j i) (listed.setIfInBounds j true) a' w') a w
section
variable {P : Program} {md : Region.Mode} {ops : Array Oper} {Q : Exit → Act → World → Prop} {S : World → Prop}
theorem wpAnyT_any : ∀ (fuel : Nat) (early : List Nat) (listed : Array Bool) (a : Act) (w : World), wpAnyT P md ops Q S fuel early listed a w → wpAny P md ops Q fuel listed a w
 | 0, _, _, _, _, h => h
 | fuel + 1, _, _, _, _, h => ⟨h.1, fun j hj => wpOp_mono (fun a' w' h' => wpAnyT_any fuel _ _ a' w' h'.2) (h.2 j hj)⟩
theorem wpAnyT_less : ∀ (fuel : Nat) (early early' : List Nat) (listed : Array Bool) (a : Act) (w : World), (∀ i, i ∈ early' → i ∈ early) → wpAnyT P md ops Q S fuel early listed a w → wpAnyT P md ops Q S fuel early' listed a w
 | 0, _, _, _, _, _, _, h => h
 | fuel + 1, _, _, _, _, _, hs, h => ⟨h.1, fun j hj => wpOp_mono (fun a' w' h' => ⟨h'.1.imp (fun h => List.all_eq_true.2 fun i hi => List.all_eq_true.1 h i (hs i hi)) id,
   wpAnyT_less fuel _ _ _ a' w' (fun i hi => List.mem_filter.2 ⟨hs i (List.mem_filter.1 hi).1, (List.mem_filter.1 hi).2⟩) h'.2⟩) (h.2 j hj)⟩
theorem not_waits_of_ready {i j : Nat} {listed : Array Bool} (hi : listed.getD i true = false) (hj : j ∈ Region.ready md ops listed) : waitsFor md ops j i = false := by
 obtain ⟨_, o, ho, hall⟩ := mem_ready.1 hj
 unfold waitsFor
 simp only [ho]
 cases hb : o.after.any fun e => Region.binds md e && e.on == i with
 | false => rfl
 | true =>
  obtain ⟨e, he, hbe⟩ := Array.any_eq_true'.1 hb
  simp only [Bool.and_eq_true, beq_iff_eq] at hbe
  have h1 := hall e he hbe.1
  rw [hbe.2] at h1
  rcases Nat.lt_or_ge i listed.size with h' | h'
  ·simp [h'] at hi h1; rw [hi] at h1; cases h1
  ·simp [Array.getElem?_eq_none h'] at h1
theorem wpAnyT_first {i : Nat} {oi : Oper} {v : Value} (hi : ops[i]? = some oi) (hsel : ∀ (j : Nat) (o : Oper) cs b, ops[j]? = some o → o.op ≠ .select cs b)
  (hQ : ∀ c a w, Q (.panic c) (a.put oi.dst v) w → Q (.panic c) a w) :
  ∀ (fuel : Nat) (early : List Nat) (listed : Array Bool) (a : Act) (w : World),
   (∀ j oj, ops[j]? = some oj → j ≠ i → listed.getD j true = false → (∀ e ∈ oj.after, Region.binds md e = true → e.on ≠ i) → oi.apart ops oj = true) →
   i ∈ Region.ready md ops listed → YieldsIf P ops S oi v a → S w →
   wpAnyT P md ops Q S fuel (i :: early) (listed.setIfInBounds i true) (a.put oi.dst v) w → wpAnyT P md ops Q S (fuel + 1) early listed a w := by
 intro fuel
 induction fuel with
 | zero =>
  intro early listed a w _ hr hy hS H
  refine ⟨fun h => (by rw [h] at hr; cases hr), fun j hj => ?_⟩
  by_cases hji : j = i
  ·subst hji
   exact hy.wpOp hi hS ⟨.inr hS, wpAnyT_less 0 _ _ _ _ _ (fun _ h => List.mem_cons_of_mem _ (List.mem_filter.1 h).1) H⟩
  ·have := ready_mono hj hji
   rw [H.1] at this
   cases this
 | succ fuel ih =>
  intro early listed a w hfree hr hy hS H
  refine ⟨fun h => (by rw [h] at hr; cases hr), fun j hj => ?_⟩
  by_cases hji : j = i
  ·subst hji
   exact hy.wpOp hi hS ⟨.inr hS, wpAnyT_less _ _ _ _ _ _ (fun _ h => List.mem_cons_of_mem _ (List.mem_filter.1 h).1) H⟩
  ·have h1 := H.2 j (ready_mono hj hji)
   have hnw := not_waits_of_ready (mem_ready.1 hr).1 hj
   obtain ⟨hjun, oj, hoj, hall⟩ := mem_ready.1 hj
   have hnot : ∀ e ∈ oj.after, Region.binds md e = true → e.on ≠ i := fun e he hb heq => by
    unfold waitsFor at hnw
    simp only [hoj] at hnw
    have : (oj.after.any fun e => Region.binds md e && e.on == i) = true := Array.any_eq_true'.2 ⟨e, he, by simp [hb, heq]⟩
    rw [this] at hnw
    cases hnw
   have h2 := wpOp_putIf hoj (hfree j oj hoj hji hjun hnot) (fun cs b => hsel i oi cs b hi) (fun cs b => hsel j oj cs b hoj) hQ hy h1
   have hfree' : ∀ k ok, ops[k]? = some ok → k ≠ i → (listed.setIfInBounds j true).getD k true = false →
     (∀ e ∈ ok.after, Region.binds md e = true → e.on ≠ i) → oi.apart ops ok = true := fun k ok hk hki hun hno => by
    refine hfree k ok hk hki ?_ hno
    by_cases hjk : j = k
    ·subst hjk; exact hjun
    ·rw [getD_set_ne true hjk] at hun; exact hun
   refine wpOp_mono (fun a' w' h3 => ?_) h2
   obtain ⟨hy3, hS3, h4⟩ := h3
   have hSw : S w' := hS3.resolve_left (by simp [hnw])
   have hfil : (List.filter (fun i => !waitsFor md ops j i) (i :: early)) = i :: early.filter (fun i => !waitsFor md ops j i) := by simp [hnw]
   rw [hfil] at h4
   refine ⟨.inr hSw, ih _ (listed.setIfInBounds j true) a' w' hfree' (ready_mono hr (Ne.symm hji)) hy3 hSw ?_⟩
   rw [Array.setIfInBounds_comm _ _ hji]
   exact h4
theorem wpAnyT_all {rs : List Nat} {fuel : Nat} {early : List Nat} {listed : Array Bool} {a : Act} {w : World} (hr : Region.ready md ops listed = rs) (hne : rs ≠ [])
  (h : ∀ j ∈ rs, wpOp P ops Q j (fun a' w' => ((early.all fun i => waitsFor md ops j i) = true ∨ S w') ∧ wpAnyT P md ops Q S fuel (early.filter fun i => !waitsFor md ops j i) (listed.setIfInBounds j true) a' w') a w) : wpAnyT P md ops Q S (fuel + 1) early listed a w :=
 ⟨fun h0 => absurd (hr ▸ h0) hne, hr ▸ h⟩
end
def D (X : Fx) (ops : Array Oper) (k : List Item) (Sc : List HP) (fuel : Nat) (early : List Nat) (listed : Array Bool) (E : Env) (L : List HP) : Prop :=
 ∀ a w, Know X.N E a → St X.ρ L w → wpAnyT X.P .any ops (Nrm (Run X k)) (fun w' => St X.ρ Sc w') fuel early listed a w
def takeOk (ops : Array Oper) (listed : Array Bool) (i : Nat) : Bool := Region.noSelect ops && Region.free .any ops listed i && (Region.ready .any ops listed).contains i
section
variable {X : Fx} {k : List Item} {E : Env} {L Sc : List HP} {ops : Array Oper} {fuel : Nat} {early : List Nat} {listed : Array Bool}
theorem K.draw {id : Nat} {l : List Oper} (Sc : List HP) (hm : X.P.follows .mixedOrders = true) (h : D X l.toArray k Sc l.length [] (Array.replicate l.length false) E L) : K X (.code (.region id l.toArray true) :: k) E L := fun a w hk hs =>
 Run.code (Q := Nrm (Run X k)) (fun e _ _ q => by cases e <;> first | exact ⟨rfl, q⟩ | exact q.elim)
  (wp_region_any hm (wpAnyT_any _ [] _ _ _ (by rw [List.size_toArray]; exact h a _ hk (hs.drewN _ (Nat.le_succ _)))))
theorem D.done (hr : Region.ready .any ops listed = []) (h : K X k E L) : D X ops k Sc fuel early listed E L := fun a w hk hs => by
 cases fuel with
 | zero => exact ⟨hr, h a w hk hs⟩
 | succ n => exact ⟨fun _ => h a w hk hs, by rw [hr]; simp⟩
theorem D.q {v : Value} (i : Nat) {d : Tmp} {op : Op} {ty : TypeId} {pos : String} {af : Array Edge} {gd : Option (Nat × Bool)} (ho : ops[i]? = some ⟨some d, op, ty, pos, af, gd⟩) (ht : takeOk ops listed i = true) (hok : okOp X.N ops E ⟨some d, op, ty, pos, af, gd⟩ true = true) (hq : OpQ X ⟨some d, op, ty, pos, af, gd⟩ E Sc v) (hsub : ∀ w, St X.ρ L w → St X.ρ Sc w)
  (h : D X ops k Sc fuel (i :: early) (listed.setIfInBounds i true) ((d, v) :: E) L) : D X ops k Sc (fuel + 1) early listed E L := fun a w hk hs => by
 simp only [takeOk, Bool.and_eq_true] at ht
 exact wpAnyT_first ho (Region.noSelect_spec ht.1.1) (fun _ _ _ h => h) fuel early listed a w (Region.free_spec ho ht.1.2) (by simpa using ht.2)
  (.inl ⟨okOp_wanted hk hok, fun w' hw' => hq a w' hk hw'⟩) (hsub w hs) (h _ _ (hk.put (okOp_dst hok) v) hs)
theorem D.skip (i : Nat) {d : Tmp} {op : Op} {ty : TypeId} {pos : String} {af : Array Edge} {gd : Option (Nat × Bool)} (ho : ops[i]? = some ⟨some d, op, ty, pos, af, gd⟩) (ht : takeOk ops listed i = true) (hok : okOp X.N ops E ⟨some d, op, ty, pos, af, gd⟩ false = true) (hsub : ∀ w, St X.ρ L w → St X.ρ Sc w)
  (h : D X ops k Sc fuel (i :: early) (listed.setIfInBounds i true) ((d, undef) :: E) L) : D X ops k Sc (fuel + 1) early listed E L := fun a w hk hs => by
 simp only [takeOk, Bool.and_eq_true] at ht
 exact wpAnyT_first ho (Region.noSelect_spec ht.1.1) (fun _ _ _ h => h) fuel early listed a w (Region.free_spec ho ht.1.2) (by simpa using ht.2)
  (.inr ⟨okOp_wanted hk hok, rfl⟩) (hsub w hs) (h _ _ (hk.put (okOp_dst hok) undef) hs)
def DAll (X : Fx) (ops : Array Oper) (k : List Item) (Sc : List HP) (fuel : Nat) (early : List Nat) (listed : Array Bool) (E : Env) (L : List HP) (rs : List Nat) : Prop :=
 ∀ j ∈ rs, ∀ a w, Know X.N E a → St X.ρ L w → wpOp X.P ops (Nrm (Run X k)) j (fun a' w' => ((early.all fun i => waitsFor .any ops j i) = true ∨ St X.ρ Sc w') ∧ wpAnyT X.P .any ops (Nrm (Run X k)) (fun w' => St X.ρ Sc w') fuel (early.filter fun i => !waitsFor .any ops j i) (listed.setIfInBounds j true) a' w') a w
theorem D.all {rs : List Nat} (hr : Region.ready .any ops listed = rs) (hne : rs.isEmpty = false) (h : DAll X ops k Sc fuel early listed E L rs) : D X ops k Sc (fuel + 1) early listed E L := fun a w hk hs =>
 wpAnyT_all hr (by intro e; rw [e] at hne; cases hne) (fun j hj => h j hj a w hk hs)
theorem DAll.nil : DAll X ops k Sc fuel early listed E L [] := fun _ h => by cases h
theorem DAll.any {Φ : Value → List HP → Prop} {i : Nat} {rs : List Nat} {o : Oper} (ho : ops[i]? = some o) (hok : okOp X.N ops E o true = true) (hl : OpL X o E L Φ)
  (hp : (early.all fun j => waitsFor .any ops i j) = true ∨ ∀ v L', Φ v L' → ∀ w, St X.ρ L' w → St X.ρ Sc w)
  (h : ∀ v L', Φ v L' → D X ops k Sc fuel (early.filter fun j => !waitsFor .any ops i j) (listed.setIfInBounds i true) (Env.put E o.dst v) L')
  (hs : DAll X ops k Sc fuel early listed E L rs) : DAll X ops k Sc fuel early listed E L (i :: rs) := fun j hj => by
 rcases List.mem_cons.1 hj with rfl | hj
 ·intro a w hk hst
  unfold wpOp
  simp only [ho, okOp_wanted hk hok, if_true]
  refine .inl (Oper.wp_mono ?_ (Oper.wp_noQ (hl a w hk hst)))
  rintro a' w' ⟨v, L', hf, rfl, hs'⟩
  exact ⟨hp.imp id (fun q => q v L' hf w' hs'), h v L' hf _ _ (hk.put (okOp_dst hok) v) hs'⟩
 ·exact hs j hj
theorem DAll.cons {Φ : Value → List HP → Prop} {i : Nat} {rs early' : List Nat} {d : Tmp} {op : Op} {ty : TypeId} {pos : String} {af : Array Edge} {gd : Option (Nat × Bool)} (ho : ops[i]? = some ⟨some d, op, ty, pos, af, gd⟩) (hok : okOp X.N ops E ⟨some d, op, ty, pos, af, gd⟩ true = true) (hl : OpL X ⟨some d, op, ty, pos, af, gd⟩ E L Φ)
  (hp : (early.all fun j => waitsFor .any ops i j) = true ∨ ∀ v L', Φ v L' → ∀ w, St X.ρ L' w → St X.ρ Sc w) (he : (early.filter fun j => !waitsFor .any ops i j) = early')
  (h : ∀ v L', Φ v L' → D X ops k Sc fuel early' (listed.setIfInBounds i true) ((d, v) :: E) L')
  (hs : DAll X ops k Sc fuel early listed E L rs) : DAll X ops k Sc fuel early listed E L (i :: rs) := DAll.any ho hok hl hp (fun v L' hf => by rw [he]; exact h v L' hf) hs
theorem DAll.consN {Φ : Value → List HP → Prop} {i : Nat} {rs early' : List Nat} {op : Op} {ty : TypeId} {pos : String} {af : Array Edge} {gd : Option (Nat × Bool)} (ho : ops[i]? = some ⟨none, op, ty, pos, af, gd⟩) (hok : okOp X.N ops E ⟨none, op, ty, pos, af, gd⟩ true = true) (hl : OpL X ⟨none, op, ty, pos, af, gd⟩ E L Φ)
  (hp : (early.all fun j => waitsFor .any ops i j) = true ∨ ∀ v L', Φ v L' → ∀ w, St X.ρ L' w → St X.ρ Sc w) (he : (early.filter fun j => !waitsFor .any ops i j) = early')
  (h : ∀ v L', Φ v L' → D X ops k Sc fuel early' (listed.setIfInBounds i true) E L')
  (hs : DAll X ops k Sc fuel early listed E L rs) : DAll X ops k Sc fuel early listed E L (i :: rs) := DAll.any ho hok hl hp (fun v L' hf => by rw [he]; exact h v L' hf) hs
end
def callable (P : Program) (f : FuncId) : Prop := ∃ fn, P.funcs[f]? = some fn ∧ fn.body.isNone = false ∧ (fn.name == "runtime.NumGoroutine") = false
def Post (ρ : World) (L : List HP) (Φ : Value → List HP → Prop) (e : Ending) (w' : World) : Prop := ∃ v post, e = .returned v ∧ Φ v post ∧ St ρ (post ++ L) w'
def Fn (P : Program) (f : FuncId) (args : Array Value) (pre : List HP) (Φ : Value → List HP → Prop) : Prop :=
 callable P f ∧ ∀ ρ L w, St ρ (pre ++ L) w → Calls P f args w (Post ρ L Φ)
theorem Fn.mono {P : Program} {f : FuncId} {args : Array Value} {pre : List HP} {Φ Ψ : Value → List HP → Prop} (h : Fn P f args pre Φ) (hi : ∀ v post, Φ v post → Ψ v post) : Fn P f args pre Ψ :=
 ⟨h.1, fun ρ L w hs => (h.2 ρ L w hs).mono fun _ _ ⟨v, post, he, hf, r⟩ => ⟨v, post, he, hi v post hf, r⟩⟩
def argEnv : Nat → List Value → Env
 | _, [] => []
 | i, v :: l => (i, v) :: argEnv (i + 1) l
theorem argEnv_get : ∀ (l : List Value) (i t : Nat) (v : Value), Env.get (argEnv i l) t = some v → i ≤ t ∧ l[t - i]? = some v
 | [], _, _, _, h => by cases h
 | u :: l, i, t, v, h => by
  have h : Env.get ((i, u) :: argEnv (i + 1) l) t = some v := h
  rw [get_cons] at h
  by_cases hit : i = t
  ·subst hit; rw [if_pos rfl] at h; exact ⟨Nat.le_refl _, by simpa using h⟩
  ·rw [if_neg hit] at h
   obtain ⟨h1, h2⟩ := argEnv_get l (i + 1) t v h
   refine ⟨by omega, ?_⟩
   have : t - i = (t - (i + 1)) + 1 := by omega
   rw [this]; simpa using h2
theorem Fn.enter {P : Program} {f : FuncId} {l : List Value} {pre : List HP} {Φ : Value → List HP → Prop} {fn : Func} {c : Code} {N : Nat} (hf : P.funcs[f]? = some fn) (hb : fn.body = some c) (hn : fn.ntmps = N)
  (hname : (fn.name == "runtime.NumGoroutine") = false) (hsz : Nat.ble l.length N = true) (h : ∀ ρ L, K ⟨P, f, Post ρ L Φ, N, ρ⟩ [.code c] (argEnv 0 l) (pre ++ L)) : Fn P f l.toArray pre Φ := by
 refine ⟨⟨fn, hf, by rw [hb]; rfl, hname⟩, fun ρ L w hs cs => ?_⟩
 have hle : l.length ≤ N := Nat.le_of_ble_eq_true hsz
 let a : Act := { tmps := l.toArray ++ Array.replicate (fn.ntmps - l.toArray.size) undef, defers := [] }
 have hk : Know N (argEnv 0 l) a := by
  refine ⟨rfl, by simp [a, hn]; omega, fun t v e => ?_⟩
  obtain ⟨_, h2⟩ := argEnv_get l 0 t v e
  have h2 : l[t]? = some v := h2
  have ht : t < l.length := (List.getElem?_eq_some_iff.1 h2).1
  show (l.toArray ++ Array.replicate (fn.ntmps - l.toArray.size) undef)[t]? = some v
  rw [Array.getElem?_append_left (by simpa using ht)]
  simpa using h2
 let b : Frame := { (default : Frame) with fn := f, kind := .normal }
 obtain ⟨e, w', fr, hR, hc, r⟩ := h ρ L a w hk hs b cs rfl rfl
 have henter : Frame.enter P f l.toArray .normal = b.at a [.code c] := by
  simp [Frame.enter, Frame.at, hf, hb, b, a]
 rw [← henter] at hc
 exact ⟨e, w', fr, hR, hc, r⟩
def Env.evs (E : Env) : List Operand → Option (List Value)
 | [] => some []
 | x :: l => match Env.ev E x, Env.evs E l with | some v, some vs => some (v :: vs) | _, _ => none
theorem Know.evs {N : Nat} {E : Env} {a : Act} (h : Know N E a) : ∀ {l : List Operand} {vs : List Value}, Env.evs E l = some vs → l.map a.eval = vs
 | [], vs, e => by cases e; rfl
 | x :: l, vs, e => by
  simp only [Env.evs] at e
  cases hx : Env.ev E x with
  | none => rw [hx] at e; simp at e
  | some v =>
   cases hl : Env.evs E l with
   | none => rw [hx, hl] at e; simp at e
   | some us =>
    rw [hx, hl] at e
    cases e
    rw [List.map_cons, h.ev hx, h.evs hl]
theorem OpL.callC {X : Fx} {E : Env} {L L' : List HP} {d : Option Tmp} {x : Operand} {args : List Operand} {ats : Array TypeId} {ty : TypeId} {pos : String} {af : Array Edge} {gd : Option (Nat × Bool)}
  {f : FuncId} {first captured vs : List Value} {pre : List HP} {Φ : Value → List HP → Prop} (hx : Env.ev E x = some (.func (.func f) first.toArray captured.toArray)) (hargs : Env.evs E args = some vs)
  (hfn : Fn X.P f (first ++ vs ++ captured).toArray pre Φ) (hg : Give L pre L') :
  OpL X ⟨d, .call ⟨.value x, args.toArray, ats⟩, ty, pos, af, gd⟩ E L (fun v L'' => ∃ post, Φ v post ∧ L'' = post ++ L') := fun a w hk hs => by
 obtain ⟨⟨fn, hf, hbody, hname⟩, hcalls⟩ := hfn
 have e1 := hk.ev hx
 have e2 := hk.evs hargs
 have hrun : (execOp a.eval ⟨d, .call ⟨.value x, args.toArray, ats⟩, ty, pos, af, gd⟩).run X.P w = .ok (.enter f (first ++ vs ++ captured).toArray) w := by
  have n1 : ¬ fn.name = "runtime.NumGoroutine" := by simpa using hname
  have n2 : ¬ fn.body = none := fun e => by rw [e] at hbody; cases hbody
  simp [execOp, resolve, e1, Deferred.ofValue, invoke, callFunc, hf, n1, n2, e2]
 unfold Oper.wp
 rw [hrun]
 refine (hcalls X.ρ L' w (hs.give hg)).mono ?_
 rintro e w' ⟨v, post, rfl, hΦ, hst⟩
 exact ⟨v, post ++ L', ⟨post, hΦ, rfl⟩, rfl, hst⟩
theorem OpL.call {X : Fx} {E : Env} {L L' : List HP} {d : Option Tmp} {f : FuncId} {args : List Operand} {ats : Array TypeId} {ty : TypeId} {pos : String} {af : Array Edge} {gd : Option (Nat × Bool)}
  {vs : List Value} {pre : List HP} {Φ : Value → List HP → Prop} (hargs : Env.evs E args = some vs)
  (hfn : Fn X.P f vs.toArray pre Φ) (hg : Give L pre L') :
  OpL X ⟨d, .call ⟨.value (.func f), args.toArray, ats⟩, ty, pos, af, gd⟩ E L (fun v L'' => ∃ post, Φ v post ∧ L'' = post ++ L') :=
 OpL.callC (first := []) (captured := []) rfl hargs (by simpa using hfn) hg
end Go.Proofs.YtkbhldicnamcdaaGreat.L
namespace Go.Proofs.YtkbhldicnamcdaaGreat.L
open Go Go.RowKit
def fieldOff (P : Program) (s : TypeId) (f : Nat) : Option Nat :=
 match P.underlying s with
 | some (.struct fs) => match fs[f]? with
  | some fd => match P.info? fd.type with
   | some i => if i.size = 0 then none else some fd.offset
   | none => none
  | none => none
 | _ => none
def cellK (P : Program) (t : TypeId) : Option (Bool × Nat) :=
 match P.underlying t, P.info? t with
 | some (.struct _), some i | some (.array _ _), some i => some (true, i.size)
 | some _, some i => some (false, i.size)
 | _, _ => none
def slElem (P : Program) (t : TypeId) : Option (TypeId × Nat × Nat) :=
 match P.underlying t with
 | some (.slice e) => match P.info? e with
  | some i => some (e, i.size, i.bytes)
  | none => none
 | _ => none
def zeroOf (P : Program) (t : TypeId) : Option (List Value) := ((P.info? t).bind (·.zero)).map fun v => v.cells.toList
section
variable {X : Fx} {E : Env} {L : List HP} {d : Option Tmp} {ty : TypeId} {pos : String} {af : Array Edge} {gd : Option (Nat × Bool)}
theorem q_move {x : Operand} {v : Value} (hx : Env.ev E x = some v) : OpQ X ⟨d, .move x, ty, pos, af, gd⟩ E L v := fun a w hk _ => by
 simp [execOp, hk.ev hx]
theorem q_assign {x : Operand} {v : Value} (hx : Env.ev E x = some v) : OpQ X ⟨d, .assign x, ty, pos, af, gd⟩ E L v := fun a w hk _ => by
 simp [execOp, hk.ev hx]
theorem qT {c x y : Operand} {v : Value} (hc : Env.ev E c = some (.bool true)) (hx : Env.ev E x = some v) : OpQ X ⟨d, .pick c x y, ty, pos, af, gd⟩ E L v := fun a w hk _ => by
 simp [execOp, hk.ev hc, hk.ev hx, asBool]
theorem qF {c x y : Operand} {v : Value} (hc : Env.ev E c = some (.bool false)) (hy : Env.ev E y = some v) : OpQ X ⟨d, .pick c x y, ty, pos, af, gd⟩ E L v := fun a w hk _ => by
 simp [execOp, hk.ev hc, hk.ev hy, asBool]
theorem qN {x : Operand} {p : Addr} (hx : Env.ev E x = some (.pointer (some p))) : OpQ X ⟨d, .nilCheck x, ty, pos, af, gd⟩ E L (.pointer (some p)) := fun a w hk _ => by
 simp [execOp, hk.ev hx]
theorem add_addr (b o n : Nat) : (⟨b, o, none⟩ : Addr).add n = ⟨b, o + n, none⟩ := by
 unfold Addr.add
 split
 ·subst_vars; rfl
 ·rfl
theorem qO {s : TypeId} {x : Operand} {f off b o : Nat} (hf : fieldOff X.P s f = some off) (hx : Env.ev E x = some (.pointer (some ⟨b, o, none⟩))) :
  OpQ X ⟨d, .fieldAddr s x f, ty, pos, af, gd⟩ E L (.pointer (some ⟨b, o + off, none⟩)) := fun a w hk _ => by
 unfold fieldOff at hf
 cases hu : X.P.underlying s with
 | none => rw [hu] at hf; simp at hf
 | some ds =>
  cases ds <;> rw [hu] at hf <;> simp only [reduceCtorEq] at hf
  rename_i fs
  cases hfd : fs[f]? with
  | none => rw [hfd] at hf; simp at hf
  | some fd =>
   rw [hfd] at hf
   simp only at hf
   cases hi : X.P.info? fd.type with
   | none => rw [hi] at hf; simp at hf
   | some i =>
    rw [hi] at hf
    simp only at hf
    by_cases hz : i.size = 0
    ·rw [if_pos hz] at hf; cases hf
    ·rw [if_neg hz] at hf
     cases hf
     simp [execOp, hk.ev hx, Instr.fieldAt, underlying, hu, hfd, Instr.sureAddr, fieldPlace, sizeOf, typeInfo, hi, hz, add_addr]
theorem q_index {t e : TypeId} {x ix : Operand} {b o len cap sz bytes : Nat} {k : IntKind} {i : Int} (hs : slElem X.P t = some (e, sz, bytes)) (hx : Env.ev E x = some (.slice (some ⟨b, o, none⟩) len cap))
  (hi : Env.ev E ix = some (.int k i)) (h0 : 0 ≤ i) (h1 : i < len) : OpQ X ⟨d, .indexAddr t x ix, ty, pos, af, gd⟩ E L (.pointer (some ⟨b, o + i.toNat * sz, none⟩)) := fun a w hk _ => by
 unfold slElem at hs
 cases hu : X.P.underlying t with
 | none => rw [hu] at hs; simp at hs
 | some ds =>
  cases ds <;> rw [hu] at hs <;> simp only [reduceCtorEq] at hs
  rename_i e'
  cases hi' : X.P.info? e' with
  | none => rw [hi'] at hs; simp at hs
  | some inf =>
   rw [hi'] at hs
   simp only [Option.some.injEq, Prod.mk.injEq] at hs
   obtain ⟨rfl, rfl, rfl⟩ := hs
   simp [execOp, hk.ev hx, hk.ev hi, Instr.indexAt, asIntOf, underlying, hu, sizeOf, typeInfo, hi', h0, h1, add_addr]
theorem run_cellK1 {P : Program} {t : TypeId} {n : Nat} (h : cellK P t = some (false, n)) (w : World) : (isAgg t).run P w = .ok false w := by
 unfold cellK at h
 cases hu : P.underlying t with
 | none => rw [hu] at h; simp at h
 | some ds =>
  cases hi : P.info? t with
  | none => rw [hu, hi] at h; cases ds <;> simp at h
  | some i => rw [hu, hi] at h; cases ds <;> simp at h <;> simp [isAgg, underlying, hu]
theorem run_cellKN {P : Program} {t : TypeId} {n : Nat} (h : cellK P t = some (true, n)) (w : World) : (isAgg t).run P w = .ok true w := by
 unfold cellK at h
 cases hu : P.underlying t with
 | none => rw [hu] at h; simp at h
 | some ds =>
  cases hi : P.info? t with
  | none => rw [hu, hi] at h; cases ds <;> simp at h
  | some i => rw [hu, hi] at h; cases ds <;> simp at h <;> simp [isAgg, underlying, hu]
theorem run_sizeK {P : Program} {t : TypeId} {n : Nat} {c : Bool} (h : cellK P t = some (c, n)) (w : World) : (sizeOf t).run P w = .ok n w := by
 unfold cellK at h
 cases hi : P.info? t with
 | none => rw [hi] at h; cases hu : P.underlying t with | none => rw [hu] at h; simp at h | some ds => rw [hu] at h; cases ds <;> simp at h
 | some i =>
  rw [hi] at h
  have : i.size = n := by
   cases hu : P.underlying t with
   | none => rw [hu] at h; simp at h
   | some ds => rw [hu] at h; cases ds <;> simp at h <;> exact h.2
  simp [sizeOf, typeInfo, hi, this]
theorem q_load1 {t : TypeId} {x : Operand} {p : Addr} {v : Value} (ht : cellK X.P t = some (false, 1)) (hx : Env.ev E x = some (.pointer (some p))) (hc : ∀ w, St X.ρ L w → w.cell? p = some v) :
  OpQ X ⟨d, .load t x, ty, pos, af, gd⟩ E L v := fun a w hk hs => by
 simp [execOp, hk.ev hx, Instr.loadAt, Instr.sureAddr, loadVar, run_cellK1 ht, hc w hs]
theorem run_loadCellsFrom {P : Program} {w : World} {b o : Nat} : ∀ (cs : List Value) (i : Nat) (acc : Array Value), (∀ j v, cs[j]? = some v → w.cell? ⟨b, o + (i + j), none⟩ = some v) →
  (loadCellsFrom ⟨b, o, none⟩ i cs.length acc).run P w = .ok (acc ++ cs.toArray) w
 | [], i, acc, _ => by simp [loadCellsFrom]
 | v :: cs, i, acc, h => by
  have h0 := h 0 v rfl
  have ih := run_loadCellsFrom (P := P) cs (i + 1) (acc.push v) (fun j u hj => by have := h (j + 1) u (by simpa using hj); rwa [show i + 1 + j = i + (j + 1) by omega])
  simp only [List.length_cons, loadCellsFrom, Sem.run_bind, run_load, add_addr]
  rw [Nat.add_zero] at h0
  rw [h0]
  simp only [Result.andThen_ok]
  rw [ih]
  simp
theorem qL {t : TypeId} {x : Operand} {b o n : Nat} {cs : List Value} (ht : cellK X.P t = some (true, n)) (hx : Env.ev E x = some (.pointer (some ⟨b, o, none⟩))) (hn : cs.length = n)
  (hc : ∀ w, St X.ρ L w → ∀ j v, cs[j]? = some v → w.cell? ⟨b, o + j, none⟩ = some v) : OpQ X ⟨d, .load t x, ty, pos, af, gd⟩ E L (.agg cs.toArray) := fun a w hk hs => by
 have := run_loadCellsFrom (P := X.P) (w := w) (b := b) (o := o) cs 0 #[] (fun j v hj => by rw [Nat.zero_add]; exact hc w hs j v hj)
 simp only [execOp, hk.ev hx, Instr.loadAt, Instr.sureAddr, loadVar, Sem.run_bind, Sem.run_pure, Result.andThen_ok, run_cellKN ht, if_true, run_sizeK ht, loadCells]
 rw [← hn, this]
 simp
end
end Go.Proofs.YtkbhldicnamcdaaGreat.L
namespace Go.Proofs.YtkbhldicnamcdaaGreat.L
open Go Go.RowKit
theorem wrap_i64 {n : Int} (h0 : -9223372036854775808 ≤ n) (h1 : n ≤ 9223372036854775807) : IntKind.i64.wrap n = n := by
 rw [IntKind.wrap_i64]; omega
theorem wrap_u64 {n : Int} (h0 : 0 ≤ n) (h1 : n ≤ 18446744073709551615) : IntKind.u64.wrap n = n := by
 unfold IntKind.wrap
 simp only [IntKind.bits, IntKind.signed, Bool.false_and, Bool.false_eq_true, if_false]
 exact Int.emod_eq_of_lt h0 (by omega)
theorem wrap_u8 {n : Int} (h0 : 0 ≤ n) (h1 : n ≤ 255) : IntKind.u8.wrap n = n := by
 unfold IntKind.wrap
 simp only [IntKind.bits, IntKind.signed, Bool.false_and, Bool.false_eq_true, if_false]
 exact Int.emod_eq_of_lt h0 (by omega)
section
variable {X : Fx} {E : Env} {L : List HP} {d : Option Tmp} {ty : TypeId} {pos : String} {af : Array Edge} {gd : Option (Nat × Bool)} {t u : TypeId} {x y : Operand}
theorem q_addw {k : IntKind} {a b : Int} (hx : Env.ev E x = some (.int k a)) (hy : Env.ev E y = some (.int k b)) : OpQ X ⟨d, .binOp .add t x y u, ty, pos, af, gd⟩ E L (.int k (k.wrap (a + b))) := fun _ w hk _ => by
 simp [execOp, hk.ev hx, hk.ev hy, eqGuard, binOp, Op.intArith]
theorem q_subw {k : IntKind} {a b : Int} (hx : Env.ev E x = some (.int k a)) (hy : Env.ev E y = some (.int k b)) : OpQ X ⟨d, .binOp .sub t x y u, ty, pos, af, gd⟩ E L (.int k (k.wrap (a - b))) := fun _ w hk _ => by
 simp [execOp, hk.ev hx, hk.ev hy, eqGuard, binOp, Op.intArith]
theorem q_mulw {k : IntKind} {a b : Int} (hx : Env.ev E x = some (.int k a)) (hy : Env.ev E y = some (.int k b)) : OpQ X ⟨d, .binOp .mul t x y u, ty, pos, af, gd⟩ E L (.int k (k.wrap (a * b))) := fun _ w hk _ => by
 simp [execOp, hk.ev hx, hk.ev hy, eqGuard, binOp, Op.intArith]
theorem q_add {a b : Int} (hx : Env.ev E x = some (.int .i64 a)) (hy : Env.ev E y = some (.int .i64 b)) (h0 : -9223372036854775808 ≤ a + b) (h1 : a + b ≤ 9223372036854775807) : OpQ X ⟨d, .binOp .add t x y u, ty, pos, af, gd⟩ E L (.int .i64 (a + b)) := by
 have := q_addw (X := X) (L := L) (d := d) (ty := ty) (pos := pos) (af := af) (gd := gd) (t := t) (u := u) hx hy
 rwa [wrap_i64 h0 h1] at this
theorem q_sub {a b : Int} (hx : Env.ev E x = some (.int .i64 a)) (hy : Env.ev E y = some (.int .i64 b)) (h0 : -9223372036854775808 ≤ a - b) (h1 : a - b ≤ 9223372036854775807) : OpQ X ⟨d, .binOp .sub t x y u, ty, pos, af, gd⟩ E L (.int .i64 (a - b)) := by
 have := q_subw (X := X) (L := L) (d := d) (ty := ty) (pos := pos) (af := af) (gd := gd) (t := t) (u := u) hx hy
 rwa [wrap_i64 h0 h1] at this
theorem q_mul {a b : Int} (hx : Env.ev E x = some (.int .i64 a)) (hy : Env.ev E y = some (.int .i64 b)) (h0 : -9223372036854775808 ≤ a * b) (h1 : a * b ≤ 9223372036854775807) : OpQ X ⟨d, .binOp .mul t x y u, ty, pos, af, gd⟩ E L (.int .i64 (a * b)) := by
 have := q_mulw (X := X) (L := L) (d := d) (ty := ty) (pos := pos) (af := af) (gd := gd) (t := t) (u := u) hx hy
 rwa [wrap_i64 h0 h1] at this
theorem q_div {k : IntKind} {a b : Int} (hx : Env.ev E x = some (.int k a)) (hy : Env.ev E y = some (.int k b)) (hb : b ≠ 0) : OpQ X ⟨d, .binOp .quo t x y u, ty, pos, af, gd⟩ E L (.int k (k.wrap (a.tdiv b))) := fun _ w hk _ => by
 simp [execOp, hk.ev hx, hk.ev hy, eqGuard, binOp, Op.intDiv, hb]
theorem q_and {k : IntKind} {a b : Int} (hx : Env.ev E x = some (.int k a)) (hy : Env.ev E y = some (.int k b)) : OpQ X ⟨d, .binOp .and t x y u, ty, pos, af, gd⟩ E L (.int k (k.wrap ((BitVec.ofInt k.bits a &&& BitVec.ofInt k.bits b).toNat))) := fun _ w hk _ => by
 simp [execOp, hk.ev hx, hk.ev hy, eqGuard, binOp, Op.intBits]
theorem q_or {k : IntKind} {a b : Int} (hx : Env.ev E x = some (.int k a)) (hy : Env.ev E y = some (.int k b)) : OpQ X ⟨d, .binOp .or t x y u, ty, pos, af, gd⟩ E L (.int k (k.wrap ((BitVec.ofInt k.bits a ||| BitVec.ofInt k.bits b).toNat))) := fun _ w hk _ => by
 simp [execOp, hk.ev hx, hk.ev hy, eqGuard, binOp, Op.intBits]
theorem q_shl {k j : IntKind} {a b : Int} (hx : Env.ev E x = some (.int k a)) (hy : Env.ev E y = some (.int j b)) (hb : 0 ≤ b) : OpQ X ⟨d, .binOp .shl t x y u, ty, pos, af, gd⟩ E L (.int k (k.wrap (a * 2 ^ (min b.toNat k.bits)))) := fun _ w hk _ => by
 have : ¬ b < 0 := by omega
 simp [execOp, hk.ev hx, hk.ev hy, eqGuard, binOp, Op.shift, this]
theorem q_shr {k j : IntKind} {a b : Int} (hx : Env.ev E x = some (.int k a)) (hy : Env.ev E y = some (.int j b)) (hb : 0 ≤ b) : OpQ X ⟨d, .binOp .shr t x y u, ty, pos, af, gd⟩ E L (.int k (a.fdiv (2 ^ (min b.toNat k.bits)))) := fun _ w hk _ => by
 have : ¬ b < 0 := by omega
 simp [execOp, hk.ev hx, hk.ev hy, eqGuard, binOp, Op.shift, this]
theorem beq_dec (a b : Int) : (a == b) = decide (a = b) := by
 by_cases h : a = b <;> simp [h]
theorem bne_dec (a b : Int) : (a != b) = decide (¬ a = b) := by
 by_cases h : a = b <;> simp [h]
theorem q_lt {k : IntKind} {a b : Int} (hx : Env.ev E x = some (.int k a)) (hy : Env.ev E y = some (.int k b)) : OpQ X ⟨d, .binOp .lss t x y u, ty, pos, af, gd⟩ E L (.bool (decide (a < b))) := fun _ w hk _ => by
 simp [execOp, hk.ev hx, hk.ev hy, eqGuard, binOp, Op.intCmp]
theorem q_le {k : IntKind} {a b : Int} (hx : Env.ev E x = some (.int k a)) (hy : Env.ev E y = some (.int k b)) : OpQ X ⟨d, .binOp .leq t x y u, ty, pos, af, gd⟩ E L (.bool (decide (a ≤ b))) := fun _ w hk _ => by
 simp [execOp, hk.ev hx, hk.ev hy, eqGuard, binOp, Op.intCmp]
theorem q_gt {k : IntKind} {a b : Int} (hx : Env.ev E x = some (.int k a)) (hy : Env.ev E y = some (.int k b)) : OpQ X ⟨d, .binOp .gtr t x y u, ty, pos, af, gd⟩ E L (.bool (decide (b < a))) := fun _ w hk _ => by
 simp [execOp, hk.ev hx, hk.ev hy, eqGuard, binOp, Op.intCmp]
theorem q_ge {k : IntKind} {a b : Int} (hx : Env.ev E x = some (.int k a)) (hy : Env.ev E y = some (.int k b)) : OpQ X ⟨d, .binOp .geq t x y u, ty, pos, af, gd⟩ E L (.bool (decide (b ≤ a))) := fun _ w hk _ => by
 simp [execOp, hk.ev hx, hk.ev hy, eqGuard, binOp, Op.intCmp]
theorem q_eq {k : IntKind} {a b : Int} (hx : Env.ev E x = some (.int k a)) (hy : Env.ev E y = some (.int k b)) : OpQ X ⟨d, .binOp .eql t x y u, ty, pos, af, gd⟩ E L (.bool (decide (a = b))) := fun _ w hk _ => by
 simp [execOp, hk.ev hx, hk.ev hy, eqGuard, binOp, Op.intCmp, beq_dec]
theorem q_ne {k : IntKind} {a b : Int} (hx : Env.ev E x = some (.int k a)) (hy : Env.ev E y = some (.int k b)) : OpQ X ⟨d, .binOp .neq t x y u, ty, pos, af, gd⟩ E L (.bool (decide (¬ a = b))) := fun _ w hk _ => by
 simp [execOp, hk.ev hx, hk.ev hy, eqGuard, binOp, Op.intCmp, bne_dec]
theorem q_not {b : Bool} (hx : Env.ev E x = some (.bool b)) : OpQ X ⟨d, .unOp .not t x, ty, pos, af, gd⟩ E L (.bool (!b)) := fun _ w hk _ => by
 simp [execOp, hk.ev hx, Op.unary]
theorem q_convw {k j : IntKind} {a : Int} (hu : X.P.underlying u = some (.int k)) (ht : (X.P.underlying t).isSome = true) (hx : Env.ev E x = some (.int j a)) : OpQ X ⟨d, .convert t u x, ty, pos, af, gd⟩ E L (.int k (k.wrap a)) := fun _ w hk _ => by
 obtain ⟨ds, hds⟩ := Option.isSome_iff_exists.1 ht
 simp [execOp, hk.ev hx, convert, underlying, hu, hds, Conv.intToInt]
theorem q_conv {k j : IntKind} {a : Int} (hu : X.P.underlying u = some (.int k)) (ht : (X.P.underlying t).isSome = true) (hx : Env.ev E x = some (.int j a)) (hw : k.wrap a = a) : OpQ X ⟨d, .convert t u x, ty, pos, af, gd⟩ E L (.int k a) := by
 have := q_convw (X := X) (L := L) (d := d) (ty := ty) (pos := pos) (af := af) (gd := gd) hu ht hx
 rwa [hw] at this
theorem run_eql {P : Program} {w : World} {t : TypeId} {a b : Value} {r : Bool} (hb : binOp .eql t a b = (do pure (.bool (← Op.equal t a b)))) (h : (Op.equalIn (9999 + 1) t a b).run P w = .ok r w) : (binOp .eql t a b).run P w = .ok (.bool r) w := by
 rw [hb]
 have h : (Op.equal t a b).run P w = .ok r w := h
 simp [h]
theorem run_neq {P : Program} {w : World} {t : TypeId} {a b : Value} {r : Bool} (hb : binOp .neq t a b = (do pure (.bool (!(← Op.equal t a b))))) (h : (Op.equalIn (9999 + 1) t a b).run P w = .ok r w) : (binOp .neq t a b).run P w = .ok (.bool (!r)) w := by
 rw [hb]
 have h : (Op.equal t a b).run P w = .ok r w := h
 simp [h]
theorem run_und {P : Program} {t : TypeId} {ds : TypeDesc} (h : P.underlying t = some ds) (w : World) : (underlying t).run P w = .ok ds w := by
 simp [underlying, h]
theorem eq_bool {P : Program} {w : World} {t : TypeId} {a b : Bool} (n : Nat) (ht : P.underlying t = some .bool) : (Op.equalIn (n + 1) t (.bool a) (.bool b)).run P w = .ok (a == b) w := by
 simp [Op.equalIn, run_und ht]
theorem eq_int {P : Program} {w : World} {t : TypeId} {k : IntKind} {a b : Int} (n : Nat) (ht : P.underlying t = some (.int k)) : (Op.equalIn (n + 1) t (.int k a) (.int k b)).run P w = .ok (a == b) w := by
 simp [Op.equalIn, run_und ht]
theorem eq_str {P : Program} {w : World} {t : TypeId} {a b : ByteArray} (n : Nat) (ht : P.underlying t = some .string) : (Op.equalIn (n + 1) t (.string a) (.string b)).run P w = .ok (a == b) w := by
 simp [Op.equalIn, run_und ht]
theorem eq_ptr {P : Program} {w : World} {t e : TypeId} {p : Option Addr} (n : Nat) (ht : P.underlying t = some (.pointer e)) : (Op.equalIn (n + 1) t (.pointer p) (.pointer none)).run P w = .ok p.isNone w := by
 cases p <;> simp [Op.equalIn, run_und ht]
theorem eq_sl {P : Program} {w : World} {t e : TypeId} {p : Option Addr} {l c : Nat} (n : Nat) (ht : P.underlying t = some (.slice e)) : (Op.equalIn (n + 1) t (.slice p l c) (.slice none 0 0)).run P w = .ok p.isNone w := by
 cases p <;> simp [Op.equalIn, run_und ht]
theorem q_beq {a b : Bool} (ht : X.P.underlying t = some .bool) (hx : Env.ev E x = some (.bool a)) (hy : Env.ev E y = some (.bool b)) : OpQ X ⟨d, .binOp .eql t x y u, ty, pos, af, gd⟩ E L (.bool (a == b)) := fun _ w hk _ => by
 simp only [execOp, hk.ev hx, hk.ev hy, eqGuard, Sem.run_bind, Sem.run_pure]
 simp [run_eql (P := X.P) (w := w) rfl (eq_bool 9999 ht)]
theorem q_bne {a b : Bool} (ht : X.P.underlying t = some .bool) (hx : Env.ev E x = some (.bool a)) (hy : Env.ev E y = some (.bool b)) : OpQ X ⟨d, .binOp .neq t x y u, ty, pos, af, gd⟩ E L (.bool (a != b)) := fun _ w hk _ => by
 simp only [execOp, hk.ev hx, hk.ev hy, eqGuard, Sem.run_bind, Sem.run_pure]
 simp [run_neq (P := X.P) (w := w) rfl (eq_bool 9999 ht), bne]
theorem toList_inj {a b : ByteArray} : a.toList = b.toList ↔ a = b := by
 constructor
 ·intro h
  have : a.data.toList = b.data.toList := by simpa [Go.Lib.toList_data] using h
  cases a; cases b; simp_all
 ·intro h; rw [h]
theorem sbeq_dec (a b : ByteArray) : (a.toList == b.toList) = decide (a = b) := by
 by_cases h : a = b
 ·simp [h]
 ·simp [h, toList_inj]
theorem q_seq {a b : ByteArray} (hx : Env.ev E x = some (.string a)) (hy : Env.ev E y = some (.string b)) : OpQ X ⟨d, .binOp .eql t x y u, ty, pos, af, gd⟩ E L (.bool (decide (a = b))) := fun _ w hk _ => by
 simp [execOp, hk.ev hx, hk.ev hy, eqGuard, binOp, Op.stringOp, sbeq_dec]
theorem q_sne {a b : ByteArray} (hx : Env.ev E x = some (.string a)) (hy : Env.ev E y = some (.string b)) : OpQ X ⟨d, .binOp .neq t x y u, ty, pos, af, gd⟩ E L (.bool (decide (¬ a = b))) := fun _ w hk _ => by
 simp [execOp, hk.ev hx, hk.ev hy, eqGuard, binOp, Op.stringOp, sbeq_dec]
theorem q_slt {a b : ByteArray} (hx : Env.ev E x = some (.string a)) (hy : Env.ev E y = some (.string b)) : OpQ X ⟨d, .binOp .lss t x y u, ty, pos, af, gd⟩ E L (.bool (Op.bytesLess a.toList b.toList)) := fun _ w hk _ => by
 simp [execOp, hk.ev hx, hk.ev hy, eqGuard, binOp, Op.stringOp]
theorem q_sgt {a b : ByteArray} (hx : Env.ev E x = some (.string a)) (hy : Env.ev E y = some (.string b)) : OpQ X ⟨d, .binOp .gtr t x y u, ty, pos, af, gd⟩ E L (.bool (!(Op.bytesLess a.toList b.toList || decide (a = b)))) := fun _ w hk _ => by
 simp [execOp, hk.ev hx, hk.ev hy, eqGuard, binOp, Op.stringOp, ← sbeq_dec]
theorem q_sindex {s : ByteArray} {k : IntKind} {i : Int} (ht : X.P.underlying t = some .string) (hx : Env.ev E x = some (.string s)) (hy : Env.ev E y = some (.int k i)) (h0 : 0 ≤ i) (h1 : i.toNat < s.size) :
  OpQ X ⟨d, .index t x y, ty, pos, af, gd⟩ E L (.int .u8 (s[i.toNat]).toNat) := fun _ w hk _ => by
 simp [execOp, hk.ev hx, hk.ev hy, Instr.index, asIntOf, underlying, ht, h0, h1]
theorem q_pnil {p : Option Addr} {e : TypeId} (ht : X.P.underlying t = some (.pointer e)) (hx : Env.ev E x = some (.pointer p)) (hy : Env.ev E y = some (.pointer none)) : OpQ X ⟨d, .binOp .eql t x y u, ty, pos, af, gd⟩ E L (.bool p.isNone) := fun _ w hk _ => by
 simp only [execOp, hk.ev hx, hk.ev hy, eqGuard, Sem.run_bind, Sem.run_pure]
 simp [run_eql (P := X.P) (w := w) rfl (eq_ptr (p := p) 9999 ht)]
theorem q_pnn {p : Option Addr} {e : TypeId} (ht : X.P.underlying t = some (.pointer e)) (hx : Env.ev E x = some (.pointer p)) (hy : Env.ev E y = some (.pointer none)) : OpQ X ⟨d, .binOp .neq t x y u, ty, pos, af, gd⟩ E L (.bool p.isSome) := fun _ w hk _ => by
 simp only [execOp, hk.ev hx, hk.ev hy, eqGuard, Sem.run_bind, Sem.run_pure]
 cases p with
 | none => simp [run_neq (P := X.P) (w := w) rfl (eq_ptr (p := none) 9999 ht)]
 | some q => simp [run_neq (P := X.P) (w := w) rfl (eq_ptr (p := some q) 9999 ht)]
theorem q_slnil {p : Option Addr} {n c : Nat} {e : TypeId} (ht : X.P.underlying t = some (.slice e)) (hx : Env.ev E x = some (.slice p n c)) (hy : Env.ev E y = some (.slice none 0 0)) : OpQ X ⟨d, .binOp .eql t x y u, ty, pos, af, gd⟩ E L (.bool p.isNone) := fun _ w hk _ => by
 simp only [execOp, hk.ev hx, hk.ev hy, eqGuard, Sem.run_bind, Sem.run_pure]
 simp [run_eql (P := X.P) (w := w) rfl (eq_sl (p := p) (l := n) (c := c) 9999 ht)]
theorem qX {vs : List Value} {i : Nat} {v : Value} (hx : Env.ev E x = some (.tuple vs.toArray)) (hi : vs[i]? = some v) : OpQ X ⟨d, .extract x i, ty, pos, af, gd⟩ E L v := fun _ w hk _ => by
 simp [execOp, hk.ev hx, Instr.extract, hi]
theorem q_func {f : FuncId} {first captured : List Operand} {vs us : List Value} (h1 : Env.evs E first = some vs) (h2 : Env.evs E captured = some us) :
  OpQ X ⟨d, .makeFunc (.func f) first.toArray captured.toArray, ty, pos, af, gd⟩ E L (.func (.func f) vs.toArray us.toArray) := fun _ w hk _ => by
 simp [execOp, Instr.makeFunc, hk.evs h1, hk.evs h2]
theorem q_lenS {s : ByteArray} {a : TypeId} (ht : X.P.underlying a = some .string) (hx : Env.ev E x = some (.string s)) : OpQ X ⟨d, .call ⟨.builtin .len, [x].toArray, [a].toArray⟩, ty, pos, af, gd⟩ E L (.int .i64 s.size) := fun _ w hk _ => by
 simp [execOp, hk.ev hx, resolve, invoke, builtin, Builtin.len_, underlying, ht, goInt]
theorem qG {p : Option Addr} {n c : Nat} {a e : TypeId} (ht : X.P.underlying a = some (.slice e)) (hx : Env.ev E x = some (.slice p n c)) : OpQ X ⟨d, .call ⟨.builtin .len, [x].toArray, [a].toArray⟩, ty, pos, af, gd⟩ E L (.int .i64 n) := fun _ w hk _ => by
 simp [execOp, hk.ev hx, resolve, invoke, builtin, Builtin.len_, underlying, ht, goInt]
theorem q_min {k : IntKind} {a b : Int} {ats : Array TypeId} (hx : Env.ev E x = some (.int k a)) (hy : Env.ev E y = some (.int k b)) : OpQ X ⟨d, .call ⟨.builtin .min, [x, y].toArray, ats⟩, ty, pos, af, gd⟩ E L (.int k (if b < a then b else a)) := fun _ w hk _ => by
 simp [execOp, hk.ev hx, hk.ev hy, resolve, invoke, builtin, Builtin.min_, Builtin.min2]
theorem q_scut {s : ByteArray} {lo hi : Option Operand} {l h : Nat} (ht : X.P.underlying t = some .string) (hx : Env.ev E x = some (.string s))
  (hl : match lo with | none => l = 0 | some z => Env.ev E z = some (.int .i64 l)) (hh : match hi with | none => h = s.size | some z => Env.ev E z = some (.int .i64 h)) (h1 : l ≤ h) (h2 : h ≤ s.size) :
  OpQ X ⟨d, .slice t x lo hi none, ty, pos, af, gd⟩ E L (.string (s.extract l h)) := fun _ w hk _ => by
 cases lo <;> cases hi <;> simp only at hl hh
 ·subst hl hh; simp [execOp, hk.ev hx, Instr.sliceAt, underlying, ht, Instr.slice, Instr.sliceBounds]
 ·subst hl; simp [execOp, hk.ev hx, hk.ev hh, Instr.sliceAt, underlying, ht, Instr.slice, Instr.sliceBounds, Instr.sliceBound, asIntOf, h2]
 ·subst hh; simp [execOp, hk.ev hx, hk.ev hl, Instr.sliceAt, underlying, ht, Instr.slice, Instr.sliceBounds, Instr.sliceBound, asIntOf, h1]
 ·simp [execOp, hk.ev hx, hk.ev hl, hk.ev hh, Instr.sliceAt, underlying, ht, Instr.slice, Instr.sliceBounds, Instr.sliceBound, asIntOf, h1, h2]
def cutAddr (p : Option Addr) (cap l sz : Nat) : Option Addr := if cap = l then p else p.map fun a => a.add (l * sz)
theorem q_cut {p : Option Addr} {n cap e sz bytes : Nat} {lo hi : Option Operand} {l h : Nat} (ht : slElem X.P t = some (e, sz, bytes)) (hx : Env.ev E x = some (.slice p n cap))
  (hl : match lo with | none => l = 0 | some z => Env.ev E z = some (.int .i64 l)) (hh : match hi with | none => h = n | some z => Env.ev E z = some (.int .i64 h)) (h1 : l ≤ h) (h2 : h ≤ cap) :
  OpQ X ⟨d, .slice t x lo hi none, ty, pos, af, gd⟩ E L (.slice (cutAddr p cap l sz) (h - l) (cap - l)) := fun _ w hk _ => by
 unfold slElem at ht
 cases hu : X.P.underlying t with
 | none => rw [hu] at ht; simp at ht
 | some ds =>
  cases ds <;> rw [hu] at ht <;> simp only [reduceCtorEq] at ht
  rename_i e'
  cases hi' : X.P.info? e' with
  | none => rw [hi'] at ht; simp at ht
  | some inf =>
   rw [hi'] at ht
   simp only [Option.some.injEq, Prod.mk.injEq] at ht
   obtain ⟨rfl, rfl, rfl⟩ := ht
   cases lo <;> cases hi <;> simp only at hl hh
   ·subst hl hh; simp [execOp, hk.ev hx, Instr.sliceAt, underlying, hu, Instr.slice, Instr.sliceBounds, sizeOf, typeInfo, hi', cutAddr]
   ·subst hl; simp [execOp, hk.ev hx, hk.ev hh, Instr.sliceAt, underlying, hu, Instr.slice, Instr.sliceBounds, Instr.sliceBound, asIntOf, h2, sizeOf, typeInfo, hi', cutAddr]
   ·subst hh; simp [execOp, hk.ev hx, hk.ev hl, Instr.sliceAt, underlying, hu, Instr.slice, Instr.sliceBounds, Instr.sliceBound, asIntOf, h1, sizeOf, typeInfo, hi', cutAddr]
   ·simp [execOp, hk.ev hx, hk.ev hl, hk.ev hh, Instr.sliceAt, underlying, hu, Instr.slice, Instr.sliceBounds, Instr.sliceBound, asIntOf, h1, h2, sizeOf, typeInfo, hi', cutAddr]
end
end Go.Proofs.YtkbhldicnamcdaaGreat.L
namespace Go.Proofs.YtkbhldicnamcdaaGreat.L
open Go Go.RowKit
def pv (b : Nat) (e : TypeId) (cs : List Value) : HP := pt b (.cells cs.toArray e (0, 0))
def fv (b : Nat) (e : TypeId) (cs : List Value) : HP := fz b (.cells cs.toArray e (0, 0))
theorem cell_of_heap {w : World} {b o : Nat} {c : Array Value} {e : TypeId} {fr : Nat × Nat} {v : Value} (h : w.heap[b]? = some (.cells c e fr)) (hv : c[o]? = some v) : w.cell? ⟨b, o, none⟩ = some v := by
 simp [World.cell?, h, hv]
theorem cell_pv {ρ : World} {L : List HP} {b o : Nat} {e : TypeId} {cs : List Value} {v : Value} (m : pv b e cs ∈ L) (hv : cs[o]? = some v) : ∀ w, St ρ L w → w.cell? ⟨b, o, none⟩ = some v := fun w hs =>
 cell_of_heap (hs.pt_heap m) (by simpa using hv)
theorem cell_fv {ρ : World} {L : List HP} {b o : Nat} {e : TypeId} {cs : List Value} {v : Value} (m : fv b e cs ∈ L) (hv : cs[o]? = some v) : ∀ w, St ρ L w → w.cell? ⟨b, o, none⟩ = some v := fun w hs =>
 cell_of_heap (hs.fz_heap m) (by simpa using hv)
theorem cP {ρ : World} {L : List HP} {b : Nat} {e : TypeId} {cs : List Value} (m : pv b e cs ∈ L) : ∀ w, St ρ L w → ∀ j v, cs[j]? = some v → w.cell? ⟨b, 0 + j, none⟩ = some v := fun w hs j v hv => by
 rw [Nat.zero_add]; exact cell_pv m hv w hs
theorem cells_fv {ρ : World} {L : List HP} {b : Nat} {e : TypeId} {cs : List Value} (m : fv b e cs ∈ L) : ∀ w, St ρ L w → ∀ j v, cs[j]? = some v → w.cell? ⟨b, 0 + j, none⟩ = some v := fun w hs j v hv => by
 rw [Nat.zero_add]; exact cell_fv m hv w hs
theorem St.fzv {ρ : World} {b : Nat} {e : TypeId} {cs : List Value} {L : List HP} {w : World} (h : St ρ (pv b e cs :: L) w) : St ρ (fv b e cs :: L) w := h.freeze_pt
def putBlk (w : World) (b : Nat) (o : Obj) : World := { w with heap := w.heap.setIfInBounds b o }
theorem St.put {ρ : World} {L : List HP} {w : World} {b : Nat} {o : Obj} (h : St ρ (pt b o :: L) w) (o' : Obj) : St ρ (pt b o' :: L) (putBlk w b o') := by
 have hb := h.pt_heap (List.Mem.head _)
 have hlt : b < w.heap.size := (Array.getElem?_eq_some_iff.1 hb).1
 exact h.write rfl rfl rfl (by simp [putBlk, hlt]) (fun x hx => by simp [putBlk, Array.getElem?_setIfInBounds_ne (Ne.symm hx)])
theorem setCell_putBlk {w : World} {b o : Nat} {c : Array Value} {e : TypeId} {fr : Nat × Nat} (h : w.heap[b]? = some (.cells c e fr)) (v : Value) : w.setCell ⟨b, o, none⟩ v = putBlk w b (.cells (c.setIfInBounds o v) e fr) := by
 obtain ⟨hlt, hb⟩ := Array.getElem?_eq_some_iff.1 h
 unfold World.setCell putBlk
 congr 1
 apply Array.ext
 ·simp
 ·intro i h1 h2
  have h1' : i < w.heap.size := by simpa using h1
  rw [Array.getElem_setIfInBounds h1']
  simp only [Array.getElem_modify]
  by_cases hi : b = i
  ·subst hi; simp [hb]
  ·simp [hi]
theorem putBlk_putBlk (w : World) (b : Nat) (o o' : Obj) : putBlk (putBlk w b o) b o' = putBlk w b o' := by
 unfold putBlk; simp
theorem putBlk_self {w : World} {b : Nat} {o : Obj} (h : w.heap[b]? = some o) : putBlk w b o = w := by
 obtain ⟨hlt, hb⟩ := Array.getElem?_eq_some_iff.1 h
 unfold putBlk
 have : w.heap.setIfInBounds b o = w.heap := by
  apply Array.ext
  ·simp
  ·intro i h1 h2
   rw [Array.getElem_setIfInBounds (by simpa using h1)]
   split
   ·subst_vars; rfl
   ·rfl
 rw [this]
theorem heap_putBlk {w : World} {b : Nat} {o : Obj} (o' : Obj) (h : w.heap[b]? = some o) : (putBlk w b o').heap[b]? = some o' := by
 have hlt : b < w.heap.size := (Array.getElem?_eq_some_iff.1 h).1
 simp [putBlk, hlt]
def spl (c : Array Value) (at_ : Nat) : List Value → Array Value
 | [] => c
 | v :: vs => spl (c.setIfInBounds at_ v) (at_ + 1) vs
theorem spl_size : ∀ (vs : List Value) (c : Array Value) (n : Nat), (spl c n vs).size = c.size
 | [], _, _ => rfl
 | v :: vs, c, n => by rw [spl, spl_size vs]; simp
theorem spl_get : ∀ (vs : List Value) (c : Array Value) (n j : Nat), n + vs.length ≤ c.size → (spl c n vs)[j]? = if n ≤ j ∧ j < n + vs.length then vs[j - n]? else c[j]?
 | [], c, n, j, _ => by rw [spl, if_neg (by simp only [List.length_nil]; omega)]
 | v :: vs, c, n, j, h => by
  simp only [List.length_cons] at h
  rw [spl, spl_get vs _ _ _ (by simp; omega)]
  have hn : n < c.size := by omega
  by_cases h1 : n + 1 ≤ j ∧ j < n + 1 + vs.length
  ·rw [if_pos h1, if_pos (by simp only [List.length_cons]; omega)]
   rw [show j - n = (j - (n + 1)) + 1 by omega, List.getElem?_cons_succ]
  ·rw [if_neg h1]
   by_cases h2 : j = n
   ·subst h2; rw [if_pos (by simp)]; simp [hn]
   ·rw [if_neg (by simp only [List.length_cons]; omega), Array.getElem?_setIfInBounds_ne (Ne.symm h2)]
theorem run_store_in {P : Program} {w : World} {b o : Nat} {c : Array Value} {e : TypeId} (h : w.heap[b]? = some (.cells c e (0, 0))) {v : Value} (hv : v.oneCell' = true) (ho : o < c.size) :
  (store ⟨b, o, none⟩ v).run P w = .ok () (putBlk w b (.cells (c.setIfInBounds o v) e (0, 0))) := by
 rw [run_store P w _ v _ hv]
 have h1 : w.cell? ⟨b, o, none⟩ = some c[o] := cell_of_heap h (by simp [ho])
 have h2 : w.frozen? ⟨b, o, none⟩ = false := by simp [World.frozen?, h]
 rw [h1]
 simp only [h2, Bool.false_eq_true, if_false]
 rw [setCell_putBlk h]
theorem run_storeCells {P : Program} {b o : Nat} {e : TypeId} : ∀ (vs : List Value) (i : Nat) (w : World) (c : Array Value), w.heap[b]? = some (.cells c e (0, 0)) → (∀ v ∈ vs, v.oneCell' = true) → o + i + vs.length ≤ c.size →
  (storeCells ⟨b, o, none⟩ vs i).run P w = .ok () (putBlk w b (.cells (spl c (o + i) vs) e (0, 0)))
 | [], i, w, c, h, _, _ => by simp [storeCells, spl, putBlk_self h]
 | v :: vs, i, w, c, h, hv, hl => by
  simp only [List.length_cons] at hl
  have h1 := run_store_in (P := P) h (hv v List.mem_cons_self) (o := o + i) (by omega)
  simp only [storeCells, Sem.run_bind, add_addr, h1, Result.andThen_ok]
  rw [run_storeCells vs (i + 1) _ (c.setIfInBounds (o + i) v) (heap_putBlk _ h) (fun u hu => hv u (List.mem_cons_of_mem _ hu)) (by simp; omega), putBlk_putBlk]
  rw [spl, show o + i + 1 = o + (i + 1) by omega]
structure Kd (α : Type) where
 sz : Nat
 rd : Hp → α → List Value → Prop
 mono : ∀ {g g' x cs}, Hp.le g g' → rd g x cs → rd g' x cs
 len : ∀ {g x cs}, rd g x cs → cs.length = sz
 one : ∀ {g x cs}, rd g x cs → ∀ v ∈ cs, v.oneCell' = true
def Kd.flat {α : Type} (sz : Nat) (enc : α → List Value) (hl : ∀ x, (enc x).length = sz) (h1 : ∀ x, ∀ v ∈ enc x, v.oneCell' = true) : Kd α where
 sz := sz
 rd := fun _ x cs => cs = enc x
 mono := fun _ h => h
 len := fun h => h ▸ hl _
 one := fun h => h ▸ h1 _
def Kd.int (k : IntKind) : Kd Int := Kd.flat 1 (fun n => [.int k n]) (fun _ => rfl) (fun _ v h => by simp at h; subst h; rfl)
def Kd.str : Kd ByteArray := Kd.flat 1 (fun s => [.string s]) (fun _ => rfl) (fun _ v h => by simp at h; subst h; rfl)
def Kd.boolK : Kd Bool := Kd.flat 1 (fun b => [.bool b]) (fun _ => rfl) (fun _ v h => by simp at h; subst h; rfl)
def rowAt {α : Type} (k : Kd α) (g : Hp) (c : Array Value) (o : Nat) (xs : List α) : Prop :=
 ∀ i x, xs[i]? = some x → ∃ cs, k.rd g x cs ∧ ∀ j v, cs[j]? = some v → c[o + i * k.sz + j]? = some v
theorem rowAt.mono {α : Type} {k : Kd α} {g g' : Hp} {c : Array Value} {o : Nat} {xs : List α} (hg : Hp.le g g') (h : rowAt k g c o xs) : rowAt k g' c o xs := fun i x hx =>
 let ⟨cs, hr, hc⟩ := h i x hx; ⟨cs, k.mono hg hr, hc⟩
def RowF {α : Type} (k : Kd α) (p : Option Addr) (xs : List α) : HP :=
 HP.per (fun g => xs = [] ∨ ∃ b o c e fr, p = some ⟨b, o, none⟩ ∧ g b = some (.cells c e fr) ∧ rowAt k g c o xs)
  (fun hg h => h.imp id fun ⟨b, o, c, e, fr, hp, hb, hr⟩ => ⟨b, o, c, e, fr, hp, hg _ _ hb, hr.mono hg⟩)
def RowO {α : Type} (k : Kd α) (e : TypeId) (p : Option Addr) (cap : Nat) (xs : List α) : HP :=
 HP.own (fun g h => (p = none ∧ cap = 0 ∧ xs = []) ∨ ∃ b o c, p = some ⟨b, o, none⟩ ∧ xs.length ≤ cap ∧ h b = some (.cells c e (0, 0)) ∧ o + cap * k.sz ≤ c.size ∧ rowAt k g c o xs)
  (fun hg h => h.imp id fun ⟨b, o, c, hp, hl, hb, hs, hr⟩ => ⟨b, o, c, hp, hl, hb, hs, hr.mono hg⟩)
section
variable {α : Type} {k : Kd α} {ρ : World} {L : List HP} {w : World}
theorem rowF_addr {p : Option Addr} {xs : List α} (m : RowF k p xs ∈ L) (hne : xs ≠ []) : ∀ w, St ρ L w → ∃ b o, p = some ⟨b, o, none⟩ := fun _ hs =>
 hs.fact m (fun _ _ h => by
  rcases (h : _ ∨ _) with h | ⟨b, o, _, _, _, hp, _⟩
  ·exact absurd h hne
  ·exact ⟨b, o, hp⟩)
theorem rowO_addr {e : TypeId} {p : Option Addr} {cap : Nat} {xs : List α} (m : RowO k e p cap xs ∈ L) (hne : xs ≠ []) : ∀ w, St ρ L w → ∃ b o, p = some ⟨b, o, none⟩ := fun _ hs =>
 hs.fact m (fun _ _ h => by
  rcases (h : _ ∨ _) with ⟨_, _, h⟩ | ⟨b, o, _, hp, _⟩
  ·exact absurd h hne
  ·exact ⟨b, o, hp⟩)
theorem rC {e : TypeId} {p : Option Addr} {cap : Nat} {xs : List α} (m : RowO k e p cap xs ∈ L) : ∀ w, St ρ L w → xs.length ≤ cap := fun _ hs =>
 hs.fact m (fun _ _ h => by
  rcases (h : _ ∨ _) with ⟨_, _, h⟩ | ⟨b, o, _, hp, hl, _⟩
  ·subst h; exact Nat.zero_le _
  ·exact hl)
theorem rowF_elem {b o : Nat} {xs : List α} {i : Nat} {x : α} (m : RowF k (some ⟨b, o, none⟩) xs ∈ L) (hx : xs[i]? = some x) (hs : St ρ L w) :
  ∃ g cs, Hp.le g (heapOf w) ∧ k.rd g x cs ∧ ∀ j v, cs[j]? = some v → w.cell? ⟨b, o + i * k.sz + j, none⟩ = some v := by
 obtain ⟨g, h, _, lg, _, d⟩ := hs.body
 obtain ⟨_, _, ha⟩ := sepAll_mem m d
 rcases (ha : _ ∨ _) with ha | ⟨b', o', c, e, fr, hp, hb, hr⟩
 ·subst ha; simp at hx
 ·cases hp
  obtain ⟨cs, hrd, hc⟩ := hr i x hx
  exact ⟨g, cs, lg, hrd, fun j v hv => cell_of_heap (lg _ _ hb) (hc j v hv)⟩
end
theorem rowF_cell {α : Type} {n : Nat} {enc : α → List Value} {hl : ∀ x, (enc x).length = n} {h1 : ∀ x, ∀ v ∈ enc x, v.oneCell' = true} {ρ : World} {L : List HP} {b o : Nat} {xs : List α} {i j : Nat} {x : α} {v : Value}
  (m : RowF (Kd.flat n enc hl h1) (some ⟨b, o, none⟩) xs ∈ L) (hx : xs[i]? = some x) (hv : (enc x)[j]? = some v) : ∀ w, St ρ L w → w.cell? ⟨b, o + i * n + j, none⟩ = some v := fun _ hs => by
 obtain ⟨_, cs, _, hrd, hc⟩ := rowF_elem m hx hs
 cases hrd
 exact hc j v hv
section
variable {α : Type} {k : Kd α} {ρ : World} {L : List HP} {w : World}
theorem rowF_nil (p : Option Addr) (h : St ρ L w) : St ρ (RowF k p ([] : List α) :: L) w := by
 obtain ⟨g, q, a, b, c, d⟩ := h.body
 exact ⟨h.os, h.tape, h.output, g, q, a, b, c, fun _ => none, q, fun _ => .inl rfl, Hp.none_le _, Hp.le_refl _, .inl rfl, d⟩
theorem rowO_nil (e : TypeId) (h : St ρ L w) : St ρ (RowO k e none 0 ([] : List α) :: L) w := by
 obtain ⟨g, q, a, b, c, d⟩ := h.body
 exact ⟨h.os, h.tape, h.output, g, q, a, b, c, fun _ => none, q, fun _ => .inl rfl, Hp.none_le _, Hp.le_refl _, .inl ⟨rfl, rfl, rfl⟩, d⟩
theorem rO {e : TypeId} {p : Option Addr} {cap : Nat} {xs : List α} (h : St ρ (RowO k e p cap xs :: L) w) : St ρ (RowF k p xs :: L) w :=
 h.freeze (fun g hh u hg hu ha => by
  rcases (ha : _ ∨ _) with ⟨_, _, h⟩ | ⟨b, o, c, hp, _, hb, _, hr⟩
  ·exact .inl h
  ·exact .inr ⟨b, o, c, e, (0, 0), hp, hu _ _ hb, hr.mono hg⟩)
end
def IsRow {α : Type} (A : HP) (k : Kd α) (p : Option Addr) (xs : List α) : Prop :=
 ∀ g h, A.holds g h → xs = [] ∨ ∃ b o c e fr, p = some ⟨b, o, none⟩ ∧ (g b = some (.cells c e fr) ∨ h b = some (.cells c e fr)) ∧ rowAt k g c o xs
theorem isF {α : Type} {k : Kd α} {p : Option Addr} {xs : List α} : IsRow (RowF k p xs) k p xs := fun _ _ h =>
 (h : _ ∨ _).imp id fun ⟨b, o, c, e, fr, hp, hb, hr⟩ => ⟨b, o, c, e, fr, hp, .inl hb, hr⟩
theorem isO {α : Type} {k : Kd α} {e : TypeId} {p : Option Addr} {cap : Nat} {xs : List α} : IsRow (RowO k e p cap xs) k p xs := fun _ _ h =>
 (h : _ ∨ _).imp (fun h => h.2.2) fun ⟨b, o, c, hp, _, hb, _, hr⟩ => ⟨b, o, c, e, (0, 0), hp, .inr hb, hr⟩
theorem row_addr {α : Type} {k : Kd α} {ρ : World} {L : List HP} {A : HP} {p : Option Addr} {xs : List α} (hA : IsRow A k p xs) (m : A ∈ L) (hne : xs ≠ []) : ∀ w, St ρ L w → ∃ b o, p = some ⟨b, o, none⟩ := fun _ hs =>
 hs.fact m (fun g h ha => by
  rcases hA g h ha with h | ⟨b, o, _, _, _, hp, _⟩
  ·exact absurd h hne
  ·exact ⟨b, o, hp⟩)
theorem row_none {α : Type} {k : Kd α} {ρ : World} {L : List HP} {A : HP} {xs : List α} (hA : IsRow A k none xs) (m : A ∈ L) : ∀ w, St ρ L w → xs = [] := fun _ hs =>
 hs.fact m (fun g h ha => by
  rcases hA g h ha with h | ⟨b, o, _, _, _, hp, _⟩
  ·exact h
  ·cases hp)
theorem row_elem {α : Type} {k : Kd α} {ρ : World} {L : List HP} {w : World} {A : HP} {b o : Nat} {xs : List α} {i : Nat} {x : α} (hA : IsRow A k (some ⟨b, o, none⟩) xs) (m : A ∈ L) (hx : xs[i]? = some x) (hs : St ρ L w) :
  ∃ g cs, Hp.le g (heapOf w) ∧ k.rd g x cs ∧ ∀ j v, cs[j]? = some v → w.cell? ⟨b, o + i * k.sz + j, none⟩ = some v := by
 obtain ⟨g, h, _, lg, lh, d⟩ := hs.body
 obtain ⟨h1, l1, ha⟩ := sepAll_mem m d
 rcases hA g h1 ha with ha | ⟨b', o', c, e, fr, hp, hb, hr⟩
 ·subst ha; simp at hx
 ·cases hp
  obtain ⟨cs, hrd, hc⟩ := hr i x hx
  have hb' : w.heap[b]? = some (.cells c e fr) := hb.elim (fun hb => lg _ _ hb) (fun hb => lh _ _ (l1 _ _ hb))
  exact ⟨g, cs, lg, hrd, fun j v hv => cell_of_heap hb' (hc j v hv)⟩
theorem row_cell {α : Type} {n : Nat} {enc : α → List Value} {hl : ∀ x, (enc x).length = n} {h1 : ∀ x, ∀ v ∈ enc x, v.oneCell' = true} {ρ : World} {L : List HP} {A : HP} {b o : Nat} {xs : List α} {i j : Nat} {x : α} {v : Value}
  (hA : IsRow A (Kd.flat n enc hl h1) (some ⟨b, o, none⟩) xs) (m : A ∈ L) (hx : xs[i]? = some x) (hv : (enc x)[j]? = some v) : ∀ w, St ρ L w → w.cell? ⟨b, o + i * n + j, none⟩ = some v := fun _ hs => by
 obtain ⟨_, cs, _, hrd, hc⟩ := row_elem hA m hx hs
 cases hrd
 exact hc j v hv
end Go.Proofs.YtkbhldicnamcdaaGreat.L
namespace Go.Proofs.YtkbhldicnamcdaaGreat.L
open Go Go.RowKit
inductive SetAt : List Value → Nat → Value → List Value → Prop where
 | here {x v xs} : SetAt (x :: xs) 0 v (v :: xs)
 | there {x v xs ys n} : SetAt xs n v ys → SetAt (x :: xs) (n + 1) v (x :: ys)
theorem SetAt.spec {xs ys : List Value} {n : Nat} {v : Value} (h : SetAt xs n v ys) : ys = xs.set n v ∧ n < xs.length := by
 induction h with
 | here => exact ⟨rfl, by simp⟩
 | there _ ih => exact ⟨by rw [List.set_cons_succ, ← ih.1], by simp; exact ih.2⟩
inductive SetN : List Value → Nat → List Value → List Value → Prop where
 | nil {xs n} : SetN xs n [] xs
 | cons {xs ys zs n v vs} : SetAt xs n v ys → SetN ys (n + 1) vs zs → SetN xs n (v :: vs) zs
theorem SetN.spec {xs ys vs : List Value} {n : Nat} (h : SetN xs n vs ys) : spl xs.toArray n vs = ys.toArray ∧ (vs = [] ∨ n + vs.length ≤ xs.length) := by
 induction h with
 | nil => exact ⟨rfl, .inl rfl⟩
 | cons h1 _ ih =>
  obtain ⟨e1, l1⟩ := h1.spec
  obtain ⟨e2, l2⟩ := ih
  refine ⟨?_, .inr ?_⟩
  ·rw [spl, ← e2, e1]; simp
  ·rcases l2 with rfl | l2
   ·simp; omega
   ·rw [e1] at l2; simp at l2 ⊢; omega
inductive Fill (place : Nat → Option (Nat × Nat)) : List Value → List (Nat × Value) → List Value → Prop where
 | nil {xs} : Fill place xs [] xs
 | cons {xs ys zs i v u us rest off size} : place i = some (off, size) → v.cells = (u :: us).toArray → us.length + 1 = size → SetN xs off (u :: us) ys → Fill place ys rest zs → Fill place xs ((i, v) :: rest) zs
theorem foldl_spl : ∀ (vs : List Value) (c : Array Value) (n k : Nat), (vs.toArray.zipIdx k).foldl (fun cs (p : Value × Nat) => cs.setIfInBounds (n + p.2) p.1) c = spl c (n + k) vs
 | [], c, n, k => by rw [Array.zipIdx_toArray]; simp [spl]
 | v :: vs, c, n, k => by
  have := foldl_spl vs (c.setIfInBounds (n + k) v) n (k + 1)
  rw [spl, show n + k + 1 = n + (k + 1) by omega, ← this, Array.zipIdx_toArray, Array.zipIdx_toArray, List.zipIdx_cons]
  simp
theorem Fill.spec {place : Nat → Option (Nat × Nat)} {xs ys : List Value} {parts : List (Nat × Value)} (h : Fill place xs parts ys) : Instr.fill place xs.toArray parts = some ys.toArray := by
 induction h with
 | nil => rfl
 | @cons xs ys zs i v u us rest off size hp hv hl hs _ ih =>
  obtain ⟨e, l⟩ := hs.spec
  have h1 : v.cells.size = size := by rw [hv]; simpa using hl
  have h2 : ¬ (off + v.cells.size > xs.toArray.size) := by
   rw [h1, ← hl]
   rcases l with l | l
   ·cases l
   ·simp at l ⊢; omega
  have h3 : (v.cells.zipIdx.foldl (fun cs (p : Value × Nat) => cs.setIfInBounds (off + p.2) p.1) xs.toArray) = ys.toArray := by
   rw [hv, ← e]; exact foldl_spl (u :: us) xs.toArray off 0
  have h3' : (v.cells.zipIdx.foldl (fun cs x => match x with | (c, j) => cs.setIfInBounds (off + j) c) xs.toArray) = ys.toArray := h3
  have h4 : ¬ (v.cells.size ≠ size) := fun h => h h1
  simp only [Instr.fill, hp, h4, h2, or_self, if_false, decide_eq_true_eq, Bool.or_eq_true, h3']
  simpa using ih
def structTab (P : Program) (t : TypeId) : Option (List (Nat × Nat) × List Value) :=
 match P.underlying t, (P.info? t).bind (·.zero) with
 | some (.struct fs), some z => ((fs.toList.mapM fun f => (P.info? f.type).map fun i => (f.offset, i.size)) : Option (List (Nat × Nat))).map fun l => (l, z.cells.toList)
 | _, _ => none
def slZeros (P : Program) (t : TypeId) (len : Nat) : Option (TypeId × Nat × List Value) :=
 match P.underlying t with
 | some (.slice e) => match P.info? e with
  | some i => match i.zero with
   | some z => if len * i.size > 2 ^ 24 then none else if len * i.size = 0 then none else some (e, i.size, ((Array.range (len * i.size)).map (fun j => z.cells[j % z.cells.size]!)).toList)
   | none => none
  | none => none
 | _ => none
def Env.parts (E : Env) : List (Nat × Operand) → Option (List (Nat × Value))
 | [] => some []
 | (i, x) :: l => match Env.ev E x, Env.parts E l with | some v, some vs => some ((i, v) :: vs) | _, _ => none
theorem Know.parts {N : Nat} {E : Env} {a : Act} (h : Know N E a) : ∀ {l : List (Nat × Operand)} {vs : List (Nat × Value)}, Env.parts E l = some vs → l.map (fun (i, x) => (i, a.eval x)) = vs
 | [], vs, e => by cases e; rfl
 | (i, x) :: l, vs, e => by
  simp only [Env.parts] at e
  cases hx : Env.ev E x with
  | none => rw [hx] at e; simp at e
  | some v =>
   cases hl : Env.parts E l with
   | none => rw [hx, hl] at e; simp at e
   | some us =>
    rw [hx, hl] at e
    cases e
    have := h.parts hl
    rw [List.map_cons, this]
    simp only [h.ev hx]
theorem mapM_places {P : Program} {w : World} : ∀ (fs : List Field) (l : List (Nat × Nat)), (fs.mapM (m := Option) fun f => (P.info? f.type).map fun i => (f.offset, i.size)) = some l →
  (fs.mapM (m := Sem) fun f => do pure (f.offset, ← sizeOf f.type)).run P w = .ok l w
 | [], l, h => by simp at h; subst h; rfl
 | f :: fs, l, h => by
  rw [List.mapM_cons] at h ⊢
  cases hi : P.info? f.type with
  | none => rw [hi] at h; simp at h
  | some i =>
   rw [hi] at h
   cases hr : fs.mapM (m := Option) fun f => (P.info? f.type).map fun i => (f.offset, i.size) with
   | none => rw [hr] at h; simp at h
   | some l' =>
    rw [hr] at h
    simp at h
    subst h
    have := mapM_places (P := P) (w := w) fs l' hr
    simp only [Sem.run_bind, Sem.run_pure, sizeOf, typeInfo, run_program, Result.andThen_ok, hi] at this ⊢
    rw [this]
    rfl
section
variable {X : Fx} {E : Env} {L : List HP} {d : Option Tmp} {ty : TypeId} {pos : String} {af : Array Edge} {gd : Option (Nat × Bool)} {t : TypeId}
theorem q_build {parts : List (Nat × Operand)} {vs : List (Nat × Value)} {places : List (Nat × Nat)} {zeros cs : List Value} (ht : structTab X.P t = some (places, zeros)) (hp : Env.parts E parts = some vs)
  (hf : Fill (fun i => places[i]?) zeros vs cs) : OpQ X ⟨d, .build t parts.toArray, ty, pos, af, gd⟩ E L (.agg cs.toArray) := fun a w hk _ => by
 unfold structTab at ht
 cases hu : X.P.underlying t with
 | none => rw [hu] at ht; simp at ht
 | some ds =>
  cases hz : (X.P.info? t).bind (·.zero) with
  | none => rw [hu, hz] at ht; cases ds <;> simp at ht
  | some z =>
   rw [hu, hz] at ht
   cases ds <;> simp only [reduceCtorEq] at ht
   rename_i fs
   cases hm : fs.toList.mapM (m := Option) fun f => (X.P.info? f.type).map fun i => (f.offset, i.size) with
   | none => rw [hm] at ht; simp at ht
   | some l =>
    rw [hm] at ht
    simp only [Option.map_some, Option.some.injEq, Prod.mk.injEq] at ht
    obtain ⟨rfl, rfl⟩ := ht
    obtain ⟨inf, hinf, hzz⟩ := Option.bind_eq_some_iff.1 hz
    have h1 := mapM_places (P := X.P) (w := w) fs.toList l hm
    have h2 := hf.spec
    have h3 := hk.parts hp
    have h4 : fs.mapM (m := Sem) (fun f => do pure (f.offset, ← sizeOf f.type)) = (do let l ← fs.toList.mapM (m := Sem) (fun f => do pure (f.offset, ← sizeOf f.type)); pure l.toArray) := by
     rw [Array.mapM_eq_mapM_toList]; rfl
    simp only [execOp, Instr.build, Sem.run_bind, zeroValue, typeInfo, run_program, Result.andThen_ok, hinf, Sem.run_pure, hzz, underlying, hu, h4, h1]
    have h5 : (parts.toArray.map fun (p : Nat × Operand) => (p.1, a.eval p.2)).toList = vs := by
     rw [← h3]; simp
    have h6 : (fun i : Nat => l.toArray[i]?) = (fun i : Nat => l[i]?) := by funext i; simp
    have h7 : z.cells = z.cells.toList.toArray := by simp
    rw [h6, h7]
    have h5' : (Array.map (fun x => match x with | (i, x) => (i, a.eval x)) parts.toArray).toList = vs := h5
    rw [h5', h2]
    rfl
theorem l_box {e : TypeId} {x : Operand} {v : Value} {cs : List Value} (hx : Env.ev E x = some v) (hc : v.cells = cs.toArray) :
  OpL X ⟨d, .box e x, ty, pos, af, gd⟩ E L (fun v' L' => ∃ b, v' = .pointer (some ⟨b, 0, none⟩) ∧ L' = pv b e cs :: L) := fun a w hk hs => by
 unfold Oper.wp
 have : (execOp a.eval ⟨d, .box e x, ty, pos, af, gd⟩).run X.P w = .ok (.value (.pointer (some ⟨w.heap.size, 0, none⟩))) { w with heap := w.heap.push (.cells cs.toArray e) } := by
  simp [execOp, hk.ev hx, Instr.box, newVar, newRow, hc]
 rw [this]
 exact ⟨_, _, ⟨w.heap.size, rfl, rfl⟩, rfl, hs.alloc _⟩
theorem lL {e : TypeId} {cs : List Value} (hz : zeroOf X.P e = some cs) :
  OpL X ⟨d, .alloc e, ty, pos, af, gd⟩ E L (fun v' L' => ∃ b, v' = .pointer (some ⟨b, 0, none⟩) ∧ L' = pv b e cs :: L) := fun a w hk hs => by
 unfold zeroOf at hz
 obtain ⟨z, hz1, hz2⟩ := Option.map_eq_some_iff.1 hz
 obtain ⟨inf, hinf, hzz⟩ := Option.bind_eq_some_iff.1 hz1
 have hc : z.cells = cs.toArray := by rw [← hz2]
 unfold Oper.wp
 have : (execOp a.eval ⟨d, .alloc e, ty, pos, af, gd⟩).run X.P w = .ok (.value (.pointer (some ⟨w.heap.size, 0, none⟩))) { w with heap := w.heap.push (.cells cs.toArray e) } := by
  simp [execOp, Instr.alloc, zeroValue, typeInfo, hinf, hzz, newVar, newRow, hc]
 rw [this]
 exact ⟨_, _, ⟨w.heap.size, rfl, rfl⟩, rfl, hs.alloc _⟩
theorem l_slice {n e sz : Nat} {parts : List (Nat × Operand)} {vs : List (Nat × Value)} {zeros cs : List Value} (ht : slZeros X.P t n = some (e, sz, zeros)) (hp : Env.parts E parts = some vs)
  (hf : Fill (fun i => some (i * sz, sz)) zeros vs cs) :
  OpL X ⟨d, .buildSlice t n parts.toArray, ty, pos, af, gd⟩ E L (fun v' L' => ∃ b, v' = .slice (some ⟨b, 0, none⟩) n n ∧ L' = pv b e cs :: L) := fun a w hk hs => by
 unfold slZeros at ht
 cases hu : X.P.underlying t with
 | none => rw [hu] at ht; simp at ht
 | some ds =>
  cases ds <;> rw [hu] at ht <;> simp only [reduceCtorEq] at ht
  rename_i e'
  cases hi : X.P.info? e' with
  | none => rw [hi] at ht; simp at ht
  | some i =>
   rw [hi] at ht
   simp only at ht
   cases hz : i.zero with
   | none => rw [hz] at ht; simp at ht
   | some z =>
    rw [hz] at ht
    simp only at ht
    by_cases h1 : n * i.size > 2 ^ 24
    ·rw [if_pos h1] at ht; cases ht
    ·rw [if_neg h1] at ht
     by_cases h0 : n * i.size = 0
     ·rw [if_pos h0] at ht; cases ht
     ·rw [if_neg h0] at ht
      simp only [Option.some.injEq, Prod.mk.injEq] at ht
      obtain ⟨rfl, rfl, hzs⟩ := ht
      have h2 := hf.spec
      have h3 := hk.parts hp
      have h5 : (Array.map (fun x => match x with | (i, x) => (i, a.eval x)) parts.toArray).toList = vs := by
       rw [← h3]; simp
      have h6 : ((Array.range (n * i.size)).map (fun j => z.cells[j % z.cells.size]!)) = zeros.toArray := by rw [← hzs]
      unfold Oper.wp
      have : (execOp a.eval ⟨d, .buildSlice t n parts.toArray, ty, pos, af, gd⟩).run X.P w = .ok (.value (.slice (some ⟨w.heap.size, 0, none⟩) n n)) { w with heap := w.heap.push (.cells cs.toArray e') } := by
       simp only [execOp, Instr.buildSlice, Sem.run_bind, underlying, run_program, Result.andThen_ok, hu, Sem.run_pure, sizeOf, typeInfo, hi, h1, if_false, h0, zeroValue, hz, h6, h5, h2, newRow, run_newObj]
      rw [this]
      exact ⟨_, _, ⟨w.heap.size, rfl, rfl⟩, rfl, hs.alloc _⟩
theorem lA {x y : Operand} {b o : Nat} {e : TypeId} {v : Value} {cs cs' : List Value} {L1 : List HP} (ht : cellK X.P t = some (false, 1)) (hx : Env.ev E x = some (.pointer (some ⟨b, o, none⟩))) (hy : Env.ev E y = some v)
  (h1 : v.oneCell' = true) (hp : Pick L (pv b e cs) L1) (hset : SetAt cs o v cs') : OpL X ⟨d, .store t x y, ty, pos, af, gd⟩ E L (fun v' L' => v' = undef ∧ L' = pv b e cs' :: L1) := fun a w hk hs => by
 have hs' := hs.pick hp
 have hb : w.heap[b]? = some (.cells cs.toArray e (0, 0)) := hs'.pt_heap (List.Mem.head _)
 obtain ⟨e1, l1⟩ := hset.spec
 have hcells : v.cells = #[v] := by cases v <;> first | rfl | (simp [Value.oneCell'] at h1)
 have hrun := run_storeCells (P := X.P) (b := b) (o := o) [v] 0 w cs.toArray hb (by simpa using h1) (by simp; omega)
 unfold Oper.wp
 have : (execOp a.eval ⟨d, .store t x y, ty, pos, af, gd⟩).run X.P w = .ok .skip (putBlk w b (.cells cs'.toArray e (0, 0))) := by
  simp only [execOp, hk.ev hx, hk.ev hy, Instr.storeAt, Instr.sureAddr, storeVar, Sem.run_bind, Sem.run_pure, Result.andThen_ok, run_sizeK ht, hcells]
  simp only [List.size_toArray, List.length_cons, List.length_nil, Nat.zero_add, ne_eq, not_true_eq_false, if_false]
  rw [hrun]
  simp [spl, e1]
 rw [this]
 exact ⟨undef, _, ⟨rfl, rfl⟩, rfl, hs'.put _⟩
theorem l_storeN {x y : Operand} {b o n : Nat} {e : TypeId} {vs cs cs' : List Value} {L1 : List HP} (ht : cellK X.P t = some (true, n)) (hx : Env.ev E x = some (.pointer (some ⟨b, o, none⟩))) (hy : Env.ev E y = some (.agg vs.toArray))
  (hn : vs.length = n) (h1 : ∀ v ∈ vs, v.oneCell' = true) (hp : Pick L (pv b e cs) L1) (hset : SetN cs o vs cs') : OpL X ⟨d, .store t x y, ty, pos, af, gd⟩ E L (fun v' L' => v' = undef ∧ L' = pv b e cs' :: L1) := fun a w hk hs => by
 have hs' := hs.pick hp
 have hb : w.heap[b]? = some (.cells cs.toArray e (0, 0)) := hs'.pt_heap (List.Mem.head _)
 obtain ⟨e1, l1⟩ := hset.spec
 unfold Oper.wp
 have : (execOp a.eval ⟨d, .store t x y, ty, pos, af, gd⟩).run X.P w = .ok .skip (putBlk w b (.cells cs'.toArray e (0, 0))) := by
  simp only [execOp, hk.ev hx, hk.ev hy, Instr.storeAt, Instr.sureAddr, storeVar, Sem.run_bind, Sem.run_pure, Result.andThen_ok, run_sizeK ht, Value.cells]
  simp only [List.size_toArray, hn, ne_eq, not_true_eq_false, if_false]
  rcases l1 with rfl | l1
  ·have e1 : cs.toArray = cs'.toArray := e1
   rw [← e1, putBlk_self hb]
   simp [storeCells]
  ·rw [run_storeCells (P := X.P) vs 0 w cs.toArray hb h1 (by simp; omega), Nat.add_zero, e1]
   rfl
 rw [this]
 exact ⟨undef, _, ⟨rfl, rfl⟩, rfl, hs'.put _⟩
end
end Go.Proofs.YtkbhldicnamcdaaGreat.L
namespace Go.Proofs.YtkbhldicnamcdaaGreat.L
open Go Go.RowKit
def rowP {α : Type} (k : Kd α) (c : Array Value) (o : Nat) (xs : List α) : HP := HP.per (fun g => rowAt k g c o xs) (fun hg h => h.mono hg)
section
variable {α : Type} {k : Kd α} {ρ : World} {L : List HP} {w : World}
theorem sepAll_cons_per {A : HP} (hp : A.pers = true) {g h : Hp} {h1 : Hp} (ha : A.holds g h1) (hl : sepAll L g h) : sepAll (A :: L) g h :=
 ⟨fun _ => none, h, fun _ => .inl rfl, Hp.none_le _, Hp.le_refl _, A.free hp ha, hl⟩
theorem rowO_open {e : TypeId} {p : Option Addr} {cap : Nat} {xs : List α} (h : St ρ (RowO k e p cap xs :: L) w) :
  (p = none ∧ cap = 0 ∧ xs = [] ∧ St ρ L w) ∨ ∃ b o c, p = some ⟨b, o, none⟩ ∧ xs.length ≤ cap ∧ o + cap * k.sz ≤ c.size ∧ St ρ (pt b (.cells c e (0, 0)) :: rowP k c o xs :: L) w := by
 obtain ⟨g, q, a, b, c, h1, h2, ap, l1, l2, ha, d⟩ := h.body
 rcases (ha : _ ∨ _) with ⟨hp, hc, hx⟩ | ⟨b', o, cc, hp, hl, hb, hs, hr⟩
 ·exact .inl ⟨hp, hc, hx, h.tail⟩
 ·exact .inr ⟨b', o, cc, hp, hl, hs, h.os, h.tape, h.output, g, q, a, b, c, h1, h2, ap, l1, l2, hb, sepAll_cons_per (A := rowP k cc o xs) rfl (h1 := fun _ => none) hr d⟩
theorem rowO_shut {e : TypeId} {b o cap : Nat} {c : Array Value} {xs : List α} (hs : o + cap * k.sz ≤ c.size) (hl : xs.length ≤ cap) (h : St ρ (pt b (.cells c e (0, 0)) :: rowP k c o xs :: L) w) : St ρ (RowO k e (some ⟨b, o, none⟩) cap xs :: L) w := by
 obtain ⟨g, q, a, b', c', h1, h2, ap, l1, l2, ha, k1, k2, ap', m1, m2, hr, d⟩ := h.body
 exact ⟨h.os, h.tape, h.output, g, q, a, b', c', h1, h2, ap, l1, l2, .inr ⟨b, o, c, rfl, hl, ha, hs, hr⟩, sepAll_mono (Hp.le_refl _) m2 d⟩
theorem rowF_open {p : Option Addr} {xs : List α} (m : RowF k p xs ∈ L) (h : St ρ L w) :
  xs = [] ∨ ∃ b o c e fr, p = some ⟨b, o, none⟩ ∧ St ρ (fz b (.cells c e fr) :: rowP k c o xs :: L) w := by
 obtain ⟨g, q, a, b, c, d⟩ := h.body
 obtain ⟨_, _, ha⟩ := sepAll_mem m d
 rcases (ha : _ ∨ _) with hx | ⟨b', o, cc, e, fr, hp, hb, hr⟩
 ·exact .inl hx
 ·exact .inr ⟨b', o, cc, e, fr, hp, h.os, h.tape, h.output, g, q, a, b, c, sepAll_cons_per (A := fz b' (.cells cc e fr)) rfl (h1 := fun _ => none) hb (sepAll_cons_per (A := rowP k cc o xs) rfl (h1 := fun _ => none) hr d)⟩
theorem rowF_shut {b o : Nat} {c : Array Value} {e : TypeId} {fr : Nat × Nat} {xs : List α} (m1 : fz b (.cells c e fr) ∈ L) (m2 : rowP k c o xs ∈ L) (h : St ρ L w) : St ρ (RowF k (some ⟨b, o, none⟩) xs :: L) w := by
 obtain ⟨g, q, a, b', c', d⟩ := h.body
 obtain ⟨_, _, h1⟩ := sepAll_mem m1 d
 obtain ⟨_, _, h2⟩ := sepAll_mem m2 d
 exact ⟨h.os, h.tape, h.output, g, q, a, b', c', sepAll_cons_per (A := RowF k (some ⟨b, o, none⟩) xs) rfl (h1 := fun _ => none) (.inr ⟨b, o, c, e, fr, rfl, h1, h2⟩) d⟩
theorem St.derive2 {A A' B : HP} (m : A ∈ L) (m' : A' ∈ L) (hp : B.pers = true) (hi : ∀ g h h', A.holds g h → A'.holds g h' → B.holds g h) (h : St ρ L w) : St ρ (B :: L) w := by
 obtain ⟨g, q, a, b, c, d⟩ := h.body
 obtain ⟨_, _, h1⟩ := sepAll_mem m d
 obtain ⟨_, _, h2⟩ := sepAll_mem m' d
 exact ⟨h.os, h.tape, h.output, g, q, a, b, c, sepAll_cons_per hp (hi _ _ _ h1 h2) d⟩
end
theorem rowAt.size {α : Type} {k : Kd α} {g : Hp} {c : Array Value} {o : Nat} {xs : List α} (h : rowAt k g c o xs) (hz : xs.length * k.sz ≠ 0) : o + xs.length * k.sz ≤ c.size := by
 cases hl : xs.length with
 | zero => rw [hl] at hz; simp at hz
 | succ n =>
  have hk : k.sz ≠ 0 := fun e => by rw [e] at hz; simp at hz
  obtain ⟨x, hx⟩ : ∃ x, xs[n]? = some x := ⟨xs[n]'(by omega), List.getElem?_eq_getElem _⟩
  obtain ⟨cs, hr, hc⟩ := h n x hx
  have hlen := k.len hr
  have hj : k.sz - 1 < cs.length := by omega
  have := hc (k.sz - 1) _ (List.getElem?_eq_getElem hj)
  have hlt := (Array.getElem?_eq_some_iff.1 this).1
  rw [Nat.succ_mul]
  omega
theorem rowAt.one {α : Type} {k : Kd α} {g : Hp} {c : Array Value} {o : Nat} {xs : List α} (h : rowAt k g c o xs) {j : Nat} {v : Value} (hj : j < xs.length * k.sz) (hv : c[o + j]? = some v) : v.oneCell' = true := by
 have hk : 0 < k.sz := by
  rcases Nat.eq_zero_or_pos k.sz with e | e
  ·rw [e] at hj; simp at hj
  ·exact e
 have hi : j / k.sz < xs.length := (Nat.div_lt_iff_lt_mul hk).2 hj
 obtain ⟨cs, hr, hc⟩ := h (j / k.sz) _ (List.getElem?_eq_getElem hi)
 have hm : j % k.sz < cs.length := by rw [k.len hr]; exact Nat.mod_lt _ hk
 have h1 := hc (j % k.sz) _ (List.getElem?_eq_getElem hm)
 have e : o + j / k.sz * k.sz + j % k.sz = o + j := by have := Nat.div_add_mod' j k.sz; omega
 rw [e, hv] at h1
 rw [Option.some.inj h1]
 exact k.one hr _ (List.getElem_mem hm)
theorem rowAt.cut {α : Type} {k : Kd α} {g : Hp} {c : Array Value} {o : Nat} {xs : List α} (h : rowAt k g c o xs) : rowAt k g (c.extract o (o + xs.length * k.sz)) 0 xs := fun i x hx => by
 obtain ⟨cs, hr, hc⟩ := h i x hx
 refine ⟨cs, hr, fun j v hv => ?_⟩
 have h1 := hc j v hv
 have hi : i < xs.length := (List.getElem?_eq_some_iff.1 hx).1
 have hj : j < k.sz := by rw [← k.len hr]; exact (List.getElem?_eq_some_iff.1 hv).1
 have hm : (i + 1) * k.sz ≤ xs.length * k.sz := Nat.mul_le_mul_right _ hi
 rw [Nat.succ_mul] at hm
 have hlt := (Array.getElem?_eq_some_iff.1 h1).1
 rw [Array.getElem?_extract]
 rw [if_pos (by omega)]
 rw [← h1]
 congr 1
 omega
theorem rowAt.append {α : Type} {k : Kd α} {g : Hp} {c c' : Array Value} {o o' : Nat} {xs ys : List α} (h : rowAt k g c o xs) (h' : rowAt k g c' o' ys) {d : Array Value} {q : Nat}
  (h1 : ∀ j, j < xs.length * k.sz → d[q + j]? = c[o + j]?) (h2 : ∀ j, j < ys.length * k.sz → d[q + xs.length * k.sz + j]? = c'[o' + j]?) : rowAt k g d q (xs ++ ys) := fun i x hx => by
 have bound : ∀ {n i j : Nat} {cs : List Value}, i < n → cs.length = k.sz → j < cs.length → i * k.sz + j < n * k.sz := fun {n i j cs} hi hl hj => by
  have hm : (i + 1) * k.sz ≤ n * k.sz := Nat.mul_le_mul_right _ hi
  rw [Nat.succ_mul] at hm
  omega
 by_cases hi : i < xs.length
 ·rw [List.getElem?_append_left hi] at hx
  obtain ⟨cs, hr, hc⟩ := h i x hx
  refine ⟨cs, hr, fun j v hv => ?_⟩
  have hj := (List.getElem?_eq_some_iff.1 hv).1
  rw [Nat.add_assoc, h1 _ (bound hi (k.len hr) hj), ← Nat.add_assoc]
  exact hc j v hv
 ·rw [List.getElem?_append_right (by omega)] at hx
  obtain ⟨cs, hr, hc⟩ := h' _ x hx
  refine ⟨cs, hr, fun j v hv => ?_⟩
  have hj := (List.getElem?_eq_some_iff.1 hv).1
  have hi' := (List.getElem?_eq_some_iff.1 hx).1
  have e : i * k.sz = xs.length * k.sz + (i - xs.length) * k.sz := by rw [← Nat.add_mul]; congr 1; omega
  have := h2 ((i - xs.length) * k.sz + j) (bound hi' (k.len hr) hj)
  rw [show q + i * k.sz + j = q + xs.length * k.sz + ((i - xs.length) * k.sz + j) by omega, this, ← Nat.add_assoc]
  exact hc j v hv
theorem run_loadCells {P : Program} {w : World} {b o n : Nat} {c : Array Value} {e : TypeId} {fr : Nat × Nat} (hb : w.heap[b]? = some (.cells c e fr)) (hn : o + n ≤ c.size) : (loadCells ⟨b, o, none⟩ n).run P w = .ok (c.extract o (o + n)) w := by
 have hl : (c.extract o (o + n)).toList.length = n := by simp; omega
 have := run_loadCellsFrom (P := P) (w := w) (b := b) (o := o) (c.extract o (o + n)).toList 0 #[] (fun j v hv => by
  rw [Nat.zero_add]
  refine cell_of_heap hb ?_
  rw [Array.getElem?_toList, Array.getElem?_extract] at hv
  split at hv
  ·exact hv
  ·cases hv)
 rw [hl] at this
 unfold loadCells
 rw [this]
 congr 1
 apply Array.ext'
 simp
theorem growBy_le : ∀ (r n c : Nat), c ≤ n → Builtin.growBy n r c ≤ n + (n + 768) / 4
 | 0, n, c, h => by simp only [Builtin.growBy]; omega
 | r + 1, n, c, h => by
  simp only [Builtin.growBy]
  split
  ·omega
  ·rename_i hc
   by_cases h2 : c + (c + 768) / 4 ≤ n
   ·exact growBy_le r n _ h2
   ·cases r with
    | zero => simp only [Builtin.growBy]; omega
    | succ r => simp only [Builtin.growBy]; rw [if_pos (by omega)]; omega
theorem nextcap_le {n c : Nat} (h : c < n) : Builtin.nextslicecap n c ≤ 2 * n + 768 := by
 unfold Builtin.nextslicecap
 split
 ·omega
 ·split
  ·omega
  ·have := growBy_le 4 n c (by omega); omega
section
variable {X : Fx} {E : Env} {L L1 : List HP} {d : Option Tmp} {ty : TypeId} {pos : String} {af : Array Edge} {gd : Option (Nat × Bool)}
theorem run_append {P : Program} {w : World} {α : Type} {k : Kd α} {ρ : World} {s t t2 e bytes m : Nat} {p : Option Addr} {cap : Nat} {xs ys : List α} {x : Value} {new : Array Value} {ds : TypeDesc}
  (ht : slElem P t = some (e, k.sz, bytes)) (ht2 : P.underlying t2 = some ds) (hds : ∀ q, ds ≠ .int q) (hlen : ∀ w, (Builtin.lenOf x).run P w = .ok m w) (hm : ys.length = m)
  (hnew : ∀ n, (Builtin.firstCells k.sz m x).run P { w with drawn := n } = .ok new { w with drawn := n }) (hsz : new.size = m * k.sz) (hone : ∀ v ∈ new.toList, v.oneCell' = true)
  (mrow : rowP k new 0 ys ∈ L1) (hz : ∃ z, zeroOf P e = some z ∧ z.length = k.sz) (hs : s = xs.length) (hby : bytes ≠ 0) (hbig : (2 * (xs.length + m) + 768) * bytes ≤ 281474976710656)
  (hst : St ρ (RowO k e p cap xs :: L1) w) :
  ∃ p' cap' w', (Builtin.append_ #[t, t2] ty #[.slice p s cap, x]).run P w = .ok (.slice p' (xs ++ ys).length cap') w' ∧ St ρ (RowO k e p' cap' (xs ++ ys) :: L1) w' := by
 subst hs
 have ht0 := ht
 unfold slElem at ht
 cases hu : P.underlying t with
 | none => rw [hu] at ht; simp at ht
 | some dd =>
  cases dd <;> rw [hu] at ht <;> simp only [reduceCtorEq] at ht
  rename_i e'
  cases hi : P.info? e' with
  | none => rw [hi] at ht; simp at ht
  | some inf =>
   rw [hi] at ht
   simp only [Option.some.injEq, Prod.mk.injEq] at ht
   obtain ⟨rfl, hisz, hiby⟩ := ht
   have hlenapp : (xs ++ ys).length = xs.length + m := by simp [hm]
   by_cases hfit : xs.length + m ≤ cap
   ·-- room
    have common : (Builtin.append_ #[t, t2] ty #[.slice p xs.length cap, x]).run P w =
      (match p with
       | some a => ((storeCells (a.add (xs.length * k.sz)) new.toList).run P w).andThen fun _ w' => .ok (.slice p (xs.length + m) cap) w'
       | none => .ok (.slice p (xs.length + m) cap) w) := by
     have hn1 : (Builtin.firstCells k.sz m x).run P w = .ok new w := hnew w.drawn
     cases p <;> simp [Builtin.append_, underlying, hu, sizeOf, typeInfo, hi, hisz, ht2, hlen, hfit, hn1]
    rcases rowO_open hst with ⟨rfl, rfl, rfl, hL⟩ | ⟨b, o, c, rfl, hl, hcs, hL⟩
    ·have hm0 : m = 0 := by simp at hfit; omega
     have : ys = [] := by cases ys with | nil => rfl | cons _ _ => simp at hm; omega
     subst this
     refine ⟨none, 0, w, ?_, hst⟩
     rw [common]
     simp [hm0]
    ·have hb := hL.pt_heap (List.Mem.head _)
     have hmul : xs.length * k.sz + m * k.sz ≤ cap * k.sz := by rw [← Nat.add_mul]; exact Nat.mul_le_mul_right _ hfit
     have hrun := run_storeCells (P := P) (b := b) (o := o + xs.length * k.sz) new.toList 0 w c hb hone (by simp [hsz]; omega)
     rw [Nat.add_zero] at hrun
     have hL2 := hL.put (.cells (spl c (o + xs.length * k.sz) new.toList) e' (0, 0))
     have hget : ∀ j, (spl c (o + xs.length * k.sz) new.toList)[j]? = if o + xs.length * k.sz ≤ j ∧ j < o + xs.length * k.sz + new.toList.length then new.toList[j - (o + xs.length * k.sz)]? else c[j]? := fun j =>
      spl_get _ _ _ _ (by simp [hsz]; omega)
     have hL3 := St.derive2 (B := rowP k (spl c (o + xs.length * k.sz) new.toList) o (xs ++ ys)) (List.Mem.tail _ (List.Mem.head _)) (List.Mem.tail _ (List.Mem.tail _ mrow)) rfl
      (fun g _ _ h1 h2 => rowAt.append (h1 : rowAt k g c o xs) (h2 : rowAt k g new 0 ys)
       (fun j hj => by rw [hget, if_neg (by omega)])
       (fun j hj => by rw [hget, if_pos (by simp [hsz]; rw [hm] at hj; omega), Nat.zero_add, Array.getElem?_toList]; congr 1; omega)) hL2
     have hL4 := ((hL3.pick (.there .here)).pick (.there (.there .here))).tail
     refine ⟨some ⟨b, o, none⟩, cap, _, ?_, rowO_shut (by rw [spl_size]; exact hcs) (by omega) hL4⟩
     rw [common]
     simp only [add_addr]
     rw [hrun]
     simp only [Result.andThen_ok, hlenapp]
   ·-- a new array
    obtain ⟨z, hz1, hz2⟩ := hz
    unfold zeroOf at hz1
    rw [hi] at hz1
    simp only [Option.bind_some] at hz1
    obtain ⟨zv, hzv, hzc⟩ := Option.map_eq_some_iff.1 hz1
    have hn2 : Builtin.nextslicecap (xs.length + m) cap ≤ 2 * (xs.length + m) + 768 := nextcap_le (by omega)
    have hbig' : ¬ (Builtin.nextslicecap (xs.length + m) cap * inf.bytes > 2 ^ 48) := by
     have := Nat.mul_le_mul_right inf.bytes hn2
     rw [hiby] at this ⊢
     omega
    obtain ⟨old, hold, holdsz, hdrop⟩ : ∃ old : Array Value, (∀ n, (Builtin.firstCells k.sz xs.length (.slice p xs.length cap)).run P { w with drawn := n } = .ok old { w with drawn := n }) ∧ old.size = xs.length * k.sz ∧ St ρ (rowP k old 0 xs :: L1) w := by
     rcases rowO_open hst with ⟨rfl, rfl, rfl, hL⟩ | ⟨b, o, c, rfl, hl, hcs, hL⟩
     ·refine ⟨#[], fun n => by simp [Builtin.firstCells], by simp, ?_⟩
      obtain ⟨g, q, a, b, c, dd⟩ := hL.body
      exact ⟨hL.os, hL.tape, hL.output, g, q, a, b, c, sepAll_cons_per (A := rowP k #[] 0 []) rfl (h1 := fun _ => none) (fun i x hx => by simp at hx) dd⟩
     ·have hb := hL.pt_heap (List.Mem.head _)
      have hle : xs.length * k.sz ≤ cap * k.sz := Nat.mul_le_mul_right _ hl
      refine ⟨c.extract o (o + xs.length * k.sz), fun n => ?_, by simp; omega, ?_⟩
      ·simp only [Builtin.firstCells]
       exact run_loadCells (w := { w with drawn := n }) hb (by omega)
      ·exact St.turn (fun g _ h => (h : rowAt k g c o xs).cut) hL.tail
    have hforced : (Question.appendCap (xs.length + m) cap e').forced = false := rfl
    let nc := (Question.appendCap (xs.length + m) cap e').cut (w.tape w.drawn (Question.appendCap (xs.length + m) cap e'))
    have hnc : xs.length + m ≤ nc := Nat.le_add_right _ _
    let arr : Array Value := old ++ new ++ Builtin.zeroCells zv.cells (nc - (xs.length + m))
    have hrun : (Builtin.append_ #[t, t2] ty #[.slice p xs.length cap, x]).run P w = .ok (.slice (some ⟨w.heap.size, 0, none⟩) (xs.length + m) nc) { w with drawn := w.drawn + 1, heap := w.heap.push (.cells arr e') } := by
     have hold' : (Builtin.firstCells k.sz xs.length (.slice p xs.length cap)).run P w.drew = .ok old w.drew := hold (w.drawn + 1)
     have hn1' : (Builtin.firstCells k.sz m x).run P w.drew = .ok new w.drew := hnew (w.drawn + 1)
     have hb0 : ¬ inf.bytes = 0 := by rw [hiby]; exact hby
     simp [Builtin.append_, underlying, hu, sizeOf, typeInfo, hi, hisz, ht2, hlen, hfit, hbig', hforced, hold', hn1', zeroValue, hzv, newRow, nc, arr, hb0]
     rfl
    refine ⟨_, _, _, by rw [hlenapp]; exact hrun, ?_⟩
    have hL1 := (hdrop.drewN (w.drawn + 1) (Nat.le_succ _)).alloc (.cells arr e')
    have hzl : zv.cells.size = k.sz := by rw [← hz2, ← hzc]; simp
    have harr : arr.size = 0 + nc * k.sz := by
     have : nc * k.sz = (xs.length * k.sz + m * k.sz) + (nc - (xs.length + m)) * k.sz := by rw [← Nat.add_mul, ← Nat.add_mul]; congr 1; omega
     simp only [arr, Array.size_append, holdsz, hsz, Builtin.zeroCells, Array.size_map, Array.size_range, hzl]
     omega
    have hL3 := St.derive2 (B := rowP k arr 0 (xs ++ ys)) (List.Mem.tail _ (List.Mem.head _)) (List.Mem.tail _ (List.Mem.tail _ mrow)) rfl
      (fun g _ _ h1 h2 => rowAt.append (h1 : rowAt k g old 0 xs) (h2 : rowAt k g new 0 ys)
       (fun j hj => by
        rw [Nat.zero_add]
        simp only [arr]
        rw [Array.getElem?_append_left (by simp [holdsz, hsz]; omega), Array.getElem?_append_left (by omega)])
       (fun j hj => by
        rw [hm] at hj
        simp only [arr, Nat.zero_add]
        rw [Array.getElem?_append_left (by simp [holdsz, hsz]; omega), Array.getElem?_append_right (by omega)]
        congr 1
        omega)) hL1
    have hL4 := ((hL3.pick (.there .here)).pick (.there (.there .here))).tail
    exact rowO_shut (Nat.le_of_eq harr.symm) (by omega) hL4
end
end Go.Proofs.YtkbhldicnamcdaaGreat.L
namespace Go.Proofs.YtkbhldicnamcdaaGreat.L
open Go Go.RowKit
def Kd.u8 : Kd UInt8 := Kd.flat 1 (fun b => [.int .u8 b.toNat]) (fun _ => rfl) (fun _ v h => by simp at h; subst h; rfl)
section
variable {α : Type} {k : Kd α} {ρ : World} {L : List HP} {w : World}
theorem row_cells {P : Program} {A : HP} {p : Option Addr} {xs : List α} {n c : Nat} (hA : IsRow A k p xs) (m : A ∈ L) (hn : n = xs.length) (hs : St ρ L w) :
  ∃ new : Array Value, (∀ w', heapOf w' = heapOf w → (Builtin.firstCells k.sz n (.slice p n c)).run P w' = .ok new w') ∧ new.size = n * k.sz ∧ (∀ v ∈ new.toList, v.oneCell' = true) ∧ St ρ (rowP k new 0 xs :: L) w := by
 subst hn
 obtain ⟨g, q, a, lg, c', d⟩ := hs.body
 obtain ⟨h1, l1, ha⟩ := sepAll_mem m d
 rcases hA g h1 ha with rfl | ⟨b, o, cc, e, fr, rfl, hb, hr⟩
 ·refine ⟨#[], fun w' _ => ?_, by simp, by simp, hs.os, hs.tape, hs.output, g, q, a, lg, c', sepAll_cons_per (A := rowP k #[] 0 []) rfl (h1 := fun _ => none) (fun i x hx => by simp at hx) d⟩
  cases p <;> simp [Builtin.firstCells, loadCells, loadCellsFrom]
 ·have hbw : heapOf w b = some (.cells cc e fr) := hb.elim (fun hb => lg _ _ hb) (fun hb => c' _ _ (l1 _ _ hb))
  by_cases hz : xs.length * k.sz = 0
  ·refine ⟨#[], fun w' _ => ?_, by simp [hz], by simp, hs.os, hs.tape, hs.output, g, q, a, lg, c', sepAll_cons_per (A := rowP k #[] 0 xs) rfl (h1 := fun _ => none) (fun i x hx => ?_) d⟩
   ·simp [Builtin.firstCells, loadCells, hz, loadCellsFrom]
   ·obtain ⟨cs, h1, h2⟩ := hr i x hx
    have hi := (List.getElem?_eq_some_iff.1 hx).1
    have hk : k.sz = 0 := by
     rcases Nat.mul_eq_zero.1 hz with h | h
     ·omega
     ·exact h
    have hl := k.len h1
    rw [hk] at hl
    have : cs = [] := List.length_eq_zero_iff.1 hl
    subst this
    exact ⟨[], h1, fun j v hv => by simp at hv⟩
  ·have hle := hr.size hz
   refine ⟨cc.extract o (o + xs.length * k.sz), fun w' hw => ?_, by simp; omega, fun v hv => ?_, hs.os, hs.tape, hs.output, g, q, a, lg, c', sepAll_cons_per (A := rowP k _ 0 xs) rfl (h1 := fun _ => none) hr.cut d⟩
   ·simp only [Builtin.firstCells]
    exact run_loadCells (by rw [← hw] at hbw; exact hbw) hle
   ·obtain ⟨j, hj⟩ := List.mem_iff_getElem?.1 hv
    rw [Array.getElem?_toList, Array.getElem?_extract] at hj
    split at hj
    ·rename_i hlt
     exact hr.one (by omega) hj
    ·cases hj
end
section
variable {X : Fx} {E : Env} {L L1 : List HP} {d : Option Tmp} {ty : TypeId} {pos : String} {af : Array Edge} {gd : Option (Nat × Bool)} {t t2 : TypeId} {x y : Operand}
theorem lX {α : Type} (k : Kd α) {e bytes s m : Nat} {p q : Option Addr} {cap c2 : Nat} {xs ys : List α} {e2 : TypeId} (ht : slElem X.P t = some (e, k.sz, bytes)) (ht2 : X.P.underlying t2 = some (.slice e2))
  (hz : ∃ z, zeroOf X.P e = some z ∧ z.length = k.sz) (hby : bytes ≠ 0)
  (hx : Env.ev E x = some (.slice p s cap)) (hy : Env.ev E y = some (.slice q m c2)) (hp : Pick L (RowO k e p cap xs) L1) {A : HP} (hA : IsRow A k q ys) (mq : A ∈ L1) (hs : s = xs.length) (hm : m = ys.length)
  (hbig : (2 * (xs.length + ys.length) + 768) * bytes ≤ 281474976710656) :
  OpL X ⟨d, .call ⟨.builtin .append, [x, y].toArray, [t, t2].toArray⟩, ty, pos, af, gd⟩ E L (fun v L' => ∃ p' cap', v = .slice p' (xs ++ ys).length cap' ∧ L' = RowO k e p' cap' (xs ++ ys) :: L1) := fun a w hk hst => by
 have h1 := hst.pick hp
 obtain ⟨new, hnew, hsz, hone, h2⟩ := row_cells (P := X.P) (c := c2) hA (List.Mem.tail (RowO k e p cap xs) mq) hm h1
 have h3 : St X.ρ (RowO k e p cap xs :: rowP k new 0 ys :: L1) w := h2.pick (.there .here)
 subst hm
 obtain ⟨p', cap', w', hrun, hst'⟩ := run_append (ty := ty) (L1 := rowP k new 0 ys :: L1) ht ht2 (fun _ h => by cases h) (x := .slice q ys.length c2) (m := ys.length) (fun w => by simp [Builtin.lenOf]) rfl
  (new := new) (fun n => hnew _ rfl) hsz hone (List.Mem.head _) hz hs hby hbig h3
 unfold Oper.wp
 have : (execOp a.eval ⟨d, .call ⟨.builtin .append, [x, y].toArray, [t, t2].toArray⟩, ty, pos, af, gd⟩).run X.P w = .ok (.value (.slice p' (xs ++ ys).length cap')) w' := by
  have e1 := hk.ev hx
  have e2 := hk.ev hy
  simp only [execOp, resolve, invoke, builtin, Sem.run_bind, Sem.run_pure, Result.andThen_ok, List.map_toArray, List.map_cons, List.map_nil, e1, e2]
  rw [hrun]
  rfl
 rw [this]
 exact ⟨_, _, ⟨p', cap', rfl, rfl⟩, rfl, (hst'.pick (.there .here)).tail⟩
def bytesOf (s : ByteArray) : List UInt8 := s.data.toList
theorem l_appendS {e bytes n : Nat} {p : Option Addr} {cap : Nat} {xs : List UInt8} {s : ByteArray} (ht : slElem X.P t = some (e, 1, bytes)) (ht2 : X.P.underlying t2 = some .string)
  (hz : ∃ z, zeroOf X.P e = some z ∧ z.length = 1) (hby : bytes ≠ 0)
  (hx : Env.ev E x = some (.slice p n cap)) (hy : Env.ev E y = some (.string s)) (hp : Pick L (RowO Kd.u8 e p cap xs) L1) (hs : n = xs.length)
  (hbig : (2 * (xs.length + s.size) + 768) * bytes ≤ 281474976710656) :
  OpL X ⟨d, .call ⟨.builtin .append, [x, y].toArray, [t, t2].toArray⟩, ty, pos, af, gd⟩ E L (fun v L' => ∃ p' cap', v = .slice p' (xs ++ bytesOf s).length cap' ∧ L' = RowO Kd.u8 e p' cap' (xs ++ bytesOf s) :: L1) := fun a w hk hst => by
 have h1 := hst.pick hp
 have hlen : (bytesOf s).length = s.size := by simp [bytesOf]
 have hdat : (s.extract 0 s.size).data = s.data := by simp
 have h3 : St X.ρ (RowO Kd.u8 e p cap xs :: rowP Kd.u8 (s.data.map fun b => Value.int .u8 b.toNat) 0 (bytesOf s) :: L1) w := by
  obtain ⟨g, q, a', b, c, dd⟩ := h1.body
  refine St.pick (.there .here) (⟨h1.os, h1.tape, h1.output, g, q, a', b, c, sepAll_cons_per (A := rowP Kd.u8 (s.data.map fun b => Value.int .u8 b.toNat) 0 (bytesOf s)) rfl (h1 := fun _ => none) (fun i x hx => ?_) dd⟩ : St X.ρ (rowP Kd.u8 (s.data.map fun b => Value.int .u8 b.toNat) 0 (bytesOf s) :: RowO Kd.u8 e p cap xs :: L1) w)
  refine ⟨_, rfl, fun j v hv => ?_⟩
  have hj : j = 0 := by
   cases j with
   | zero => rfl
   | succ j => simp at hv
  subst hj
  have hx : s.data[i]? = some x := by simpa [bytesOf] using hx
  have hv : Value.int .u8 x.toNat = v := by simpa using hv
  subst hv
  show (s.data.map fun b => Value.int .u8 b.toNat)[0 + i * 1 + 0]? = _
  simp [hx]
 obtain ⟨p', cap', w', hrun, hst'⟩ := run_append (k := Kd.u8) (ty := ty) (L1 := rowP Kd.u8 (s.data.map fun b => Value.int .u8 b.toNat) 0 (bytesOf s) :: L1) ht ht2 (fun _ h => by cases h) (x := .string s) (m := s.size) (fun w => by simp [Builtin.lenOf]) hlen
  (new := s.data.map fun b => Value.int .u8 b.toNat) (fun n => by simp [Builtin.firstCells]) (by simp [Kd.u8, Kd.flat]) (fun v hv => by simp at hv; obtain ⟨b, _, rfl⟩ := hv; rfl) (List.Mem.head _) hz hs hby hbig h3
 unfold Oper.wp
 have : (execOp a.eval ⟨d, .call ⟨.builtin .append, [x, y].toArray, [t, t2].toArray⟩, ty, pos, af, gd⟩).run X.P w = .ok (.value (.slice p' (xs ++ bytesOf s).length cap')) w' := by
  have e1 := hk.ev hx
  have e2 := hk.ev hy
  simp only [execOp, resolve, invoke, builtin, Sem.run_bind, Sem.run_pure, Result.andThen_ok, List.map_toArray, List.map_cons, List.map_nil, e1, e2]
  rw [hrun]
  rfl
 rw [this]
 exact ⟨_, _, ⟨p', cap', rfl, rfl⟩, rfl, (hst'.pick (.there .here)).tail⟩
theorem foldl_push (bs : List UInt8) : ∀ (r : ByteArray), (bs.map fun b => (b.toNat : Int)).foldl (fun r n => r.push (UInt8.ofNat n.toNat)) r = ⟨r.data ++ bs.toArray⟩ := by
 induction bs with
 | nil => intro r; simp
 | cons b bs ih =>
  intro r
  rw [List.map_cons, List.foldl_cons, ih]
  congr 1
  simp [ByteArray.push]
theorem rowAt_u8 {g : Hp} {c : Array Value} {o : Nat} {bs : List UInt8} (h : rowAt Kd.u8 g c o bs) : c.extract o (o + bs.length) = (bs.map fun b => Value.int .u8 b.toNat).toArray := by
 have hsz : bs ≠ [] → o + bs.length ≤ c.size := fun hne => by
  have := h.size (by show bs.length * 1 ≠ 0; rw [Nat.mul_one]; exact fun e => hne (List.length_eq_zero_iff.1 e))
  simpa [Kd.u8, Kd.flat] using this
 apply Array.ext_getElem?
 intro i
 rw [Array.getElem?_extract]
 by_cases hi : i < bs.length
 ·have hne : bs ≠ [] := fun e => by subst e; simp at hi
  have := hsz hne
  obtain ⟨cs, rfl, hc⟩ := h i _ (List.getElem?_eq_getElem hi)
  have h0 := hc 0 _ rfl
  rw [if_pos (by omega)]
  have e : o + i * Kd.u8.sz + 0 = o + i := by show o + i * 1 + 0 = o + i; omega
  rw [e] at h0
  rw [h0]
  simp [hi]
 ·have hn : (bs.map fun b => Value.int .u8 b.toNat).toArray[i]? = none := by simp; omega
  rw [hn]
  rw [if_neg (by omega)]
theorem row_loads {P : Program} {ρ : World} {L : List HP} {w : World} {A : HP} {b o : Nat} {bs : List UInt8} (hA : IsRow A Kd.u8 (some ⟨b, o, none⟩) bs) (m : A ∈ L) (hs : St ρ L w) : (loadCells ⟨b, o, none⟩ bs.length).run P w = .ok (bs.map fun b => Value.int .u8 b.toNat).toArray w := by
 obtain ⟨g, q, _, lg, lh, d⟩ := hs.body
 obtain ⟨h1, l1, ha⟩ := sepAll_mem m d
 rcases hA g h1 ha with rfl | ⟨b', o', cc, e, fr, hp, hb, hr⟩
 ·simp [loadCells, loadCellsFrom]
 ·cases hp
  have hbw : heapOf w b = some (.cells cc e fr) := hb.elim (fun hb => lg _ _ hb) (fun hb => lh _ _ (l1 _ _ hb))
  by_cases hne : bs = []
  ·subst hne; simp [loadCells, loadCellsFrom]
  ·have := hr.size (by show bs.length * 1 ≠ 0; rw [Nat.mul_one]; exact fun e => hne (List.length_eq_zero_iff.1 e))
   rw [run_loadCells hbw (by simpa [Kd.u8, Kd.flat] using this), rowAt_u8 hr]
theorem q_bstr {src dst e n c : Nat} {p : Option Addr} {bs : List UInt8} (h1 : X.P.underlying src = some (.slice e)) (h2 : X.P.underlying e = some (.int .u8)) (h3 : X.P.underlying dst = some .string)
  (hx : Env.ev E x = some (.slice p n c)) {A : HP} (hA : IsRow A Kd.u8 p bs) (m : A ∈ L) (hn : n = bs.length) : OpQ X ⟨d, .convert src dst x, ty, pos, af, gd⟩ E L (.string ⟨bs.toArray⟩) := fun a w hk hs => by
 subst hn
 have : (Conv.bytesToString (.slice p bs.length c)).run X.P w = .ok (.string ⟨bs.toArray⟩) w := by
  by_cases hne : bs = []
  ·subst hne
   cases p <;> simp [Conv.bytesToString, loadCells, loadCellsFrom, ByteArray.empty, ByteArray.emptyWithCapacity] <;> rfl
  ·obtain ⟨b, o, rfl⟩ := row_addr hA m hne w hs
   have hl := row_loads (P := X.P) hA m hs
   have hm : (bs.map fun b => Value.int .u8 b.toNat) = (bs.map fun b => (b.toNat : Int)).map (Value.int .u8) := by simp
   rw [hm] at hl
   rw [run_bytesToString w _ _ _ _ hl, foldl_push]
   simp [ByteArray.empty, ByteArray.emptyWithCapacity] <;> rfl
 simp only [execOp, hk.ev hx, Sem.run_bind, run_convert_bytes_string w src dst e p bs.length c h1 h2 h3, this, Result.andThen_ok, Sem.run_pure]
theorem l_make {α : Type} (k : Kd α) (z : α) {e bytes : Nat} {n : Int} {m : Nat} {zs : List Value} (ht : slElem X.P t = some (e, k.sz, bytes)) (hz : zeroOf X.P e = some zs) (hzl : zs.length = k.sz) (hzr : ∀ g, k.rd g z zs)
  (hx : Env.ev E x = some (.int .i64 n)) (hn : n = m) (hbig : bytes * m ≤ 281474976710656) (hm : m ≤ 9223372036854775807) :
  OpL X ⟨d, .makeSlice t x x, ty, pos, af, gd⟩ E L (fun v L' => ∃ p, v = .slice p m m ∧ L' = RowO k e p m (List.replicate m z) :: L) := fun a w hk hst => by
 subst hn
 unfold slElem at ht
 cases hu : X.P.underlying t with
 | none => rw [hu] at ht; simp at ht
 | some dd =>
  cases dd <;> rw [hu] at ht <;> simp only [reduceCtorEq] at ht
  rename_i e'
  cases hi : X.P.info? e' with
  | none => rw [hi] at ht; simp at ht
  | some inf =>
   rw [hi] at ht
   simp only [Option.some.injEq, Prod.mk.injEq] at ht
   obtain ⟨rfl, hisz, hiby⟩ := ht
   have hz1 := hz
   unfold zeroOf at hz
   rw [hi] at hz
   simp only [Option.bind_some] at hz
   obtain ⟨zv, hzv, hzc⟩ := Option.map_eq_some_iff.1 hz
   have hw : IntKind.i64.wrap (m : Int) = m := wrap_i64 (by omega) (by omega)
   let arr : Array Value := (Array.range (m * k.sz)).map (zv.cells[· % zv.cells.size]!)
   have hmi : ((bytes * m : Nat) : Int) ≤ ((281474976710656 : Nat) : Int) := Int.ofNat_le.2 hbig
   rw [Int.natCast_mul] at hmi
   have hc : ¬ (((m : Int) < 0 ∨ 281474976710656 < (inf.bytes : Int) * m) ∨ (m : Int) < 0) := by rw [hiby]; omega
   unfold Oper.wp
   have hrun : (execOp a.eval ⟨d, .makeSlice t x x, ty, pos, af, gd⟩).run X.P w = .ok (.value (.slice (some ⟨w.heap.size, 0, none⟩) m m)) { w with heap := w.heap.push (.cells arr e') } := by
    simp [execOp, hk.ev hx, Instr.makeSlice, underlying, hu, asInt, asIntOf, typeInfo, hi, hw, sizeOf, zeroValue, hzv, newRow]
    rw [if_neg hc]
    simp only [arr, ← hisz]
    by_cases h0 : m * inf.size = 0
    ·have h9 : Array.range 0 = #[] := rfl
     have h8 : ∀ (f : Nat → Value), Array.map f #[] = #[] := fun f => Array.map_empty
     rw [if_pos h0, h0, h9, h8, h8]
    ·rw [if_neg h0]
   rw [hrun]
   refine ⟨_, _, ⟨some ⟨w.heap.size, 0, none⟩, rfl, rfl⟩, rfl, ?_⟩
   have hL := hst.alloc (.cells arr e')
   have hzs : zv.cells.size = k.sz := by rw [← hzl, ← hzc]; simp
   refine rowO_shut (c := arr) (by simp [arr]) (by simp) (St.pick (.there .here) ?_)
   obtain ⟨g, q, a', b, c, dd⟩ := hL.body
   refine ⟨hL.os, hL.tape, hL.output, g, q, a', b, c, sepAll_cons_per (A := rowP k arr 0 (List.replicate m z)) rfl (h1 := fun _ => none) (fun i y hy => ?_) dd⟩
   rw [List.getElem?_replicate] at hy
   split at hy
   ·rename_i him
    cases hy
    refine ⟨zs, hzr g, fun j v hv => ?_⟩
    have hj : j < k.sz := by rw [← hzl]; exact (List.getElem?_eq_some_iff.1 hv).1
    have hlt : i * k.sz + j < m * k.sz := by
     have : (i + 1) * k.sz ≤ m * k.sz := Nat.mul_le_mul_right _ him
     rw [Nat.succ_mul] at this; omega
    have hmod : (i * k.sz + j) % k.sz = j := by rw [Nat.mul_comm, Nat.mul_add_mod]; exact Nat.mod_eq_of_lt hj
    have hv' : zv.cells[j]? = some v := by rw [← hv, ← hzc]; simp
    obtain ⟨hj', hv''⟩ := Array.getElem?_eq_some_iff.1 hv'
    simp only [arr, Nat.zero_add]
    have hg : ((Array.range (m * k.sz)).map (zv.cells[· % zv.cells.size]!))[i * k.sz + j]? = some v := by
     rw [Array.getElem?_map, Array.getElem?_range, if_pos hlt]
     simp only [Option.map_some, hzs, hmod]
     rw [getElem!_pos zv.cells j hj', hv'']
    exact hg
   ·cases hy
theorem l_slice0 {α : Type} (k : Kd α) {e bytes : Nat} (ht : slElem X.P t = some (e, k.sz, bytes)) :
  OpL X ⟨d, .buildSlice t 0 [].toArray, ty, pos, af, gd⟩ E L (fun v L' => ∃ p, v = .slice p 0 0 ∧ L' = RowO k e p 0 [] :: L) := fun a w hk hst => by
 unfold slElem at ht
 cases hu : X.P.underlying t with
 | none => rw [hu] at ht; simp at ht
 | some dd =>
  cases dd <;> rw [hu] at ht <;> simp only [reduceCtorEq] at ht
  rename_i e'
  cases hi : X.P.info? e' with
  | none => rw [hi] at ht; simp at ht
  | some inf =>
   rw [hi] at ht
   simp only [Option.some.injEq, Prod.mk.injEq] at ht
   obtain ⟨rfl, hisz, hiby⟩ := ht
   unfold Oper.wp
   have hrun : (execOp a.eval ⟨d, .buildSlice t 0 [].toArray, ty, pos, af, gd⟩).run X.P w = .ok (.value (.slice (some ⟨w.heap.size, 0, none⟩) 0 0)) { w with heap := w.heap.push (.cells #[] e') } := by
    have h9 : Array.range 0 = #[] := rfl
    simp [execOp, Instr.buildSlice, underlying, hu, sizeOf, typeInfo, hi, Instr.fill, newRow, h9]
   rw [hrun]
   refine ⟨_, _, ⟨some ⟨w.heap.size, 0, none⟩, rfl, rfl⟩, rfl, rowO_shut (c := #[]) (by simp) (by simp) (St.pick (.there .here) ?_)⟩
   have hL := hst.alloc (.cells #[] e')
   obtain ⟨g, q, a', b, c, dd⟩ := hL.body
   exact ⟨hL.os, hL.tape, hL.output, g, q, a', b, c, sepAll_cons_per (A := rowP k #[] 0 []) rfl (h1 := fun _ => none) (fun i y hy => by simp at hy) dd⟩
end
section
variable {X : Fx} {k : List Item} {E : Env} {L Sc : List HP} {ops : Array Oper} {l : List Oper} {fuel : Nat} {early : List Nat} {listed : Array Bool}
theorem Know.bool_at {N : Nat} {a : Act} {s : Nat} {v : Value} (hk : Know N E a) (h : Env.get E s = some v) : Know N ((s, v) :: E) a := hk.sub (fun t u e => by
 rw [get_cons] at e
 by_cases hst : s = t
 ·subst hst; rw [if_pos rfl] at e; rw [← Option.some.inj e]; exact h
 ·rw [if_neg hst] at e; exact e)
theorem KO.split {b : Bool} (s : Nat) (hs : Env.get E s = some (.bool b)) (h1 : b = true → KO X ops l k ((s, .bool true) :: E) L) (h2 : b = false → KO X ops l k ((s, .bool false) :: E) L) : KO X ops l k E L := fun a w hk hst => by
 cases b
 ·exact h2 rfl a w (hk.bool_at hs) hst
 ·exact h1 rfl a w (hk.bool_at hs) hst
theorem KO.dsplit {p : Prop} {dp : Decidable p} (s : Nat) (hs : Env.get E s = some (.bool (@decide p dp))) (h1 : p → KO X ops l k ((s, .bool true) :: E) L) (h2 : ¬ p → KO X ops l k ((s, .bool false) :: E) L) : KO X ops l k E L :=
 KO.split s hs (fun h => h1 (of_decide_eq_true h)) (fun h => h2 (of_decide_eq_false h))
theorem D.split {b : Bool} (s : Nat) (hs : Env.get E s = some (.bool b)) (h1 : b = true → D X ops k Sc fuel early listed ((s, .bool true) :: E) L) (h2 : b = false → D X ops k Sc fuel early listed ((s, .bool false) :: E) L) : D X ops k Sc fuel early listed E L := fun a w hk hst => by
 cases b
 ·exact h2 rfl a w (hk.bool_at hs) hst
 ·exact h1 rfl a w (hk.bool_at hs) hst
theorem D.dsplit {p : Prop} {dp : Decidable p} (s : Nat) (hs : Env.get E s = some (.bool (@decide p dp))) (h1 : p → D X ops k Sc fuel early listed ((s, .bool true) :: E) L) (h2 : ¬ p → D X ops k Sc fuel early listed ((s, .bool false) :: E) L) : D X ops k Sc fuel early listed E L :=
 D.split s hs (fun h => h1 (of_decide_eq_true h)) (fun h => h2 (of_decide_eq_false h))
theorem K.joinB {c : Code} (s : Nat) (b : Bool) (h : (∀ y, y = b → K X k ((s, .bool y) :: E) L) → K X (.code c :: k) E L) (h' : ∀ y, y = b → K X k ((s, .bool y) :: E) L) : K X (.code c :: k) E L := h h'
theorem K.subE {E' : Env} (hE : Env.sub E E') (h : K X k E' L) : K X k E L := K.weak hE (fun _ h => h) h
theorem D.st {L' : List HP} (hL : ∀ w, St X.ρ L w → St X.ρ L' w) (h : D X ops k Sc fuel early listed E L') : D X ops k Sc fuel early listed E L := fun a w hk hs => h a w hk (hL w hs)
theorem D.fact {φ : Prop} (hL : ∀ w, St X.ρ L w → φ) (h : φ → D X ops k Sc fuel early listed E L) : D X ops k Sc fuel early listed E L := fun a w hk hs => h (hL w hs) a w hk hs
theorem D.ex {ι : Type} {B : ι → List HP} (hL : ∀ w, St X.ρ L w → ∃ i, St X.ρ (B i) w) (h : ∀ i, D X ops k Sc fuel early listed E (B i)) : D X ops k Sc fuel early listed E L := fun a w hk hs => let ⟨i, hi⟩ := hL w hs; h i a w hk hi
end
class Pers (A : HP) : Prop where
 h : A.pers = true
instance {b : Nat} {o : Obj} : Pers (fz b o) := ⟨rfl⟩
instance {b e : Nat} {cs : List Value} : Pers (fv b e cs) := ⟨rfl⟩
instance {α : Type} {k : Kd α} {p : Option Addr} {xs : List α} : Pers (RowF k p xs) := ⟨rfl⟩
instance {α : Type} {k : Kd α} {c : Array Value} {o : Nat} {xs : List α} : Pers (rowP k c o xs) := ⟨rfl⟩
instance {W : World} : Pers (old W) := ⟨rfl⟩
instance {φ : Prop} : Pers (pure_ φ) := ⟨rfl⟩
theorem Give.perI {L M L2 : List HP} {A : HP} [h : Pers A] (m : A ∈ L) (g : Give L M L2) : Give L (A :: M) L2 := Give.per h.h m g
theorem St.fitD {ρ : World} {Lc M L' L : List HP} {w : World} (h : St ρ Lc w) (g : Give Lc M L' := by repeat (first | exact Give.nil | (apply Give.perI; (repeat (first | exact List.Mem.head _ | apply List.Mem.tail))) | (apply Give.own; (repeat (first | exact Pick.here | apply Pick.there))))) (d : Drop L' L := by repeat (first | exact Drop.refl | apply Drop.skip)) : St ρ (M ++ L) w := h.fit g d
theorem St.subD {ρ : World} {L M L' : List HP} {w : World} (h : St ρ L w) (p : Give L M L' := by repeat (first | exact Give.nil | (apply Give.perI; (repeat (first | exact List.Mem.head _ | apply List.Mem.tail))) | (apply Give.own; (repeat (first | exact Pick.here | apply Pick.there))))) : St ρ M w := h.sub p
theorem pv_rowF1 {α : Type} {k : Kd α} {ρ : World} {L : List HP} {w : World} {b e : Nat} {cs : List Value} (x : α) (hr : ∀ g, k.rd g x cs) (h : St ρ (pv b e cs :: L) w) : St ρ (RowF k (some ⟨b, 0, none⟩) [x] :: L) w := by
 have h2 : St ρ (fv b e cs :: L) w := h.fzv
 unfold fv at h2
 have h1 : St ρ (rowP k cs.toArray 0 [x] :: fz b (.cells cs.toArray e (0, 0)) :: L) w := by
  obtain ⟨g, q, a, b', c, d⟩ := h2.body
  refine ⟨h2.os, h2.tape, h2.output, g, q, a, b', c, sepAll_cons_per (A := rowP k cs.toArray 0 [x]) rfl (h1 := fun _ => none) (fun i y hy => ?_) d⟩
  cases i with
  | zero =>
   simp at hy
   subst hy
   exact ⟨cs, hr g, fun j v hv => by simpa using hv⟩
  | succ i => simp at hy
 have h3 : St ρ (RowF k (some ⟨b, 0, none⟩) [x] :: rowP k cs.toArray 0 [x] :: fz b (.cells cs.toArray e (0, 0)) :: L) w := rowF_shut (List.Mem.tail _ (List.Mem.head _)) (List.Mem.head _) h1
 exact (h3.pick (.there .here)).tail |>.pick (.there .here) |>.tail
theorem rowF_cut {α : Type} {k : Kd α} {ρ : World} {L : List HP} {w : World} {p : Option Addr} {xs : List α} {cap : Nat} (n : Nat) (hc : xs.length ≤ cap) (m : RowF k p xs ∈ L) (h : St ρ L w) : St ρ (RowF k (cutAddr p cap n k.sz) (xs.drop n) :: L) w := by
 rcases rowF_open m h with rfl | ⟨b, o, c, e, fr, rfl, h2⟩
 ·rw [List.drop_nil]; exact rowF_nil _ h
 ·by_cases hn : cap = n
  ·have : xs.drop n = [] := List.drop_eq_nil_of_le (by omega)
   rw [this]; exact rowF_nil _ h
  ·have e1 : cutAddr (some (⟨b, o, none⟩ : Addr)) cap n k.sz = some ⟨b, o + n * k.sz, none⟩ := by
    unfold cutAddr
    rw [if_neg hn]
    simp [add_addr]
   rw [e1]
   have h3 : St ρ (rowP k c (o + n * k.sz) (xs.drop n) :: fz b (.cells c e fr) :: rowP k c o xs :: L) w := St.derive (A := rowP k c o xs) (List.Mem.tail _ (List.Mem.head _)) rfl (fun g _ hr => fun i x hx => by
    rw [List.getElem?_drop] at hx
    obtain ⟨cs, h1, h2⟩ := (hr : rowAt k g c o xs) _ x hx
    refine ⟨cs, h1, fun j v hv => ?_⟩
    rw [← h2 j v hv]
    congr 1
    rw [Nat.add_mul]
    omega) h2
   have h4 := rowF_shut (List.Mem.tail _ (List.Mem.head _)) (List.Mem.head _) h3
   exact ((((h4.pick (.there .here)).tail).pick (.there .here)).tail.pick (.there .here)).tail
theorem rowF_take {α : Type} {k : Kd α} {ρ : World} {L : List HP} {w : World} {p : Option Addr} {xs : List α} (n : Nat) (m : RowF k p xs ∈ L) (h : St ρ L w) : St ρ (RowF k p (xs.take n) :: L) w :=
 St.derive m rfl (fun g _ ha => (ha : _ ∨ _).imp (fun e => by rw [e]; simp) (fun ⟨b, o, c, e, fr, hp, hb, hr⟩ => ⟨b, o, c, e, fr, hp, hb, fun i x hx => by
  rw [List.getElem?_take] at hx
  split at hx
  ·exact hr i x hx
  ·cases hx⟩)) h
theorem cutAddr_zero (p : Option Addr) (cap sz : Nat) : cutAddr p cap 0 sz = p := by
 unfold cutAddr
 split
 ·rfl
 ·cases p with
  | none => rfl
  | some a => simp [Addr.add]
section
variable {X : Fx} {E : Env} {L : List HP} {d : Option Tmp} {ty : TypeId} {pos : String} {af : Array Edge} {gd : Option (Nat × Bool)} {t : TypeId} {x y z : Operand}
theorem q_cutH {p : Option Addr} {n cap e sz bytes : Nat} {h : Int} (ht : slElem X.P t = some (e, sz, bytes)) (hx : Env.ev E x = some (.slice p n cap)) (hh : Env.ev E y = some (.int .i64 h)) (h1 : 0 ≤ h) (h2 : h ≤ cap) :
  OpQ X ⟨d, .slice t x none (some y) none, ty, pos, af, gd⟩ E L (.slice p h.toNat cap) := by
 obtain ⟨m, rfl⟩ := Int.eq_ofNat_of_zero_le h1
 have := q_cut (X := X) (L := L) (d := d) (ty := ty) (pos := pos) (af := af) (gd := gd) (lo := none) (hi := some y) (l := 0) (h := m) ht hx rfl hh (Nat.zero_le _) (by omega)
 rwa [cutAddr_zero] at this
theorem q_cutL {p : Option Addr} {n cap e sz bytes : Nat} {l : Int} (ht : slElem X.P t = some (e, sz, bytes)) (hx : Env.ev E x = some (.slice p n cap)) (hl : Env.ev E y = some (.int .i64 l)) (h1 : 0 ≤ l) (h2 : l ≤ n) (h3 : n ≤ cap) :
  OpQ X ⟨d, .slice t x (some y) none none, ty, pos, af, gd⟩ E L (.slice (cutAddr p cap l.toNat sz) (n - l.toNat) (cap - l.toNat)) := by
 obtain ⟨m, rfl⟩ := Int.eq_ofNat_of_zero_le h1
 exact q_cut (lo := some y) (hi := none) (l := m) (h := n) ht hx hl rfl (by omega) h3
theorem q_cutB {p : Option Addr} {n cap e sz bytes : Nat} {l h : Int} (ht : slElem X.P t = some (e, sz, bytes)) (hx : Env.ev E x = some (.slice p n cap)) (hl : Env.ev E y = some (.int .i64 l)) (hh : Env.ev E z = some (.int .i64 h)) (h1 : 0 ≤ l) (h2 : l ≤ h) (h3 : h ≤ cap) :
  OpQ X ⟨d, .slice t x (some y) (some z) none, ty, pos, af, gd⟩ E L (.slice (cutAddr p cap l.toNat sz) (h.toNat - l.toNat) (cap - l.toNat)) := by
 obtain ⟨m, rfl⟩ := Int.eq_ofNat_of_zero_le h1
 obtain ⟨k, rfl⟩ := Int.eq_ofNat_of_zero_le (a := h) (by omega)
 exact q_cut (lo := some y) (hi := some z) (l := m) (h := k) ht hx hl hh (by omega) (by omega)
theorem q_scutH {s : ByteArray} {h : Int} (ht : X.P.underlying t = some .string) (hx : Env.ev E x = some (.string s)) (hh : Env.ev E y = some (.int .i64 h)) (h1 : 0 ≤ h) (h2 : h ≤ s.size) :
  OpQ X ⟨d, .slice t x none (some y) none, ty, pos, af, gd⟩ E L (.string (s.extract 0 h.toNat)) := by
 obtain ⟨m, rfl⟩ := Int.eq_ofNat_of_zero_le h1
 exact q_scut (lo := none) (hi := some y) (l := 0) (h := m) ht hx rfl hh (Nat.zero_le _) (by omega)
end
theorem rowF_cellU {ρ : World} {L : List HP} {b o : Nat} {xs : List UInt8} {i : Nat} {x : UInt8} (m : RowF Kd.u8 (some ⟨b, o, none⟩) xs ∈ L) (hx : xs[i]? = some x) : ∀ w, St ρ L w → w.cell? ⟨b, o + i * 1, none⟩ = some (.int .u8 x.toNat) := rowF_cell (j := 0) m hx rfl
section
variable {X : Fx} {k : List Item} {E : Env} {L : List HP}
theorem K.rloop {c : Code} {ι : Type} (I : ι → Env) (μ : ι → Nat) (i : ι) (hE : Env.sub E (I i)) (round : ∀ i, (∀ j, μ j < μ i → K X (.inLoop c :: k) (I j) L) → K X (.code c :: .inLoop c :: k) (I i) L) : K X (.code (.loop c) :: k) E L :=
 K.rounds (fun i => (I i, L)) μ i hE (fun _ h => h) round
end
end Go.Proofs.YtkbhldicnamcdaaGreat.L
namespace Go.Proofs.YtkbhldicnamcdaaGreat.L
open Go Go.RowKit
theorem St.start (W : World) : St W [old W] W :=
 ⟨rfl, rfl, ⟨rfl, Nat.le_refl _⟩, heapOf W, fun _ => none, fun _ => .inr rfl, Hp.le_refl _, Hp.none_le _, fun _ => none, fun _ => none, fun _ => .inl rfl, Hp.none_le _, Hp.none_le _, Hp.le_refl _, trivial⟩
theorem Fn.law {P : Program} {f : FuncId} {args : Array Value} {pre : List HP} (h : Fn P f args pre (fun v post => v = .bool true ∧ post = [])) (W : World) (hpre : St W (pre ++ [old W]) W) :
  Calls P f args W (fun e w' => e = .returned (.bool true) ∧ Below W.heap.size W w') :=
 (h.2 W [old W] W hpre).mono fun _ _ ⟨_, _, he, ⟨hv, hp⟩, hs⟩ => by
  subst hv hp
  exact ⟨he, hs.old_below (List.Mem.head _) rfl rfl rfl⟩
theorem St.rowOf {α : Type} {k : Kd α} {W : World} {L : List HP} {w : World} {p : Option Addr} {xs : List α} (m : old W ∈ L)
  (h : xs = [] ∨ ∃ b o c e fr, p = some ⟨b, o, none⟩ ∧ W.heap[b]? = some (.cells c e fr) ∧ rowAt k (heapOf W) c o xs) (hs : St W L w) : St W (RowF k p xs :: L) w :=
 St.derive m rfl (fun _ _ hg => h.imp id fun ⟨b, o, c, e, fr, hp, hb, hr⟩ => ⟨b, o, c, e, fr, hp, (hg : Hp.le (heapOf W) _) _ _ hb, hr.mono hg⟩) hs
theorem sz_le {s : ByteArray} (h : s.size ≤ maxLen) : (s.size : Int) ≤ 9223372036854775807 := by unfold maxLen at h; omega
end Go.Proofs.YtkbhldicnamcdaaGreat.L
namespace Go.Proofs.YtkbhldicnamcdaaGreat.L
open Go Go.RowKit Go.ChangeShapes
section
variable {H : Type} (enc : TypeId × Value → H) (P : Program) (W : World)
def Opens {α : Type} (k : Kd α) (t : TypeId) (B : α → Prop) : Prop :=
 ∀ fuel cs y, DataW.trod enc P W 0 (fun _ => true) true fuel t cs = some y → ∃ x, k.rd (heapOf W) x cs ∧ B x
end
section
variable {H : Type} {enc : TypeId × Value → H} {P : Program} {W : World}
theorem opens_int {t : TypeId} (ht : P.underlying t = some (.int .i64)) : Opens enc P W (Kd.int .i64) t (fun n => -9223372036854775808 ≤ n ∧ n ≤ 9223372036854775807) := fun fuel cs y h => by
 obtain ⟨n, rfl, _, hw⟩ := DataW.trod_int ht h
 exact ⟨n, rfl, bounds_i64 hw⟩
theorem opens_bool {t : TypeId} (ht : P.underlying t = some .bool) : Opens enc P W Kd.boolK t (fun _ => True) := fun fuel cs y h => by
 obtain ⟨b, rfl, _⟩ := DataW.trod_bool ht h
 exact ⟨b, rfl, trivial⟩
theorem opens_str {t : TypeId} (ht : P.underlying t = some .string) : Opens enc P W Kd.str t (fun s => (s.size : Int) ≤ 9223372036854775807) := fun fuel cs y h => by
 obtain ⟨s, rfl, _, hs⟩ := DataW.trod_string ht h
 exact ⟨s, rfl, sz_le hs⟩
theorem opens_slice {α : Type} {k : Kd α} {B : α → Prop} {t e : TypeId} (ht : P.underlying t = some (.slice e)) (hc : P.cellsOf e = k.sz) (h0 : 0 < k.sz) (he : Opens enc P W k e B) {fuel : Nat} {cs : List Value} {y : DataW H × List MemPlace}
  (h : DataW.trod enc P W 0 (fun _ => true) true fuel t cs = some y) :
  ∃ (p : Option Addr) (xs : List α) (cap : Nat), cs = [.slice p xs.length cap] ∧ xs.length ≤ cap ∧ (cap : Int) ≤ 9223372036854775807 ∧ (∀ x ∈ xs, B x) ∧
   (xs = [] ∨ ∃ b o c e fr, p = some ⟨b, o, none⟩ ∧ W.heap[b]? = some (.cells c e fr) ∧ rowAt k (heapOf W) c o xs) := by
 rcases DataW.trod_slice ht h with ⟨rfl, _⟩ | ⟨a, len, cap, elems, rest, n, _, rfl, _, hb, hl, hm, hlen, hel, _⟩
 ·exact ⟨none, [], 0, rfl, Nat.le_refl _, by decide, fun x hx => by simp at hx, .inl rfl⟩
 have hmax : (cap : Int) ≤ 9223372036854775807 := by unfold maxLen at hm; omega
 by_cases hl0 : len = 0
 ·subst hl0
  exact ⟨some a, [], cap, rfl, Nat.zero_le _, hmax, fun x hx => by simp at hx, .inl rfl⟩
 have each : ∀ i : Fin len, ∃ x cs', W.cells? 0 (a.add (i.1 * k.sz)) k.sz = some cs' ∧ k.rd (heapOf W) x cs' ∧ B x := by
  intro i
  have h1 := hel i.1 i.2
  rw [List.getElem?_eq_getElem (by omega), hc, Option.bind_eq_some_iff] at h1
  obtain ⟨cs', h2, h3⟩ := h1
  obtain ⟨x, h4, h5⟩ := he _ _ _ h3
  exact ⟨x, cs', h2, h4, h5⟩
 let f : Fin len → α := fun i => Classical.choose (each i)
 have hf : ∀ i : Fin len, ∃ cs', W.cells? 0 (a.add (i.1 * k.sz)) k.sz = some cs' ∧ k.rd (heapOf W) (f i) cs' ∧ B (f i) := fun i => Classical.choose_spec (each i)
 have hlen2 : (List.ofFn f).length = len := List.length_ofFn
 -- the block
 obtain ⟨b, o, hab, c, ee, fr, hblk⟩ : ∃ b o, a = ⟨b, o, none⟩ ∧ ∃ c ee fr, W.heap[b]? = some (.cells c ee fr) := by
  obtain ⟨cs', h1, h2, _⟩ := hf ⟨0, by omega⟩
  obtain ⟨_, hl', hcell⟩ := World.cells?_some h1
  have h3 := hcell 0 h0
  have h4 : W.cell? a = some (cs'[0]'(by omega)) := by
   rw [← List.getElem?_eq_getElem (by omega)]
   simpa [Addr.add] using h3
  unfold World.cell? at h4
  obtain ⟨b, o, sp⟩ := a
  split at h4
  ·rename_i c ee fr hb
   cases sp with
   | none => exact ⟨b, o, rfl, c, ee, fr, hb⟩
   | some s => simp at h4
  ·cases h4
 subst hab
 refine ⟨some ⟨b, o, none⟩, List.ofFn f, cap, by rw [hlen2], by rw [hlen2]; exact hl, hmax, ?_, .inr ⟨b, o, c, ee, fr, rfl, hblk, ?_⟩⟩
 ·intro x hx
  obtain ⟨i, rfl⟩ := List.mem_ofFn.1 hx
  obtain ⟨_, _, _, h⟩ := hf i
  exact h
 ·intro i x hx
  obtain ⟨hi, hx2⟩ := List.getElem?_eq_some_iff.1 hx
  rw [List.getElem_ofFn] at hx2
  have hi' : i < len := by rwa [hlen2] at hi
  obtain ⟨cs', h1, h2, _⟩ := hf ⟨i, hi'⟩
  obtain ⟨_, hl', hcell⟩ := World.cells?_some h1
  refine ⟨cs', hx2 ▸ h2, fun j v hv => ?_⟩
  have hj : j < k.sz := by rw [← hl']; exact (List.getElem?_eq_some_iff.1 hv).1
  have h3 := hcell j hj
  rw [add_addr, add_addr, hv] at h3
  unfold World.cell? at h3
  have h4 : W.heap[(⟨b, o + i * k.sz + j, none⟩ : Addr).block]? = some (.cells c ee fr) := hblk
  rw [h4] at h3
  exact h3
theorem opens_fields {t : TypeId} {fs : Array Field} (ht : P.underlying t = some (.struct fs)) {fuel : Nat} {cs : List Value} {y : DataW H × List MemPlace} (h : DataW.trod enc P W 0 (fun _ => true) true fuel t cs = some y) :
  cs.length = P.cellsOf t ∧ ∃ n, ∀ (i : Nat) (f : Field), fs[i]? = some f → ∃ y, DataW.trod enc P W 0 (fun _ => true) true n f.type ((cs.drop f.offset).take (P.cellsOf f.type)) = some y := by
 obtain ⟨xs, n, _, _, hl, hlen, hf⟩ := DataW.trod_struct ht h
 refine ⟨hl, n, fun i f hi => ?_⟩
 have hi' : i < xs.length := by rw [hlen]; exact (Array.getElem?_eq_some_iff.1 hi).1
 exact ⟨xs[i], by rw [hf i f hi, List.getElem?_eq_getElem hi']⟩
end
end Go.Proofs.YtkbhldicnamcdaaGreat.L
namespace Go.Proofs.YtkbhldicnamcdaaGreat.L
open Go Go.RowKit
theorem pv_rowFg {α : Type} {k : Kd α} {ρ : World} {L : List HP} {w : World} {b e : Nat} {cs : List Value} (xs : List α) (hr : ∀ g, rowAt k g cs.toArray 0 xs) (h : St ρ (pv b e cs :: L) w) : St ρ (RowF k (some ⟨b, 0, none⟩) xs :: L) w := by
 have h2 : St ρ (fv b e cs :: L) w := h.fzv
 unfold fv at h2
 have h1 : St ρ (rowP k cs.toArray 0 xs :: fz b (.cells cs.toArray e (0, 0)) :: L) w := by
  obtain ⟨g, q, a, b', c, d⟩ := h2.body
  exact ⟨h2.os, h2.tape, h2.output, g, q, a, b', c, sepAll_cons_per (A := rowP k cs.toArray 0 xs) rfl (h1 := fun _ => none) (hr g) d⟩
 have h3 : St ρ (RowF k (some ⟨b, 0, none⟩) xs :: rowP k cs.toArray 0 xs :: fz b (.cells cs.toArray e (0, 0)) :: L) w := rowF_shut (List.Mem.tail _ (List.Mem.head _)) (List.Mem.head _) h1
 exact (h3.pick (.there .here)).tail |>.pick (.there .here) |>.tail
section
variable {X : Fx} {E : Env} {L : List HP} {d : Option Tmp} {t u ty : TypeId} {x y : Operand} {pos : String} {af : Array Edge} {gd : Option (Nat × Bool)}
theorem q_eqT {k : IntKind} {a b : Int} (hx : Env.ev E x = some (.int k a)) (hy : Env.ev E y = some (.int k b)) (h : a = b) : OpQ X ⟨d, .binOp .eql t x y u, ty, pos, af, gd⟩ E L (.bool true) := decide_eq_true h ▸ q_eq hx hy
theorem q_eqF {k : IntKind} {a b : Int} (hx : Env.ev E x = some (.int k a)) (hy : Env.ev E y = some (.int k b)) (h : ¬ a = b) : OpQ X ⟨d, .binOp .eql t x y u, ty, pos, af, gd⟩ E L (.bool false) := decide_eq_false h ▸ q_eq hx hy
theorem q_neF {k : IntKind} {a b : Int} (hx : Env.ev E x = some (.int k a)) (hy : Env.ev E y = some (.int k b)) (h : a = b) : OpQ X ⟨d, .binOp .neq t x y u, ty, pos, af, gd⟩ E L (.bool false) := decide_eq_false (not_not_intro h) ▸ q_ne hx hy
theorem q_sneF {a b : ByteArray} (hx : Env.ev E x = some (.string a)) (hy : Env.ev E y = some (.string b)) (h : a = b) : OpQ X ⟨d, .binOp .neq t x y u, ty, pos, af, gd⟩ E L (.bool false) := decide_eq_false (not_not_intro h) ▸ q_sne hx hy
end
end Go.Proofs.YtkbhldicnamcdaaGreat.L
namespace Go.Proofs.YtkbhldicnamcdaaGreat.L
open Go Go.RowKit
theorem run_loadVarN {P : Program} {w : World} {t : TypeId} {b n : Nat} {cs : List Value} (ht : cellK P t = some (true, n)) (hn : cs.length = n) (hc : ∀ j v, cs[j]? = some v → w.cell? ⟨b, 0 + j, none⟩ = some v) : (loadVar t ⟨b, 0, none⟩).run P w = .ok (.agg cs.toArray) w := by
 have := run_loadCellsFrom (P := P) (w := w) (b := b) (o := 0) cs 0 #[] (fun j v hj => by have := hc j v hj; rwa [show 0 + (0 + j) = 0 + j by omega])
 simp only [loadVar, Sem.run_bind, Sem.run_pure, Result.andThen_ok, run_cellKN ht, if_true, run_sizeK ht, loadCells]
 rw [← hn, this]
 simp
theorem resC {P : Program} {fn : Func} {N : Nat} {E : Env} {a : Act} {w : World} {t b n : Nat} {e : TypeId} {cs : List Value} (h : fn.results = #[.cell t e]) (hk : Know N E a) (h1 : Env.get E t = some (.pointer (some ⟨b, 0, none⟩)))
  (ht : cellK P e = some (true, n)) (hn : cs.length = n) (hc : ∀ j v, cs[j]? = some v → w.cell? ⟨b, 0 + j, none⟩ = some v) : (results fn a.tmps).run P w = .ok (.agg cs.toArray) w := by
 have e1 := hk.slot _ _ h1
 simp [results, h, e1, asAddr, run_loadVarN ht hn hc]
theorem resCT {P : Program} {fn : Func} {N : Nat} {E : Env} {a : Act} {w : World} {t u b n : Nat} {e : TypeId} {cs : List Value} {x : Value} (h : fn.results = #[.cell t e, .tmp u]) (hk : Know N E a) (h1 : Env.get E t = some (.pointer (some ⟨b, 0, none⟩)))
  (ht : cellK P e = some (true, n)) (hn : cs.length = n) (hc : ∀ j v, cs[j]? = some v → w.cell? ⟨b, 0 + j, none⟩ = some v) (h2 : Env.get E u = some x) : (results fn a.tmps).run P w = .ok (.tuple #[.agg cs.toArray, x]) w := by
 have e1 := hk.slot _ _ h1
 have e2 := hk.slot _ _ h2
 simp [results, h, e1, e2, asAddr, run_loadVarN ht hn hc]
theorem K.via {X : Fx} {it : Item} {k : List Item} {E : Env} {L : List HP} {ι : Type} (I : ι → Env × List HP) (h : ∀ i, K X k (I i).1 (I i).2) (h' : (∀ i, K X k (I i).1 (I i).2) → K X (it :: k) E L) : K X (it :: k) E L := h' h
theorem flat_at {α : Type} {n : Nat} {enc : α → List Value} (hl : ∀ x, (enc x).length = n) : ∀ (xs : List α) (i j : Nat) (x : α) (v : Value), xs[i]? = some x → (enc x)[j]? = some v → (xs.flatMap enc)[i * n + j]? = some v
 | [], _, _, _, _, h, _ => by simp at h
 | y :: ys, 0, j, x, v, h, hv => by
  obtain rfl : y = x := by simpa using h
  have hj : j < (enc y).length := (List.getElem?_eq_some_iff.1 hv).1
  rw [List.flatMap_cons, Nat.zero_mul, Nat.zero_add, List.getElem?_append_left hj, hv]
 | y :: ys, i + 1, j, x, v, h, hv => by
  have h' : ys[i]? = some x := by simpa using h
  have ih := flat_at hl ys i j x v h' hv
  have e : (i + 1) * n + j = (enc y).length + (i * n + j) := by rw [hl, Nat.add_mul]; omega
  rw [List.flatMap_cons, e, List.getElem?_append_right (by omega), Nat.add_sub_cancel_left]
  exact ih
theorem pv_flat {α : Type} {n : Nat} {enc : α → List Value} {hl : ∀ x, (enc x).length = n} {h1 : ∀ x, ∀ v ∈ enc x, v.oneCell' = true} {ρ : World} {L : List HP} {w : World} {b e : Nat} {cs : List Value} (xs : List α) (hc : cs = xs.flatMap enc)
  (h : St ρ (pv b e cs :: L) w) : St ρ (RowF (Kd.flat n enc hl h1) (some ⟨b, 0, none⟩) xs :: L) w :=
 pv_rowFg xs (fun g i x hx => ⟨enc x, rfl, fun j v hv => by
  subst hc
  have := flat_at hl xs i j x v hx hv
  have e : 0 + i * (Kd.flat n enc hl h1).sz + j = i * n + j := by show 0 + i * n + j = _; omega
  rw [e]; simpa using this⟩) h
end Go.Proofs.YtkbhldicnamcdaaGreat.L
namespace Go.Proofs.YtkbhldicnamcdaaGreat.L
open Go Go.RowKit
inductive Sc (P : Program) (t : TypeId) : Value → Value → Bool → Prop where
 | int {k : IntKind} {a b : Int} (h : P.underlying t = some (.int k)) : Sc P t (.int k a) (.int k b) (a == b)
 | bool {a b : Bool} (h : P.underlying t = some .bool) : Sc P t (.bool a) (.bool b) (a == b)
 | str {a b : ByteArray} (h : P.underlying t = some .string) : Sc P t (.string a) (.string b) (a == b)
theorem Sc.run {P : Program} {t : TypeId} {a b : Value} {r : Bool} (h : Sc P t a b r) (d : Nat) (w : World) : (Op.equalIn (d + 1) t a b).run P w = .ok r w := by
 cases h with
 | int h => exact eq_int d h
 | bool h => exact eq_bool d h
 | str h => exact eq_str d h
inductive EqF (P : Program) (xs ys : List Value) : List Field → Bool → Prop where
 | nil : EqF P xs ys [] true
 | cons {f : Field} {fs : List Field} {a b : Value} {r s : Bool} (hn : (f.name == "_") = false) (hk : cellK P f.type = some (false, 1)) (ha : xs[f.offset]? = some a) (hb : ys[f.offset]? = some b) (hs : Sc P f.type a b r) (ht : EqF P xs ys fs s) : EqF P xs ys (f :: fs) (r && s)
theorem run_part1 {P : Program} {w : World} {t : TypeId} {cs : List Value} {o : Nat} {v : Value} (hk : cellK P t = some (false, 1)) (hv : cs[o]? = some v) : (part t cs.toArray o).run P w = .ok v w := by
 have hv' : cs.toArray[o]? = some v := by simpa using hv
 simp [part, run_cellK1 hk, hv']
theorem EqF.run {P : Program} {xs ys : List Value} {fs : List Field} {r : Bool} (h : EqF P xs ys fs r) (d : Nat) (w : World) : (Op.eqFields (d + 1) xs.toArray ys.toArray fs).run P w = .ok r w := by
 induction h with
 | nil => simp [Op.eqFields]
 | cons hn hk ha hb hs ht ih =>
  rename_i f fs a b r s
  have hn' : f.name ≠ "_" := by simpa using hn
  rw [Op.eqFields]
  simp only [if_pos hn', Sem.run_bind, run_part1 hk ha, run_part1 hk hb, hs.run d w, Result.andThen_ok]
  cases r
  ·simp
  ·simpa using ih
end Go.Proofs.YtkbhldicnamcdaaGreat.L
namespace Go.Proofs.YtkbhldicnamcdaaGreat.L
open Go Go.RowKit
theorem cells_pvAt {ρ : World} {L : List HP} {b o : Nat} {e : TypeId} {cs vs rest : List Value} (m : pv b e cs ∈ L) (hd : cs.drop o = vs ++ rest) : ∀ w, St ρ L w → ∀ j v, vs[j]? = some v → w.cell? ⟨b, o + j, none⟩ = some v := fun w hs j v hv => by
 refine cell_pv m ?_ w hs
 have hj : j < vs.length := (List.getElem?_eq_some_iff.1 hv).1
 have h1 : (cs.drop o)[j]? = some v := by rw [hd, List.getElem?_append_left hj, hv]
 rwa [List.getElem?_drop] at h1
def goneOp (N : Nat) (ops : Array Oper) (E : Env) (o : Oper) : Bool :=
 dstOk N o.dst && match o.guard with
  | none => false
  | some (j, _) => match ((ops[j]?).bind (·.dst)).bind (Env.get E) with
   | some (.bool _) => false
   | some _ => true
   | none => false
theorem goneOp_dst {N : Nat} {ops : Array Oper} {E : Env} {o : Oper} (h : goneOp N ops E o = true) : dstOk N o.dst = true := by
 unfold goneOp at h
 rw [Bool.and_eq_true] at h
 exact h.1
theorem goneOp_wanted {N : Nat} {ops : Array Oper} {E : Env} {o : Oper} {a : Act} (hk : Know N E a) (h : goneOp N ops E o = true) : Region.wanted o (yielded ops a.tmps) = false := by
 unfold goneOp at h
 rw [Bool.and_eq_true] at h
 obtain ⟨_, h⟩ := h
 unfold Region.wanted
 cases hg : o.guard with
 | none => rw [hg] at h; cases h
 | some p =>
  obtain ⟨j, g⟩ := p
  rw [hg] at h
  simp only at h ⊢
  cases hd : (ops[j]?).bind (·.dst) with
  | none => rw [hd] at h; cases h
  | some t =>
   rw [hd] at h
   simp only [Option.bind_some] at h
   cases he : Env.get E t with
   | none => rw [he] at h; cases h
   | some v =>
    rw [he] at h
    have hs := hk.slot _ _ he
    unfold yielded
    rw [hd]
    simp only [Option.bind_some, hs]
    cases v <;> simp_all
section
variable {X : Fx} {E : Env} {L : List HP} {ops : Array Oper} {l : List Oper} {k : List Item} {d : Tmp} {op : Op} {ty : TypeId} {pos : String} {af : Array Edge} {gd : Option (Nat × Bool)}
theorem KO.gone (hok : goneOp X.N ops E ⟨some d, op, ty, pos, af, gd⟩ = true) (h : KO X ops l k ((d, undef) :: E) L) : KO X ops (⟨some d, op, ty, pos, af, gd⟩ :: l) k E L := fun a w hk hs => by
 simp only [wpL, goneOp_wanted hk hok, Bool.false_eq_true, if_false]
 exact h _ _ (hk.put (goneOp_dst hok) undef) hs
end
end Go.Proofs.YtkbhldicnamcdaaGreat.L
namespace Go.Proofs.YtkbhldicnamcdaaGreat.L
open Go Go.RowKit
def rowB (p : Option Addr) : Nat := match p with | some a => a.block | none => 0
def rowS (p : Option Addr) : Nat := match p with | some a => a.off | none => 0
def elA (p : Option Addr) (n sz j : Nat) : Addr := ⟨rowB p, rowS p + n * sz + j, none⟩
theorem elA_some (b o n sz j : Nat) : elA (some ⟨b, o, none⟩) n sz j = ⟨b, o + n * sz + j, none⟩ := rfl
section
variable {X : Fx} {E : Env} {L L' : List HP} {d : Option Tmp} {ty : TypeId} {pos : String} {af : Array Edge} {gd : Option (Nat × Bool)} {t : TypeId}
theorem OpQ.when {o : Oper} {v : Value} {φ : Prop} (hf : ∀ w, St X.ρ L w → φ) (h : φ → OpQ X o E L v) : OpQ X o E L v := fun a w hk hs => h (hf w hs) a w hk hs
theorem q_ix {α : Type} {k : Kd α} {A : HP} {p : Option Addr} {xs : List α} {e sz bytes len cap : Nat} {x ix : Operand} {ik : IntKind} {i : Int} (n : Nat) (ht : slElem X.P t = some (e, sz, bytes)) (hx : Env.ev E x = some (.slice p len cap)) (hi : Env.ev E ix = some (.int ik i)) (hn : i = (n : Int))
  (hA : IsRow A k p xs) (m : A ∈ L) (hl : len = xs.length) (h1 : n < xs.length) : OpQ X ⟨d, .indexAddr t x ix, ty, pos, af, gd⟩ E L (.pointer (some (elA p n sz 0))) := by
 refine OpQ.when (row_addr hA m (by intro e; subst e; simp at h1)) ?_
 rintro ⟨b, o, rfl⟩
 have := q_index (X := X) (L := L) (d := d) (ty := ty) (pos := pos) (af := af) (gd := gd) ht hx hi (by omega) (by omega)
 rw [hn, Int.toNat_natCast] at this
 rw [elA_some]
 exact this
theorem qE {s : TypeId} {x : Operand} {f off n sz j : Nat} {p : Option Addr} (hf : fieldOff X.P s f = some off) (hx : Env.ev E x = some (.pointer (some (elA p n sz j)))) :
  OpQ X ⟨d, .fieldAddr s x f, ty, pos, af, gd⟩ E L (.pointer (some (elA p n sz (j + off)))) := by
 have := qO (X := X) (L := L) (d := d) (ty := ty) (pos := pos) (af := af) (gd := gd) (b := rowB p) (o := rowS p + n * sz + j) hf hx
 rw [Nat.add_assoc] at this
 exact this
theorem row_cellE {α : Type} {sz : Nat} {enc : α → List Value} {hl : ∀ x, (enc x).length = sz} {h1 : ∀ x, ∀ v ∈ enc x, v.oneCell' = true} {ρ : World} {A : HP} {p : Option Addr} {xs : List α} {n j : Nat} {el : α} {v : Value}
  (hA : IsRow A (Kd.flat sz enc hl h1) p xs) (m : A ∈ L) (he : xs[n]? = some el) (hv : (enc el)[j]? = some v) : ∀ w, St ρ L w → w.cell? (elA p n sz j) = some v := fun w hs => by
 obtain ⟨b, o, rfl⟩ := row_addr hA m (by intro e; subst e; simp at he) w hs
 rw [elA_some]
 exact row_cell hA m he hv w hs
theorem q_ldE {α : Type} {sz : Nat} {enc : α → List Value} {hl : ∀ x, (enc x).length = sz} {h1 : ∀ x, ∀ v ∈ enc x, v.oneCell' = true} {A : HP} {p : Option Addr} {xs : List α} {n j : Nat} {x : Operand} {el : α} {v : Value} (ht : cellK X.P t = some (false, 1)) (hx : Env.ev E x = some (.pointer (some (elA p n sz j))))
  (hA : IsRow A (Kd.flat sz enc hl h1) p xs) (m : A ∈ L) (he : xs[n]? = some el) (hv : (enc el)[j]? = some v) : OpQ X ⟨d, .load t x, ty, pos, af, gd⟩ E L v :=
 q_load1 ht hx (row_cellE hA m he hv)
theorem q_ldEN {α : Type} {sz : Nat} {enc : α → List Value} {hl : ∀ x, (enc x).length = sz} {h1 : ∀ x, ∀ v ∈ enc x, v.oneCell' = true} {A : HP} {p : Option Addr} {xs : List α} {n : Nat} {x : Operand} {el : α} (ht : cellK X.P t = some (true, sz)) (hx : Env.ev E x = some (.pointer (some (elA p n sz 0))))
  (hA : IsRow A (Kd.flat sz enc hl h1) p xs) (m : A ∈ L) (he : xs[n]? = some el) : OpQ X ⟨d, .load t x, ty, pos, af, gd⟩ E L (.agg (enc el).toArray) := by
 refine OpQ.when (row_addr hA m (by intro e; subst e; simp at he)) ?_
 rintro ⟨b, o, rfl⟩
 refine qL (b := b) (o := o + n * sz) ht (by simpa [elA_some] using hx) (hl el) (fun w hs j v hv => ?_)
 have := row_cellE hA m he hv w hs
 rwa [elA_some] at this
def SubAt {α β : Type} (enc : α → List Value) (j : Nat) (sub : α → β) (enc' : β → List Value) : Prop := ∀ x, ∃ rest, (enc x).drop j = enc' (sub x) ++ rest
theorem SubAt.get {α β : Type} {enc : α → List Value} {j : Nat} {sub : α → β} {enc' : β → List Value} (h : SubAt enc j sub enc') (x : α) {i : Nat} {v : Value} (hv : (enc' (sub x))[i]? = some v) : (enc x)[j + i]? = some v := by
 obtain ⟨rest, e⟩ := h x
 have : ((enc x).drop j)[i]? = some v := by rw [e, List.getElem?_append_left (List.getElem?_eq_some_iff.1 hv).1, hv]
 rwa [List.getElem?_drop] at this
theorem q_ldPS {α β : Type} {m' : Nat} {enc : α → List Value} {sub : α → β} {enc' : β → List Value} {b e j : Nat} {x : Operand} {el : α} (hs' : SubAt enc j sub enc') (hl' : ∀ y, (enc' y).length = m')
  (ht : cellK X.P t = some (true, m')) (hx : Env.ev E x = some (.pointer (some ⟨b, j, none⟩))) (m : pv b e (enc el) ∈ L) : OpQ X ⟨d, .load t x, ty, pos, af, gd⟩ E L (.agg (enc' (sub el)).toArray) :=
 qL (b := b) (o := j) ht hx (hl' _) (fun w hs _ _ hv => cell_pv m (hs'.get el hv) w hs)
theorem q_as {o : Oper} {cs cs' : List Value} (h : OpQ X o E L (.agg cs.toArray)) (e : cs = cs') : OpQ X o E L (.agg cs'.toArray) := e ▸ h
theorem q_is {o : Oper} {v v' : Value} (h : OpQ X o E L v) (e : v = v') : OpQ X o E L v' := e ▸ h
theorem OpL.callD {f : FuncId} {args : List Operand} {ats : Array TypeId} {vs : List Value} {pre : List HP} {Φ : Value → List HP → Prop} (hargs : Env.evs E args = some vs) (hg : Give L pre L' := by repeat (first | exact Give.nil | (apply Give.perI; (repeat (first | exact List.Mem.head _ | apply List.Mem.tail))) | (apply Give.own; (repeat (first | exact Pick.here | apply Pick.there))))) (h : Fn X.P f vs.toArray pre Φ) :
  OpL X ⟨d, .call ⟨.value (.func f), args.toArray, ats⟩, ty, pos, af, gd⟩ E L (fun v L'' => ∃ post, Φ v post ∧ L'' = post ++ L') := OpL.call hargs h hg
theorem OpL.callE {f : FuncId} {args : List Operand} {ats : Array TypeId} {vs : List Value} {pre : List HP} {Φ : Value → List HP → Prop} (hargs : Env.evs E args = some vs) (h : Fn X.P f vs.toArray pre Φ) (hg : Give L pre L' := by repeat (first | exact Give.nil | (apply Give.perI; (repeat (first | exact List.Mem.head _ | apply List.Mem.tail))) | (apply Give.own; (repeat (first | exact Pick.here | apply Pick.there))))) :
  OpL X ⟨d, .call ⟨.value (.func f), args.toArray, ats⟩, ty, pos, af, gd⟩ E L (fun v L'' => ∃ post, Φ v post ∧ L'' = post ++ L') := OpL.call hargs h hg
theorem OpL.callCG {x : Operand} {args : List Operand} {ats : Array TypeId} {f : FuncId} {first captured vs : List Value} {pre : List HP} {Φ : Value → List HP → Prop} (hx : Env.ev E x = some (.func (.func f) first.toArray captured.toArray)) (hargs : Env.evs E args = some vs)
  (hg : Give L pre L') (hfn : Fn X.P f (first ++ vs ++ captured).toArray pre Φ) :
  OpL X ⟨d, .call ⟨.value x, args.toArray, ats⟩, ty, pos, af, gd⟩ E L (fun v L'' => ∃ post, Φ v post ∧ L'' = post ++ L') := OpL.callC hx hargs hfn hg
theorem qD {t : TypeId} {x : Operand} {p : Addr} {v : Value} (ht : cellK X.P t = some (false, 1)) (hx : Env.ev E x = some (.pointer (some p))) (hc : ∀ w, St X.ρ L w → w.cell? p = some v := by first | (apply cell_pv; (repeat (first | exact List.Mem.head _ | apply List.Mem.tail)); rfl) | (apply cell_fv; (repeat (first | exact List.Mem.head _ | apply List.Mem.tail)); rfl) | (apply rowF_cellU; (repeat (first | exact List.Mem.head _ | apply List.Mem.tail)); assumption) | (apply itm_cell; (repeat (first | exact List.Mem.head _ | apply List.Mem.tail)); assumption; rfl)) :
  OpQ X ⟨d, .load t x, ty, pos, af, gd⟩ E L v := q_load1 ht hx hc
end
section
variable {X : Fx} {k : List Item} {E : Env} {L : List HP}
theorem K.know {s : Nat} {v : Value} (h : Env.get E s = some v) (hk : K X k ((s, v) :: E) L) : K X k E L := fun a w hka hs => hk a w (hka.bool_at h) hs
theorem kD {s : Nat} {x y : Code} {p : Prop} {dp : Decidable p} (hc : Env.get E s = some (.bool (@decide p dp))) (h1 : p → K X (.code x :: k) ((s, .bool true) :: E) L) (h2 : ¬ p → K X (.code y :: k) ((s, .bool false) :: E) L) : K X (.code (.cond (.tmp s) x y) :: k) E L :=
 K.dite (dp := dp) hc (fun h => K.know (by rw [hc, decide_eq_true h]) (h1 h)) (fun h => K.know (by rw [hc, decide_eq_false h]) (h2 h))
theorem kT {s : Nat} {x y : Code} {b : Bool} (hc : Env.get E s = some (.bool b)) (h1 : b = true → K X (.code x :: k) ((s, .bool true) :: E) L) (h2 : b = false → K X (.code y :: k) ((s, .bool false) :: E) L) : K X (.code (.cond (.tmp s) x y) :: k) E L :=
 K.ite hc (fun h => K.know (by rw [hc, h]) (h1 h)) (fun h => K.know (by rw [hc, h]) (h2 h))
end
inductive SubL : List HP → List HP → Prop where
 | none {L} : SubL L []
 | keep {A L M} : SubL L M → SubL (A :: L) (A :: M)
 | drop {A L M} : SubL L M → SubL (A :: L) M
theorem SubL.pers {A : HP} {L M : List HP} [Pers A] (p : SubL L M) : SubL (A :: L) (A :: M) := .keep p
theorem SubL.own {b : Nat} {e : TypeId} {cs : List Value} {L M : List HP} (p : SubL L M) : SubL (pv b e cs :: L) (pv b e cs :: M) := .keep p
theorem SubL.sep {L M : List HP} (p : SubL L M) : ∀ {g h}, sepAll L g h → sepAll M g h := by
 induction p with
 | none => exact fun _ => trivial
 | keep _ ih => rintro g h ⟨h1, h2, ap, l1, l2, ha, hl⟩; exact ⟨h1, h2, ap, l1, l2, ha, ih hl⟩
 | drop _ ih => rintro g h ⟨_, h2, _, _, l2, _, hl⟩; exact sepAll_mono (Hp.le_refl _) l2 (ih hl)
theorem SubL.st {ρ : World} {L M : List HP} {w : World} (p : SubL L M) (h : St ρ L w) : St ρ M w :=
 let ⟨g, k, a, b, c, d⟩ := h.body
 ⟨h.os, h.tape, h.output, g, k, a, b, c, p.sep d⟩
section
variable {X : Fx} {k : List Item} {E : Env} {L M Sc : List HP} {ops : Array Oper} {fuel : Nat} {early : List Nat} {listed : Array Bool}
theorem K.drawU {id : Nat} {l : List Oper} (_ : SubL L M) (hm : X.P.follows .mixedOrders = true) (h : D X l.toArray k M l.length [] (Array.replicate l.length false) E L) : K X (.code (.region id l.toArray true) :: k) E L := K.draw M hm h
theorem K.drawS {id : Nat} {l : List Oper} (Sc : List HP) (_ : ∀ w, St X.ρ L w → St X.ρ Sc w) (hm : X.P.follows .mixedOrders = true) (h : D X l.toArray k Sc l.length [] (Array.replicate l.length false) E L) : K X (.code (.region id l.toArray true) :: k) E L := K.draw Sc hm h
theorem D.gone (i : Nat) {d : Tmp} {op : Op} {ty : TypeId} {pos : String} {af : Array Edge} {gd : Option (Nat × Bool)} (ho : ops[i]? = some ⟨some d, op, ty, pos, af, gd⟩) (ht : takeOk ops listed i = true) (hok : goneOp X.N ops E ⟨some d, op, ty, pos, af, gd⟩ = true) (hsub : ∀ w, St X.ρ L w → St X.ρ Sc w)
  (h : D X ops k Sc fuel (i :: early) (listed.setIfInBounds i true) ((d, undef) :: E) L) : D X ops k Sc (fuel + 1) early listed E L := fun a w hk hs => by
 simp only [takeOk, Bool.and_eq_true] at ht
 exact wpAnyT_first ho (Region.noSelect_spec ht.1.1) (fun _ _ _ h => h) fuel early listed a w (Region.free_spec ho ht.1.2) (by simpa using ht.2)
  (.inr ⟨goneOp_wanted hk hok, rfl⟩) (hsub w hs) (h _ _ (hk.put (goneOp_dst hok) undef) hs)
end
theorem SetN.all : ∀ (pre zs cs : List Value), zs.length = cs.length → SetN (pre ++ zs) pre.length cs (pre ++ cs)
 | pre, [], [], _ => .nil
 | pre, z :: zs, c :: cs, h => by
  have key : ∀ (pre : List Value), SetAt (pre ++ z :: zs) pre.length c (pre ++ c :: zs) := fun pre => by
   induction pre with
   | nil => exact .here
   | cons a pre ih => exact .there ih
  have := SetN.all (pre ++ [c]) zs cs (by simpa using h)
  rw [List.append_assoc, List.append_assoc, List.length_append] at this
  exact .cons (key pre) this
 | _, [], _ :: _, h => by cases h
 | _, _ :: _, [], h => by cases h
section
variable {X : Fx} {E : Env} {L : List HP} {d : Option Tmp} {ty : TypeId} {pos : String} {af : Array Edge} {gd : Option (Nat × Bool)} {t : TypeId}
theorem lO {e sz : Nat} {x : Operand} {v : Value} {zeros cs : List Value} (ht : slZeros X.P t 1 = some (e, sz, zeros)) (hx : Env.ev E x = some v) (hc : v.cells = cs.toArray) (hl : (cs.length = sz ∧ zeros.length = sz ∧ cs.isEmpty = false)) :
  OpL X ⟨d, .buildSlice t 1 [(0, x)].toArray, ty, pos, af, gd⟩ E L (fun v' L' => ∃ b, v' = .slice (some ⟨b, 0, none⟩) 1 1 ∧ L' = pv b e cs :: L) := by
 obtain ⟨h1, h2, h3⟩ := hl
 cases cs with
 | nil => cases h3
 | cons u us => exact l_slice (vs := [(0, v)]) ht (by simp [Env.parts, hx]) (.cons (off := 0) (size := sz) (by simp) hc (by simpa using h1) (by simpa using SetN.all [] zeros (u :: us) (by rw [h1, h2])) .nil)
end
section
variable {X : Fx} {E : Env} {L L1 : List HP} {d : Option Tmp} {ty : TypeId} {pos : String} {af : Array Edge} {gd : Option (Nat × Bool)} {t : TypeId}
theorem lS {x y : Operand} {b n : Nat} {e : TypeId} {vs cs : List Value} (ht : cellK X.P t = some (true, n)) (hx : Env.ev E x = some (.pointer (some ⟨b, 0, none⟩))) (hy : Env.ev E y = some (.agg vs.toArray))
  (hn : vs.length = n ∧ cs.length = n) (h1 : ∀ v ∈ vs, v.oneCell' = true) (hp : Pick L (pv b e cs) L1) : OpL X ⟨d, .store t x y, ty, pos, af, gd⟩ E L (fun v' L' => v' = undef ∧ L' = pv b e vs :: L1) :=
 l_storeN ht hx hy hn.1 h1 hp (by simpa using SetN.all [] cs vs (by rw [hn.1, hn.2]))
end
theorem isP {α : Type} {sz : Nat} {enc : α → List Value} {hl : ∀ x, (enc x).length = sz} {h1 : ∀ x, ∀ v ∈ enc x, v.oneCell' = true} {b e : Nat} {x : α} : IsRow (pv b e (enc x)) (Kd.flat sz enc hl h1) (some ⟨b, 0, none⟩) [x] := fun g h ha => .inr ⟨b, 0, (enc x).toArray, e, (0, 0), rfl, .inr ha, fun i y hy => by
 cases i with
 | zero => simp at hy; subst hy; exact ⟨enc x, rfl, fun j v hv => by simpa using hv⟩
 | succ i => simp at hy⟩
theorem bbeq (a b : ByteArray) : (a == b) = decide (a = b) := by
 rw [beq_toListBytes]; exact sbeq_dec a b
inductive EqG (P : Program) (xs ys : List Value) : List Field → Bool → Prop where
 | nil : EqG P xs ys [] true
 | cons {f : Field} {fs : List Field} {a b : Value} {r s : Bool} (hn : (f.name == "_") = false) (hk : cellK P f.type = some (false, 1)) (ha : xs[f.offset]? = some a) (hb : ys[f.offset]? = some b) (hs : Sc P f.type a b r) (ht : EqG P xs ys fs s) : EqG P xs ys (f :: fs) (r && s)
 | sub {f : Field} {fs : List Field} {us vs : List Value} {n : Nat} {gs : Array Field} {r s : Bool} (hn : (f.name == "_") = false) (hk : cellK P f.type = some (true, n)) (ha : (xs.drop f.offset).take n = us) (hb : (ys.drop f.offset).take n = vs)
   (hu : P.underlying f.type = some (.struct gs)) (hp : P.stoodInHeld f.type = false) (hs : EqF P us vs gs.toList r) (ht : EqG P xs ys fs s) : EqG P xs ys (f :: fs) (r && s)
theorem run_partN {P : Program} {w : World} {t : TypeId} {cs us : List Value} {o n : Nat} (hk : cellK P t = some (true, n)) (hv : (cs.drop o).take n = us) : (part t cs.toArray o).run P w = .ok (.agg us.toArray) w := by
 simp [part, run_cellKN hk, run_sizeK hk, ← hv]
theorem EqG.run {P : Program} {xs ys : List Value} {fs : List Field} {r : Bool} (h : EqG P xs ys fs r) (d : Nat) (w : World) : (Op.eqFields (d + 3) xs.toArray ys.toArray fs).run P w = .ok r w := by
 induction h with
 | nil => simp [Op.eqFields]
 | cons hn hk ha hb hs ht ih =>
  rename_i f fs a b r s
  have hn' : f.name ≠ "_" := by simpa using hn
  rw [Op.eqFields]
  simp only [if_pos hn', Sem.run_bind, run_part1 hk ha, run_part1 hk hb, hs.run (d + 2) w, Result.andThen_ok]
  cases r
  ·simp
  ·simpa using ih
 | sub hn hk ha hb hu hp hs ht ih =>
  rename_i f fs us vs n gs r s
  have hn' : f.name ≠ "_" := by simpa using hn
  have hf : P.fieldsOf f.type = gs := by simp [Program.fieldsOf, hu]
  rw [Op.eqFields]
  simp only [if_pos hn', Sem.run_bind, run_partN hk ha, run_partN hk hb, Result.andThen_ok]
  rw [run_equalIn_struct (P := P) w (d + 2) f.type us.toArray vs.toArray (by rw [hf]; exact hu) hp, hf, hs.run (d + 1) w]
  cases r
  ·simp
  ·simpa using ih
section
variable {X : Fx} {E : Env} {L : List HP} {d : Option Tmp} {t u ty : TypeId} {x y : Operand} {pos : String} {af : Array Edge} {gd : Option (Nat × Bool)}
theorem run_recG {P : Program} {w : World} {xs ys : List Value} {fs : Array Field} {r : Bool} (ht : P.underlying t = some (.struct fs)) (hp : P.stoodInHeld t = false) (h : EqG P xs ys fs.toList r) : (Op.equalIn 10000 t (.agg xs.toArray) (.agg ys.toArray)).run P w = .ok r w := by
 have hf : P.fieldsOf t = fs := by simp [Program.fieldsOf, ht]
 rw [run_equalIn_struct (P := P) w 9999 t xs.toArray ys.toArray (by rw [hf]; exact ht) hp, hf]
 exact h.run 9996 w
theorem q_recEG {xs ys : List Value} {fs : Array Field} {r : Bool} (ht : X.P.underlying t = some (.struct fs)) (hp : X.P.stoodInHeld t = false) (hg : X.P.eqGuardType X.P.depth t = false) (hx : Env.ev E x = some (.agg xs.toArray)) (hy : Env.ev E y = some (.agg ys.toArray))
  (h : EqG X.P xs ys fs.toList r) : OpQ X ⟨d, .binOp .eql t x y u, ty, pos, af, gd⟩ E L (.bool r) := fun _ w hk _ => by
 simp only [execOp, hk.ev hx, hk.ev hy, Sem.run_bind, run_eqGuard_agg (P := X.P) w .eql t x y xs.toArray ys.toArray hg, Result.andThen_ok]
 simp [run_eql_struct (P := X.P) w t xs.toArray ys.toArray, run_recG (w := w) ht hp h]
theorem q_recNG {p : Prop} {dp : Decidable p} {xs ys : List Value} {fs : Array Field} (ht : X.P.underlying t = some (.struct fs)) (hp : X.P.stoodInHeld t = false) (hg : X.P.eqGuardType X.P.depth t = false) (hx : Env.ev E x = some (.agg xs.toArray)) (hy : Env.ev E y = some (.agg ys.toArray))
  (h : EqG X.P xs ys fs.toList (@decide p dp)) : OpQ X ⟨d, .binOp .neq t x y u, ty, pos, af, gd⟩ E L (.bool (decide (¬ p))) := fun _ w hk _ => by
 simp only [execOp, hk.ev hx, hk.ev hy, Sem.run_bind, run_eqGuard_agg (P := X.P) w .neq t x y xs.toArray ys.toArray hg, Result.andThen_ok]
 simp [run_neq_struct (P := X.P) w t xs.toArray ys.toArray, run_recG (w := w) ht hp h]
end
end Go.Proofs.YtkbhldicnamcdaaGreat.L
namespace Go.Proofs.YtkbhldicnamcdaaGreat.L
open Go Go.RowKit
theorem q_recEGs {X : Fx} {E : Env} {L : List HP} {d : Option Tmp} {t u ty : TypeId} {x y : Operand} {pos : String} {af : Array Edge} {gd : Option (Nat × Bool)} {α : Type} [DecidableEq α] {a b : α} {xs ys : List Value} {fs : Array Field} (ht : X.P.underlying t = some (.struct fs)) (hp : X.P.stoodInHeld t = false) (hg : X.P.eqGuardType X.P.depth t = false)
  (hx : Env.ev E x = some (.agg xs.toArray)) (hy : Env.ev E y = some (.agg ys.toArray)) (h : EqG X.P xs ys fs.toList (decide (a = b))) : OpQ X ⟨d, .binOp .eql t x y u, ty, pos, af, gd⟩ E L (.bool (decide (b = a))) := by
 rw [show decide (b = a) = decide (a = b) from decide_eq_decide.2 eq_comm]
 exact q_recEG ht hp hg hx hy h
theorem kX {X : Fx} {k : List Item} {E : Env} {L : List HP} {c : Code} {ι : Type} (I : ι → Env) (J : ι → List HP) (μ : ι → Nat) (i : ι) (hE : Env.sub E (I i)) (hL : ∀ w, St X.ρ L w → St X.ρ (J i) w)
  (round : ∀ i, (∀ j, μ j < μ i → K X (.inLoop c :: k) (I j) (J j)) → K X (.code c :: .inLoop c :: k) (I i) (J i)) : K X (.code (.loop c) :: k) E L :=
 K.rounds (fun i => (I i, J i)) μ i hE hL round
end Go.Proofs.YtkbhldicnamcdaaGreat.L
namespace Go.Proofs.YtkbhldicnamcdaaGreat.L
open Go Go.RowKit
theorem tM {p : Prop} (h : p := by repeat (first | exact List.Mem.head _ | apply List.Mem.tail)) : p := h
theorem tP {p : Prop} (h : p := by repeat (first | exact Pick.here | apply Pick.there)) : p := h
theorem tN {p : Prop} (h : p := by first | omega | (simp; omega)) : p := h
theorem tS {p : Prop} (h : p := by repeat (first | exact Env.sub_nil _ | refine eC rfl ?_)) : p := h
theorem tK {p : Prop} (h : p := by kernel_rfl) : p := h
theorem tF {p : Prop} (h : p := by repeat (first | exact Fill.nil | (apply Fill.cons; rfl; rfl; rfl) | exact SetN.nil | apply SetN.cons | exact SetAt.here | apply SetAt.there)) : p := h
theorem tC {p : Prop} (h : p := by first | (apply cP; (repeat (first | exact List.Mem.head _ | apply List.Mem.tail))) | (apply cells_fv; (repeat (first | exact List.Mem.head _ | apply List.Mem.tail)))) : p := h
theorem tE {p : Prop} (h : p := by first | assumption | exact List.getElem?_eq_getElem (by first | assumption | omega | (simp; omega))) : p := h
theorem tO {p : Prop} (h : p := by omega) : p := h
theorem tD {p : Prop} (h : p := by decide) : p := h
theorem tL {p : Prop} (h : p := by first | assumption | omega | exact (List.getElem?_eq_some_iff.1 (by assumption)).1 | (simp; omega)) : p := h
theorem tA {p : Prop} (h : p := by repeat (first | exact SetAt.here | apply SetAt.there)) : p := h
theorem tG {p : Prop} (h : p := by repeat (first | exact Give.nil | (apply Give.perI; (repeat (first | exact List.Mem.head _ | apply List.Mem.tail))) | (apply Give.own; (repeat (first | exact Pick.here | apply Pick.there))))) : p := h
theorem tSN {p : Prop} (h : p := by repeat (first | exact SetN.nil | apply SetN.cons | exact SetAt.here | apply SetAt.there)) : p := h
theorem tR {p : Prop} (h : p := by rintro _ _ ⟨rfl, rfl⟩ w h; exact h.subD) : p := h
theorem tR2 {p : Prop} (h : p := by rintro _ _ ⟨_, ⟨rfl, rfl⟩, rfl⟩ w h; exact h.subD) : p := h
theorem tR3 {p : Prop} (h : p := by rintro _ _ ⟨_, rfl, rfl⟩ w h; exact h.subD) : p := h
theorem tR4 {p : Prop} (h : p := by rintro _ _ ⟨_, _, rfl, rfl⟩ w h; exact h.subD) : p := h
theorem tR5 {p : Prop} (h : p := by rintro _ _ ⟨_, ⟨_, _, rfl, rfl, _⟩, rfl⟩ w h; exact h.subD) : p := h
section
variable {X : Fx} {k : List Item} {E : Env} {L Sc : List HP} {ops : Array Oper} {l : List Oper} {fuel : Nat} {early : List Nat} {listed : Array Bool} {N : Nat}
theorem dq {v : Value} (i : Nat) {d : Tmp} {op : Op} {ty : TypeId} {pos : String} {af : Array Edge} {gd : Option (Nat × Bool)} (ho : ops[i]? = some ⟨some d, op, ty, pos, af, gd⟩) (hq : OpQ X ⟨some d, op, ty, pos, af, gd⟩ E Sc v)
  (h : D X ops k Sc fuel (i :: early) (listed.setIfInBounds i true) ((d, v) :: E) L) (ht : takeOk ops listed i = true := by kernel_rfl) (hok : okOp X.N ops E ⟨some d, op, ty, pos, af, gd⟩ true = true := by kernel_rfl) (hsub : ∀ w, St X.ρ L w → St X.ρ Sc w := by exact fun _ h => h.subD) : D X ops k Sc (fuel + 1) early listed E L :=
 D.q i ho ht hok hq hsub h
theorem dk (i : Nat) {d : Tmp} {op : Op} {ty : TypeId} {pos : String} {af : Array Edge} {gd : Option (Nat × Bool)} (ho : ops[i]? = some ⟨some d, op, ty, pos, af, gd⟩)
  (h : D X ops k Sc fuel (i :: early) (listed.setIfInBounds i true) ((d, undef) :: E) L) (ht : takeOk ops listed i = true := by kernel_rfl) (hok : okOp X.N ops E ⟨some d, op, ty, pos, af, gd⟩ false = true := by kernel_rfl) (hsub : ∀ w, St X.ρ L w → St X.ρ Sc w := by exact fun _ h => h.subD) : D X ops k Sc (fuel + 1) early listed E L := D.skip i ho ht hok hsub h
theorem dg (i : Nat) {d : Tmp} {op : Op} {ty : TypeId} {pos : String} {af : Array Edge} {gd : Option (Nat × Bool)} (ho : ops[i]? = some ⟨some d, op, ty, pos, af, gd⟩)
  (h : D X ops k Sc fuel (i :: early) (listed.setIfInBounds i true) ((d, undef) :: E) L) (ht : takeOk ops listed i = true := by kernel_rfl) (hok : goneOp X.N ops E ⟨some d, op, ty, pos, af, gd⟩ = true := by kernel_rfl) (hsub : ∀ w, St X.ρ L w → St X.ρ Sc w := by exact fun _ h => h.subD) : D X ops k Sc (fuel + 1) early listed E L := D.gone i ho ht hok hsub h
theorem dq1 {Φ : Value → List HP → Prop} (i : Nat) {early' : List Nat} {d : Tmp} {op : Op} {ty : TypeId} {pos : String} {af : Array Edge} {gd : Option (Nat × Bool)} (ho : ops[i]? = some ⟨some d, op, ty, pos, af, gd⟩) (hl : OpL X ⟨some d, op, ty, pos, af, gd⟩ E L Φ)
  (hp : (early.all fun j => waitsFor .any ops i j) = true ∨ ∀ v L', Φ v L' → ∀ w, St X.ρ L' w → St X.ρ Sc w)
  (h : ∀ v L', Φ v L' → D X ops k Sc fuel early' (listed.setIfInBounds i true) ((d, v) :: E) L') (hr : Region.ready .any ops listed = [i] := by kernel_rfl) (hok : okOp X.N ops E ⟨some d, op, ty, pos, af, gd⟩ true = true := by kernel_rfl) (he : (early.filter fun j => !waitsFor .any ops i j) = early' := by rfl) : D X ops k Sc (fuel + 1) early listed E L :=
 D.all hr rfl (DAll.cons ho hok hl hp he h DAll.nil)
theorem dq1N {Φ : Value → List HP → Prop} (i : Nat) {early' : List Nat} {op : Op} {ty : TypeId} {pos : String} {af : Array Edge} {gd : Option (Nat × Bool)} (ho : ops[i]? = some ⟨none, op, ty, pos, af, gd⟩) (hl : OpL X ⟨none, op, ty, pos, af, gd⟩ E L Φ)
  (hp : (early.all fun j => waitsFor .any ops i j) = true ∨ ∀ v L', Φ v L' → ∀ w, St X.ρ L' w → St X.ρ Sc w)
  (h : ∀ v L', Φ v L' → D X ops k Sc fuel early' (listed.setIfInBounds i true) E L') (hr : Region.ready .any ops listed = [i] := by kernel_rfl) (hok : okOp X.N ops E ⟨none, op, ty, pos, af, gd⟩ true = true := by kernel_rfl) (he : (early.filter fun j => !waitsFor .any ops i j) = early' := by rfl) : D X ops k Sc (fuel + 1) early listed E L :=
 D.all hr rfl (DAll.consN ho hok hl hp he h DAll.nil)
theorem kr0 {fn : Func} (hf : X.P.funcs[X.f]? = some fn) (h : fn.results = #[]) (hR : ∀ w, St X.ρ L w → X.R (.returned (.tuple #[])) w) : K X (.code .ret :: k) E L := K.ret hf (fun _ _ _ _ => res0 h) hR
theorem kr1 {fn : Func} {t : Nat} {v : Value} (hf : X.P.funcs[X.f]? = some fn) (h : fn.results = #[.tmp t]) (h1 : Env.get E t = some v) (hR : ∀ w, St X.ρ L w → X.R (.returned v) w) : K X (.code .ret :: k) E L := K.ret hf (fun _ _ hk _ => res1 h hk h1) hR
theorem kr2 {fn : Func} {t u : Nat} {v x : Value} (hf : X.P.funcs[X.f]? = some fn) (h : fn.results = #[.tmp t, .tmp u]) (h1 : Env.get E t = some v) (h2 : Env.get E u = some x) (hR : ∀ w, St X.ρ L w → X.R (.returned (.tuple #[v, x])) w) : K X (.code .ret :: k) E L := K.ret hf (fun _ _ hk _ => res2 h hk h1 h2) hR
theorem kr3 {fn : Func} {t u s : Nat} {v x y : Value} (hf : X.P.funcs[X.f]? = some fn) (h : fn.results = #[.tmp t, .tmp u, .tmp s]) (h1 : Env.get E t = some v) (h2 : Env.get E u = some x) (h3 : Env.get E s = some y) (hR : ∀ w, St X.ρ L w → X.R (.returned (.tuple #[v, x, y])) w) : K X (.code .ret :: k) E L := K.ret hf (fun _ _ hk _ => res3 h hk h1 h2 h3) hR
end
section
variable {X : Fx} {k : List Item} {E : Env} {L L' : List HP} {ops : Array Oper} {l : List Oper} {d : Tmp} {op : Op} {ty : TypeId} {pos : String} {af : Array Edge} {gd : Option (Nat × Bool)}
theorem kq {v : Value} (hq : OpQ X ⟨some d, op, ty, pos, af, gd⟩ E L v) (h : KO X ops l k ((d, v) :: E) L) (hok : okOp X.N ops E ⟨some d, op, ty, pos, af, gd⟩ true = true := by exact rfl) : KO X ops (⟨some d, op, ty, pos, af, gd⟩ :: l) k E L := KO.q hok hq h
theorem km {x : Operand} {v : Value} (hx : Env.ev E x = some v) (h : KO X ops l k ((d, v) :: E) L) (hok : okOp X.N ops E ⟨some d, .move x, ty, pos, af, gd⟩ true = true := by exact rfl) : KO X ops (⟨some d, .move x, ty, pos, af, gd⟩ :: l) k E L := KO.q hok (q_move hx) h
theorem ka {x : Operand} {v : Value} (hx : Env.ev E x = some v) (h : KO X ops l k ((d, v) :: E) L) (hok : okOp X.N ops E ⟨some d, .assign x, ty, pos, af, gd⟩ true = true := by exact rfl) : KO X ops (⟨some d, .assign x, ty, pos, af, gd⟩ :: l) k E L := KO.q hok (q_assign hx) h
theorem zq (h : KO X ops l k ((d, undef) :: E) L) (hok : okOp X.N ops E ⟨some d, op, ty, pos, af, gd⟩ false = true := by exact rfl) : KO X ops (⟨some d, op, ty, pos, af, gd⟩ :: l) k E L := KO.skip hok h
theorem kl {Φ : Value → List HP → Prop} (hl : OpL X ⟨some d, op, ty, pos, af, gd⟩ E L Φ) (h : ∀ v L', Φ v L' → KO X ops l k ((d, v) :: E) L') (hok : okOp X.N ops E ⟨some d, op, ty, pos, af, gd⟩ true = true := by exact rfl) : KO X ops (⟨some d, op, ty, pos, af, gd⟩ :: l) k E L := KO.loud hok hl h
theorem zm (h : K X k E L) : KO X ops [] k E L := h
theorem kr {id : Nat} (h : KO X l.toArray l k E L) : K X (.code (.region id l.toArray false) :: k) E L := K.region h
theorem ke {x y : Code} (h : K X (.code x :: .code y :: k) E L) : K X (.code (.seq x y) :: k) E L := K.seq h
theorem ky {id : Nat} {y : Code} (h : KO X l.toArray l (.code y :: k) E L) : K X (.code (.seq (.region id l.toArray false) y) :: k) E L := K.seq (K.region h)
theorem kz {o2 : Array Oper} {id : Nat} {y : Code} (h : KO X l.toArray l (.code y :: k) E L) : KO X o2 [] (.code (.seq (.region id l.toArray false) y) :: k) E L := K.seq (K.region h)
theorem kc {d : Option Tmp} {f : FuncId} {args : List Operand} {ats : Array TypeId} {vs : List Value} {pre : List HP} {Φ : Value → List HP → Prop} (hargs : Env.evs E args = some vs) (hg : Give L pre L' := by repeat (first | exact Give.nil | (apply Give.perI; (repeat (first | exact List.Mem.head _ | apply List.Mem.tail))) | (apply Give.own; (repeat (first | exact Pick.here | apply Pick.there))))) (h : Fn X.P f vs.toArray pre Φ) :
  OpL X ⟨d, .call ⟨.value (.func f), args.toArray, ats⟩, ty, pos, af, gd⟩ E L (fun v L'' => ∃ post, Φ v post ∧ L'' = post ++ L') := OpL.call hargs h hg
theorem za (h : K X k E L) : K X (.code .skip :: k) E L := K.skip h
theorem kB {id : Nat} {c : Code} (h : K X (.code c :: .inBlock id :: k) E L) : K X (.code (.block id c) :: k) E L := K.block h
theorem kL {n : Nat} (h : K X k E L) : K X (.code (.label n) :: k) E L := K.label h
theorem zd {id : Nat} (h : K X k E L) : K X (.inBlock id :: k) E L := K.inBlock h
end
end Go.Proofs.YtkbhldicnamcdaaGreat.L
namespace Go.Proofs.YtkbhldicnamcdaaGreat.L
open Go Go.Proofs
theorem fo_47_0 : fieldOff Tryz.prog 47 0 = some 0 := by kernel_rfl
theorem fo_47_1 : fieldOff Tryz.prog 47 1 = some 1 := by kernel_rfl
theorem fo_56_0 : fieldOff Tryz.prog 56 0 = some 0 := by kernel_rfl
theorem fo_56_1 : fieldOff Tryz.prog 56 1 = some 1 := by kernel_rfl
theorem fo_56_2 : fieldOff Tryz.prog 56 2 = some 2 := by kernel_rfl
theorem fo_56_3 : fieldOff Tryz.prog 56 3 = some 3 := by kernel_rfl
theorem fo_56_4 : fieldOff Tryz.prog 56 4 = some 4 := by kernel_rfl
theorem fo_56_5 : fieldOff Tryz.prog 56 5 = some 5 := by kernel_rfl
theorem fo_58_0 : fieldOff Tryz.prog 58 0 = some 0 := by kernel_rfl
theorem fo_58_1 : fieldOff Tryz.prog 58 1 = some 1 := by kernel_rfl
theorem fo_58_2 : fieldOff Tryz.prog 58 2 = some 2 := by kernel_rfl
theorem fo_58_3 : fieldOff Tryz.prog 58 3 = some 3 := by kernel_rfl
theorem fo_58_4 : fieldOff Tryz.prog 58 4 = some 4 := by kernel_rfl
theorem fo_58_5 : fieldOff Tryz.prog 58 5 = some 5 := by kernel_rfl
theorem fo_58_6 : fieldOff Tryz.prog 58 6 = some 6 := by kernel_rfl
theorem fo_58_7 : fieldOff Tryz.prog 58 7 = some 7 := by kernel_rfl
theorem fo_62_0 : fieldOff Tryz.prog 62 0 = some 0 := by kernel_rfl
theorem fo_62_1 : fieldOff Tryz.prog 62 1 = some 1 := by kernel_rfl
theorem fo_62_2 : fieldOff Tryz.prog 62 2 = some 2 := by kernel_rfl
theorem fo_62_3 : fieldOff Tryz.prog 62 3 = some 3 := by kernel_rfl
theorem fo_62_4 : fieldOff Tryz.prog 62 4 = some 4 := by kernel_rfl
theorem fo_62_5 : fieldOff Tryz.prog 62 5 = some 5 := by kernel_rfl
theorem fo_83_0 : fieldOff Tryz.prog 83 0 = some 0 := by kernel_rfl
theorem fo_83_1 : fieldOff Tryz.prog 83 1 = some 1 := by kernel_rfl
theorem fo_83_2 : fieldOff Tryz.prog 83 2 = some 2 := by kernel_rfl
theorem fo_83_3 : fieldOff Tryz.prog 83 3 = some 3 := by kernel_rfl
theorem fo_83_4 : fieldOff Tryz.prog 83 4 = some 4 := by kernel_rfl
theorem fo_83_5 : fieldOff Tryz.prog 83 5 = some 5 := by kernel_rfl
theorem fo_92_0 : fieldOff Tryz.prog 92 0 = some 0 := by kernel_rfl
theorem fo_92_1 : fieldOff Tryz.prog 92 1 = some 1 := by kernel_rfl
theorem fo_97_0 : fieldOff Tryz.prog 97 0 = some 0 := by kernel_rfl
theorem fo_97_1 : fieldOff Tryz.prog 97 1 = some 1 := by kernel_rfl
theorem fo_97_2 : fieldOff Tryz.prog 97 2 = some 2 := by kernel_rfl
theorem fo_97_3 : fieldOff Tryz.prog 97 3 = some 4 := by kernel_rfl
theorem fo_97_4 : fieldOff Tryz.prog 97 4 = some 5 := by kernel_rfl
theorem fo_136_0 : fieldOff Tryz.prog 136 0 = some 0 := by kernel_rfl
theorem fo_136_1 : fieldOff Tryz.prog 136 1 = some 1 := by kernel_rfl
theorem fo_150_0 : fieldOff Tryz.prog 150 0 = some 0 := by kernel_rfl
theorem fo_173_0 : fieldOff Tryz.prog 173 0 = some 0 := by kernel_rfl
theorem fo_173_1 : fieldOff Tryz.prog 173 1 = some 1 := by kernel_rfl
theorem fo_178_0 : fieldOff Tryz.prog 178 0 = some 0 := by kernel_rfl
theorem fo_178_2 : fieldOff Tryz.prog 178 2 = some 2 := by kernel_rfl
theorem fo_178_3 : fieldOff Tryz.prog 178 3 = some 3 := by kernel_rfl
theorem fo_178_4 : fieldOff Tryz.prog 178 4 = some 4 := by kernel_rfl
theorem fo_178_5 : fieldOff Tryz.prog 178 5 = some 5 := by kernel_rfl
theorem fo_178_6 : fieldOff Tryz.prog 178 6 = some 6 := by kernel_rfl
theorem fo_207_0 : fieldOff Tryz.prog 207 0 = some 0 := by kernel_rfl
theorem fo_207_1 : fieldOff Tryz.prog 207 1 = some 1 := by kernel_rfl
theorem ck_3 : cellK Tryz.prog 3 = some (false, 1) := by kernel_rfl
theorem ck_4 : cellK Tryz.prog 4 = some (false, 1) := by kernel_rfl
theorem ck_5 : cellK Tryz.prog 5 = some (false, 1) := by kernel_rfl
theorem ck_9 : cellK Tryz.prog 9 = some (false, 1) := by kernel_rfl
theorem ck_23 : cellK Tryz.prog 23 = some (false, 1) := by kernel_rfl
theorem ck_25 : cellK Tryz.prog 25 = some (false, 1) := by kernel_rfl
theorem ck_45 : cellK Tryz.prog 45 = some (false, 1) := by kernel_rfl
theorem ck_47 : cellK Tryz.prog 47 = some (true, 2) := by kernel_rfl
theorem ck_56 : cellK Tryz.prog 56 = some (true, 6) := by kernel_rfl
theorem ck_58 : cellK Tryz.prog 58 = some (true, 13) := by kernel_rfl
theorem ck_59 : cellK Tryz.prog 59 = some (false, 1) := by kernel_rfl
theorem ck_60 : cellK Tryz.prog 60 = some (false, 1) := by kernel_rfl
theorem ck_62 : cellK Tryz.prog 62 = some (true, 6) := by kernel_rfl
theorem ck_64 : cellK Tryz.prog 64 = some (false, 1) := by kernel_rfl
theorem ck_80 : cellK Tryz.prog 80 = some (false, 1) := by kernel_rfl
theorem ck_81 : cellK Tryz.prog 81 = some (false, 1) := by kernel_rfl
theorem ck_92 : cellK Tryz.prog 92 = some (true, 2) := by kernel_rfl
theorem ck_95 : cellK Tryz.prog 95 = some (false, 1) := by kernel_rfl
theorem ck_136 : cellK Tryz.prog 136 = some (true, 2) := by kernel_rfl
theorem ck_165 : cellK Tryz.prog 165 = some (false, 1) := by kernel_rfl
theorem ck_169 : cellK Tryz.prog 169 = some (false, 1) := by kernel_rfl
theorem ck_170 : cellK Tryz.prog 170 = some (false, 1) := by kernel_rfl
theorem se_22 : slElem Tryz.prog 22 = some (3, 1, 8) := by kernel_rfl
theorem se_23 : slElem Tryz.prog 23 = some (5, 1, 1) := by kernel_rfl
theorem ze_5 : zeroOf Tryz.prog 5 = some [(.int .u8 0)] := by kernel_rfl
theorem se_45 : slElem Tryz.prog 45 = some (62, 6, 104) := by kernel_rfl
theorem ze_62 : zeroOf Tryz.prog 62 = some [(.string ⟨#[]⟩), (.int .i64 0), (.int .i64 0), (.slice none 0 0), (.slice none 0 0), (.slice none 0 0)] := by kernel_rfl
theorem se_59 : slElem Tryz.prog 59 = some (136, 2, 32) := by kernel_rfl
theorem ze_136 : zeroOf Tryz.prog 136 = some [(.string ⟨#[]⟩), (.string ⟨#[]⟩)] := by kernel_rfl
theorem se_60 : slElem Tryz.prog 60 = some (56, 6, 64) := by kernel_rfl
theorem ze_56 : zeroOf Tryz.prog 56 = some [(.int .i64 0), (.int .i64 0), (.int .i64 0), (.bool false), (.string ⟨#[]⟩), (.string ⟨#[]⟩)] := by kernel_rfl
theorem se_64 : slElem Tryz.prog 64 = some (58, 13, 144) := by kernel_rfl
theorem ze_58 : zeroOf Tryz.prog 58 = some [(.int .i64 0), (.string ⟨#[]⟩), (.string ⟨#[]⟩), (.string ⟨#[]⟩), (.int .i64 0), (.int .i64 0), (.bool false), (.int .i64 0), (.int .i64 0), (.int .i64 0), (.bool false), (.string ⟨#[]⟩), (.string ⟨#[]⟩)] := by kernel_rfl
theorem se_67 : slElem Tryz.prog 67 = some (4, 1, 1) := by kernel_rfl
theorem se_75 : slElem Tryz.prog 75 = some (64, 1, 24) := by kernel_rfl
theorem se_80 : slElem Tryz.prog 80 = some (23, 1, 24) := by kernel_rfl
theorem se_81 : slElem Tryz.prog 81 = some (92, 2, 32) := by kernel_rfl
theorem se_188 : slElem Tryz.prog 188 = some (60, 1, 24) := by kernel_rfl
theorem zo_47 : zeroOf Tryz.prog 47 = some [(.int .i64 0), (.slice none 0 0)] := by kernel_rfl
theorem zo_56 : zeroOf Tryz.prog 56 = some [(.int .i64 0), (.int .i64 0), (.int .i64 0), (.bool false), (.string ⟨#[]⟩), (.string ⟨#[]⟩)] := by kernel_rfl
theorem zo_58 : zeroOf Tryz.prog 58 = some [(.int .i64 0), (.string ⟨#[]⟩), (.string ⟨#[]⟩), (.string ⟨#[]⟩), (.int .i64 0), (.int .i64 0), (.bool false), (.int .i64 0), (.int .i64 0), (.int .i64 0), (.bool false), (.string ⟨#[]⟩), (.string ⟨#[]⟩)] := by kernel_rfl
theorem zo_60 : zeroOf Tryz.prog 60 = some [(.slice none 0 0)] := by kernel_rfl
theorem zo_62 : zeroOf Tryz.prog 62 = some [(.string ⟨#[]⟩), (.int .i64 0), (.int .i64 0), (.slice none 0 0), (.slice none 0 0), (.slice none 0 0)] := by kernel_rfl
theorem zo_92 : zeroOf Tryz.prog 92 = some [(.int .i64 0), (.slice none 0 0)] := by kernel_rfl
theorem zo_136 : zeroOf Tryz.prog 136 = some [(.string ⟨#[]⟩), (.string ⟨#[]⟩)] := by kernel_rfl
theorem zo_165 : zeroOf Tryz.prog 165 = some [.nilFunc] := by kernel_rfl
theorem zo_169 : zeroOf Tryz.prog 169 = some [(.pointer none)] := by kernel_rfl
theorem st_47 : structTab Tryz.prog 47 = some ([(0, 1), (1, 1)], [(.int .i64 0), (.slice none 0 0)]) := by kernel_rfl
theorem st_56 : structTab Tryz.prog 56 = some ([(0, 1), (1, 1), (2, 1), (3, 1), (4, 1), (5, 1)], [(.int .i64 0), (.int .i64 0), (.int .i64 0), (.bool false), (.string ⟨#[]⟩), (.string ⟨#[]⟩)]) := by kernel_rfl
theorem st_58 : structTab Tryz.prog 58 = some ([(0, 1), (1, 1), (2, 1), (3, 1), (4, 1), (5, 1), (6, 1), (7, 6)], [(.int .i64 0), (.string ⟨#[]⟩), (.string ⟨#[]⟩), (.string ⟨#[]⟩), (.int .i64 0), (.int .i64 0), (.bool false), (.int .i64 0), (.int .i64 0), (.int .i64 0), (.bool false), (.string ⟨#[]⟩), (.string ⟨#[]⟩)]) := by kernel_rfl
theorem st_62 : structTab Tryz.prog 62 = some ([(0, 1), (1, 1), (2, 1), (3, 1), (4, 1), (5, 1)], [(.string ⟨#[]⟩), (.int .i64 0), (.int .i64 0), (.slice none 0 0), (.slice none 0 0), (.slice none 0 0)]) := by kernel_rfl
theorem st_83 : structTab Tryz.prog 83 = some ([(0, 1), (1, 1), (2, 1), (3, 1), (4, 1), (5, 1)], [(.slice none 0 0), (.slice none 0 0), (.slice none 0 0), (.int .i64 0), (.bool false), (.int .i64 0)]) := by kernel_rfl
theorem st_92 : structTab Tryz.prog 92 = some ([(0, 1), (1, 1)], [(.int .i64 0), (.slice none 0 0)]) := by kernel_rfl
theorem st_97 : structTab Tryz.prog 97 = some ([(0, 1), (1, 1), (2, 2), (4, 1), (5, 1)], [(.pointer none), (.pointer none), (.int .i64 0), (.slice none 0 0), (.int .i64 0), (.bool false)]) := by kernel_rfl
theorem st_136 : structTab Tryz.prog 136 = some ([(0, 1), (1, 1)], [(.string ⟨#[]⟩), (.string ⟨#[]⟩)]) := by kernel_rfl
theorem st_150 : structTab Tryz.prog 150 = some ([(0, 1)], [(.slice none 0 0)]) := by kernel_rfl
theorem st_173 : structTab Tryz.prog 173 = some ([(0, 1), (1, 1)], [(.pointer none), (.bool false)]) := by kernel_rfl
theorem st_178 : structTab Tryz.prog 178 = some ([(0, 1), (1, 1), (2, 1), (3, 1), (4, 1), (5, 1), (6, 1)], [(.pointer none), (.int .i64 0), (.int .i64 0), (.int .i64 0), (.int .i64 0), (.slice none 0 0), (.bool false)]) := by kernel_rfl
theorem st_207 : structTab Tryz.prog 207 = some ([(0, 1), (1, 1)], [(.slice none 0 0), (.bool false)]) := by kernel_rfl
theorem sz_22_2 : slZeros Tryz.prog 22 2 = some (3, 1, [(.int .i64 0), (.int .i64 0)]) := by kernel_rfl
theorem sz_23_1 : slZeros Tryz.prog 23 1 = some (5, 1, [(.int .u8 0)]) := by kernel_rfl
theorem sz_45_1 : slZeros Tryz.prog 45 1 = some (62, 6, [(.string ⟨#[]⟩), (.int .i64 0), (.int .i64 0), (.slice none 0 0), (.slice none 0 0), (.slice none 0 0)]) := by kernel_rfl
theorem sz_59_1 : slZeros Tryz.prog 59 1 = some (136, 2, [(.string ⟨#[]⟩), (.string ⟨#[]⟩)]) := by kernel_rfl
theorem sz_60_1 : slZeros Tryz.prog 60 1 = some (56, 6, [(.int .i64 0), (.int .i64 0), (.int .i64 0), (.bool false), (.string ⟨#[]⟩), (.string ⟨#[]⟩)]) := by kernel_rfl
theorem sz_64_1 : slZeros Tryz.prog 64 1 = some (58, 13, [(.int .i64 0), (.string ⟨#[]⟩), (.string ⟨#[]⟩), (.string ⟨#[]⟩), (.int .i64 0), (.int .i64 0), (.bool false), (.int .i64 0), (.int .i64 0), (.int .i64 0), (.bool false), (.string ⟨#[]⟩), (.string ⟨#[]⟩)]) := by kernel_rfl
theorem sz_80_1 : slZeros Tryz.prog 80 1 = some (23, 1, [(.slice none 0 0)]) := by kernel_rfl
theorem sz_81_1 : slZeros Tryz.prog 81 1 = some (92, 2, [(.int .i64 0), (.slice none 0 0)]) := by kernel_rfl
theorem sz_188_2 : slZeros Tryz.prog 188 2 = some (60, 1, [(.slice none 0 0), (.slice none 0 0)]) := by kernel_rfl
theorem mixed : Tryz.prog.follows .mixedOrders = true := by kernel_rfl
end Go.Proofs.YtkbhldicnamcdaaGreat.L
namespace Go.Proofs.YtkbhldicnamcdaaGreat.L
open Go
def byteAt (n : Int) (i : Nat) : UInt8 := UInt8.ofNat ((n / 2 ^ (8 * i)) % 256).toNat
def leb (n : Int) (k : Nat) : List UInt8 := (List.range k).map (byteAt n)
theorem leb_length (n : Int) (k : Nat) : (leb n k).length = k := by simp [leb]
theorem leb_succ (n : Int) (k : Nat) : leb n (k + 1) = leb n k ++ [byteAt n k] := by simp [leb, List.range_succ]
theorem byteAt_toNat (n : Int) (i : Nat) : ((byteAt n i).toNat : Int) = (n / 2 ^ (8 * i)) % 256 := by
 unfold byteAt
 have h0 : 0 ≤ (n / 2 ^ (8 * i)) % 256 := Int.emod_nonneg _ tD
 have h1 : (n / 2 ^ (8 * i)) % 256 < 256 := Int.emod_lt_of_pos _ tD
 rw [UInt8.toNat_ofNat']
 omega
theorem wrap_u8_mod (n : Int) : IntKind.u8.wrap n = n % 256 := by
 unfold IntKind.wrap
 simp [IntKind.bits, IntKind.signed]
theorem byte_wrap (n : Int) (i : Nat) (hi : i ≤ 8) (_h : 0 ≤ n) : IntKind.u8.wrap (n.fdiv (2 ^ (min (8 * (i : Int)).toNat 64))) = ((byteAt n i).toNat : Int) := by
 rw [byteAt_toNat, wrap_u8_mod]
 have e : min (8 * (i : Int)).toNat 64 = 8 * i := by omega
 rw [e]
 have hp : (0 : Int) ≤ 2 ^ (8 * i) := Int.le_of_lt (Int.pow_pos tD)
 rw [Int.fdiv_eq_ediv_of_nonneg _ hp]
theorem wrap_u64_mod (n : Int) : IntKind.u64.wrap n = n % 18446744073709551616 := by
 unfold IntKind.wrap
 simp [IntKind.bits, IntKind.signed]
def u64 (n : Int) : Int := n % 18446744073709551616
def i64 (n : Int) : Int := (n + 9223372036854775808) % 18446744073709551616 - 9223372036854775808
def wInt (n : Int) : List UInt8 := leb (u64 n) 8
def wText (s : ByteArray) : List UInt8 := leb ((min s.size 65535 : Nat) : Int) 2 ++ (bytesOf s).take 65535
def wFlag (b : Bool) : List UInt8 := [if b then 1 else 0]
structure Rd where
 bs : List UInt8
 f : Bool
def Rd.take (s : Rd) (n : Nat) : Option (List UInt8) × Rd :=
 if s.f then (none, s) else if s.bs.length < n then (none, ⟨[], true⟩) else (some (s.bs.take n), ⟨s.bs.drop n, false⟩)
def ofLe : List UInt8 → Int
 | [] => 0
 | b :: l => b.toNat + 256 * ofLe l
def Rd.num (s : Rd) (n : Nat) : Int × Rd := match s.take n with | (none, s') => (0, s') | (some l, s') => (ofLe l, s')
def Rd.int (s : Rd) : Int × Rd := (i64 (s.num 8).1, (s.num 8).2)
def Rd.text (s : Rd) : ByteArray × Rd := match (s.num 2).2.take (s.num 2).1.toNat with | (none, s') => (⟨#[]⟩, s') | (some l, s') => (⟨l.toArray⟩, s')
def Rd.flag (s : Rd) : Bool × Rd := match s.take 1 with
 | (some [b], s') => if 1 < b.toNat then (false, ⟨[], true⟩) else (b.toNat == 1, s')
 | (_, s') => (false, s')
def Rd.done (s : Rd) : Bool := !s.f && s.bs.isEmpty
theorem ofLe_nonneg (l : List UInt8) : 0 ≤ ofLe l := by
 induction l with
 | nil => simp [ofLe]
 | cons b l ih => simp only [ofLe]; omega
theorem ofLe_lt (l : List UInt8) : ofLe l < 256 ^ l.length := by
 induction l with
 | nil => simp [ofLe]
 | cons b l ih =>
  simp only [ofLe, List.length_cons, Int.pow_succ]
  have hb : (b.toNat : Int) < 256 := by have := b.toNat_lt; omega
  omega
theorem ofLe_snoc (l : List UInt8) (b : UInt8) : ofLe (l ++ [b]) = ofLe l + b.toNat * 256 ^ l.length := by
 induction l with
 | nil => simp [ofLe]
 | cons c l ih =>
  simp only [List.cons_append, ofLe, ih, List.length_cons, Int.pow_succ, Int.mul_add]
  rw [Int.mul_comm (256 ^ l.length : Int) 256, ← Int.mul_assoc, Int.mul_comm (256 : Int) (b.toNat : Int), ← Int.mul_assoc]
  omega
theorem or_shl (n : Int) (c : UInt8) (i : Nat) (hi : i < 8) (h0 : 0 ≤ n) (h1 : n < 256 ^ i) :
  IntKind.u64.wrap ((BitVec.ofInt IntKind.u64.bits n ||| BitVec.ofInt IntKind.u64.bits (IntKind.u64.wrap ((c.toNat : Int) * 2 ^ (min (8 * (i : Int)).toNat IntKind.u64.bits)))).toNat) = n + c.toNat * 256 ^ i := by
 obtain ⟨m, rfl⟩ := Int.eq_ofNat_of_zero_le h0
 have hmin : min (8 * (i : Int)).toNat IntKind.u64.bits = 8 * i := by show min _ 64 = _; omega
 rw [hmin]
 have hpow : (256 : Int) ^ i = ((2 ^ (8 * i) : Nat) : Int) := by
  rw [Nat.pow_mul, Int.natCast_pow]; rfl
 have hpow2 : (2 : Int) ^ (8 * i) = ((2 ^ (8 * i) : Nat) : Int) := by norm_cast
 rw [hpow] at h1 ⊢
 rw [hpow2]
 have hm : m < 2 ^ (8 * i) := by exact_mod_cast h1
 have hc : c.toNat < 256 := c.toNat_lt
 have hle : 2 ^ (8 * i) ≤ 2 ^ 56 := Nat.pow_le_pow_right tD tO
 have hprod : c.toNat * 2 ^ (8 * i) < 2 ^ 64 := by
  calc c.toNat * 2 ^ (8 * i) ≤ 255 * 2 ^ 56 := Nat.mul_le_mul tO hle
   _ < 2 ^ 64 := by decide
 have hcast : (c.toNat : Int) * ((2 ^ (8 * i) : Nat) : Int) = ((c.toNat * 2 ^ (8 * i) : Nat) : Int) := by norm_cast
 rw [hcast]
 generalize hA : 2 ^ (8 * i) = A at *
 generalize hB : c.toNat * A = B at *
 have hw : IntKind.u64.wrap (B : Int) = B := wrap_u64 tO tO
 rw [hw]
 have hor : m ||| B = B + m := by
  rw [← hB, ← hA, Nat.mul_comm, Nat.or_comm]
  exact (Nat.two_pow_add_eq_or_of_lt (by rw [hA]; exact hm) _).symm
 have hsum : B + m < 2 ^ 64 := by
  rw [← hor]
  exact Nat.or_lt_two_pow tO hprod
 have e1 : (BitVec.ofInt IntKind.u64.bits (m : Int) ||| BitVec.ofInt IntKind.u64.bits (B : Int)).toNat = B + m := by
  show (BitVec.ofInt 64 (m : Int) ||| BitVec.ofInt 64 (B : Int)).toNat = _
  rw [BitVec.toNat_or]
  have a1 : (BitVec.ofInt 64 (m : Int)).toNat = m := by simp; omega
  have a2 : (BitVec.ofInt 64 (B : Int)).toNat = B := by simp; omega
  rw [a1, a2, hor]
 rw [e1, wrap_u64 tO tO]
 omega
end Go.Proofs.YtkbhldicnamcdaaGreat.L
namespace Go.Proofs.YtkbhldicnamcdaaGreat.L
open Go
theorem ofLe_leb (n : Int) (h : 0 ≤ n) : ∀ k, ofLe (leb n k) = n % 256 ^ k := by
 intro k
 induction k with
 | zero => simp [leb, ofLe]
 | succ k ih =>
  rw [leb_succ, ofLe_snoc, ih, leb_length, byteAt_toNat]
  have hp : (2 : Int) ^ (8 * k) = 256 ^ k := by rw [Int.pow_mul]; rfl
  rw [hp, Int.pow_succ]
  obtain ⟨m, rfl⟩ := Int.eq_ofNat_of_zero_le h
  have h2 : ((m % (256 ^ k * 256) : Nat) : Int) = ((m % 256 ^ k + 256 ^ k * (m / 256 ^ k % 256) : Nat) : Int) := by rw [Nat.mod_mul]
  simp only [Int.natCast_emod, Int.natCast_mul, Int.natCast_add, Int.natCast_pow, Int.natCast_ediv] at h2
  rw [Int.mul_comm _ ((256 : Int) ^ k)]
  exact h2.symm
theorem i64_u64 {n : Int} (h0 : -9223372036854775808 ≤ n) (h1 : n ≤ 9223372036854775807) : i64 (u64 n) = n := by
 unfold i64 u64; omega
theorem Rd.take_app (l r : List UInt8) : Rd.take ⟨l ++ r, false⟩ l.length = (some l, ⟨r, false⟩) := by
 simp [Rd.take]
theorem Rd.num_app (n : Int) (h : 0 ≤ n) (k : Nat) (r : List UInt8) : Rd.num ⟨leb n k ++ r, false⟩ k = (n % 256 ^ k, ⟨r, false⟩) := by
 have := Rd.take_app (leb n k) r
 rw [leb_length] at this
 unfold Rd.num
 rw [this]
 simp [ofLe_leb n h]
theorem Rd.int_app {n : Int} (h0 : -9223372036854775808 ≤ n) (h1 : n ≤ 9223372036854775807) (r : List UInt8) : Rd.int ⟨wInt n ++ r, false⟩ = (n, ⟨r, false⟩) := by
 have hu : 0 ≤ u64 n := Int.emod_nonneg _ tD
 unfold Rd.int wInt
 rw [Rd.num_app (u64 n) hu 8 r]
 have : u64 n % 256 ^ 8 = u64 n := by
  have : (256 : Int) ^ 8 = 18446744073709551616 := by decide
  rw [this]; unfold u64; omega
 rw [this, i64_u64 h0 h1]
theorem bytesOf_length (s : ByteArray) : (bytesOf s).length = s.size := by simp [bytesOf]
theorem bytesOf_mk (s : ByteArray) : (⟨(bytesOf s).toArray⟩ : ByteArray) = s := by cases s; simp [bytesOf]
theorem Rd.text_app (s : ByteArray) (r : List UInt8) : Rd.text ⟨wText s ++ r, false⟩ = (⟨((bytesOf s).take 65535).toArray⟩, ⟨r, false⟩) := by
 unfold Rd.text wText
 rw [List.append_assoc, Rd.num_app _ tO 2]
 have h2 : (256 : Int) ^ 2 = 65536 := by decide
 have e : (((min s.size 65535 : Nat) : Int) % 256 ^ 2).toNat = ((bytesOf s).take 65535).length := by
  rw [h2, List.length_take, bytesOf_length]; omega
 rw [e, Rd.take_app]
theorem Rd.text_app' (s : ByteArray) (hs : s.size ≤ 65535) (r : List UInt8) : Rd.text ⟨wText s ++ r, false⟩ = (s, ⟨r, false⟩) := by
 rw [Rd.text_app, List.take_of_length_le (by rw [bytesOf_length]; exact hs), bytesOf_mk]
theorem Rd.flag_app (b : Bool) (r : List UInt8) : Rd.flag ⟨wFlag b ++ r, false⟩ = (b, ⟨r, false⟩) := by
 cases b <;> simp [Rd.flag, wFlag, Rd.take]
theorem wI (n : Int) : (wInt n).length = 8 := leb_length _ _
theorem wT (s : ByteArray) : (wText s).length = 2 + min s.size 65535 := by
 simp [wText, leb_length, bytesOf_length, Nat.min_comm]
theorem wF (b : Bool) : (wFlag b).length = 1 := rfl
theorem Rd.take_f {s : Rd} (h : s.f = true) (n : Nat) : (s.take n).2.f = true := by simp [Rd.take, h]
theorem Rd.num_f {s : Rd} (h : s.f = true) (n : Nat) : (s.num n) = (0, s) := by simp [Rd.num, Rd.take, h]
theorem Rd.int_f {s : Rd} (h : s.f = true) : s.int = (0, s) := by simp [Rd.int, Rd.num_f h, i64]
theorem Rd.text_f {s : Rd} (h : s.f = true) : s.text = (⟨#[]⟩, s) := by simp [Rd.text, Rd.num_f h, Rd.take, h]
theorem Rd.flag_f {s : Rd} (h : s.f = true) : s.flag = (false, s) := by simp [Rd.flag, Rd.take, h]
theorem Rd.done_f {s : Rd} (h : s.f = true) : s.done = false := by simp [Rd.done, h]
end Go.Proofs.YtkbhldicnamcdaaGreat.L
namespace Go.Proofs.YtkbhldicnamcdaaGreat.L
open Go
def Pre (s t : Rd) : Prop := s.f = true ∨ (s.f = false ∧ t.f = false ∧ ∃ k, k ≠ [] ∧ t.bs = s.bs ++ k)
theorem Pre.done {s t : Rd} (h : Pre s t) (ht : t.bs = []) : s.done = false := by
 rcases h with h | ⟨_, _, k, hk, e⟩
 ·exact Rd.done_f h
 ·rw [ht] at e
  have : k = [] := (List.append_eq_nil_iff.mp e.symm).2
  exact absurd this hk
theorem Pre.take {s t : Rd} (h : Pre s t) (n : Nat) (ht : (t.take n).2.f = false) : Pre (s.take n).2 (t.take n).2 ∧ ((s.take n).2.f = true ∨ (s.take n).1 = (t.take n).1) := by
 rcases h with h | ⟨hs, ht', k, hk, e⟩
 ·have := Rd.take_f h n
  exact ⟨.inl this, .inl this⟩
 ·obtain ⟨sb, sf⟩ := s
  obtain ⟨tb, tf⟩ := t
  obtain rfl : sf = false := hs
  obtain rfl : tf = false := ht'
  obtain rfl : tb = sb ++ k := e
  by_cases hl : sb.length < n
  ·have : (Rd.take ⟨sb, false⟩ n).2.f = true := by simp [Rd.take, hl]
   exact ⟨.inl this, .inl this⟩
  ·have e1 : Rd.take ⟨sb, false⟩ n = (some (sb.take n), ⟨sb.drop n, false⟩) := by simp [Rd.take, hl]
   have hl2 : ¬ (sb ++ k).length < n := by simp; omega
   have e2 : Rd.take ⟨sb ++ k, false⟩ n = (some (sb.take n), ⟨sb.drop n ++ k, false⟩) := by
    have h3 : (sb ++ k).take n = sb.take n := List.take_append_of_le_length tO
    have h4 : (sb ++ k).drop n = sb.drop n ++ k := List.drop_append_of_le_length tO
    unfold Rd.take
    rw [if_neg (by simp), if_neg hl2, h3, h4]
   rw [e1, e2]
   exact ⟨.inr ⟨rfl, rfl, k, hk, rfl⟩, .inr rfl⟩
theorem Rd.num_snd (s : Rd) (n : Nat) : (s.num n).2 = (s.take n).2 := by
 unfold Rd.num
 split <;> simp_all
theorem Pre.num {s t : Rd} (h : Pre s t) (n : Nat) (ht : (t.num n).2.f = false) : Pre (s.num n).2 (t.num n).2 ∧ ((s.num n).2.f = true ∨ (s.num n).1 = (t.num n).1) := by
 rw [Rd.num_snd] at ht
 have := h.take n ht
 rw [Rd.num_snd, Rd.num_snd]
 refine ⟨this.1, this.2.imp id fun e => ?_⟩
 unfold Rd.num
 revert e
 cases hx : s.take n with
 | mk a b => cases hy : t.take n with
  | mk c d => intro e; obtain rfl : a = c := e; cases a <;> rfl
theorem Pre.int {s t : Rd} (h : Pre s t) (ht : t.int.2.f = false) : Pre s.int.2 t.int.2 ∧ (s.int.2.f = true ∨ s.int.1 = t.int.1) := by
 have := h.num 8 ht
 exact ⟨this.1, this.2.imp id fun e => congrArg i64 e⟩
theorem Rd.text_snd (s : Rd) : s.text.2 = ((s.num 2).2.take (s.num 2).1.toNat).2 := by
 unfold Rd.text
 split <;> simp_all
theorem Pre.text {s t : Rd} (h : Pre s t) (ht : t.text.2.f = false) : Pre s.text.2 t.text.2 ∧ (s.text.2.f = true ∨ s.text.1 = t.text.1) := by
 rw [Rd.text_snd] at ht
 have hn : (t.num 2).2.f = false := by
  cases hf : (t.num 2).2.f with
  | false => rfl
  | true => rw [Rd.take_f hf] at ht; cases ht
 have h1 := h.num 2 hn
 rw [Rd.text_snd, Rd.text_snd]
 rcases h1.2 with hf | hv
 ·have := Rd.take_f hf (s.num 2).1.toNat
  exact ⟨.inl this, .inl this⟩
 ·have h2 := h1.1.take _ ht
  rw [← hv] at h2 ⊢
  refine ⟨h2.1, h2.2.imp id fun e => ?_⟩
  unfold Rd.text
  rw [hv] at e ⊢
  revert e
  cases hx : (s.num 2).2.take (t.num 2).1.toNat with
  | mk a b => cases hy : (t.num 2).2.take (t.num 2).1.toNat with
   | mk c d => intro e; obtain rfl : a = c := e; cases a <;> rfl
theorem Pre.flag {s t : Rd} (h : Pre s t) (ht : t.flag.2.f = false) : Pre s.flag.2 t.flag.2 ∧ (s.flag.2.f = true ∨ s.flag.1 = t.flag.1) := by
 rcases h with h | ⟨hs, ht', k, hk, e⟩
 ·rw [Rd.flag_f h]; exact ⟨.inl h, .inl h⟩
 ·obtain ⟨sb, sf⟩ := s
  obtain ⟨tb, tf⟩ := t
  obtain rfl : sf = false := hs
  obtain rfl : tf = false := ht'
  obtain rfl : tb = sb ++ k := e
  cases sb with
  | nil =>
   have : (Rd.mk [] false).flag.2.f = true := by simp [Rd.flag, Rd.take]
   exact ⟨.inl this, .inl this⟩
  | cons c l =>
   by_cases h1 : 1 < c.toNat
   ·have : (Rd.mk (c :: l) false).flag.2.f = true := by simp [Rd.flag, Rd.take, h1]
    exact ⟨.inl this, .inl this⟩
   ·have e1 : (Rd.mk (c :: l) false).flag = (c.toNat == 1, ⟨l, false⟩) := by simp [Rd.flag, Rd.take, h1]
    have e2 : (Rd.mk (c :: l ++ k) false).flag = (c.toNat == 1, ⟨l ++ k, false⟩) := by simp [Rd.flag, Rd.take, h1]
    rw [e1, e2]
    exact ⟨.inr ⟨rfl, rfl, k, hk, rfl⟩, .inr rfl⟩
theorem Pre.cut (l : List UInt8) (n : Nat) (h : n < l.length) : Pre ⟨l.take n, false⟩ ⟨l, false⟩ :=
 .inr ⟨rfl, rfl, l.drop n, by intro e; have := congrArg List.length e; simp at this; omega, (List.take_append_drop n l).symm⟩
end Go.Proofs.YtkbhldicnamcdaaGreat.L
namespace Go.Proofs.YtkbhldicnamcdaaGreat.L
open Go
def Rd.rtake (s : Rd) (n : Nat) : List UInt8 × Rd := if s.f = true ∨ s.bs.length < n then ([], ⟨s.bs, true⟩) else (s.bs.take n, ⟨s.bs.drop n, false⟩)
def Rd.rint (s : Rd) : Int × Rd := (i64 (ofLe (s.rtake 8).1), (s.rtake 8).2)
def Rd.rtext (s : Rd) : ByteArray × Rd := if (s.rtake 2).1.length < 2 then (⟨#[]⟩, (s.rtake 2).2) else
 (⟨((s.rtake 2).2.rtake (ofLe (s.rtake 2).1).toNat).1.toArray⟩, ((s.rtake 2).2.rtake (ofLe (s.rtake 2).1).toNat).2)
def Rd.rflag (s : Rd) : Bool × Rd := match s.rtake 1 with
 | ([b], s') => (b.toNat == 1, if 1 < b.toNat then ⟨s'.bs, true⟩ else s')
 | (_, s') => (false, s')
theorem Rd.rtake_bad {s : Rd} {n : Nat} (h : s.f = true ∨ s.bs.length < n) : s.rtake n = ([], ⟨s.bs, true⟩) := by unfold Rd.rtake; rw [if_pos h]
theorem Rd.rtake_ok {s : Rd} {n : Nat} (h : s.f = false) (hl : n ≤ s.bs.length) : s.rtake n = (s.bs.take n, ⟨s.bs.drop n, false⟩) := by
 unfold Rd.rtake; rw [if_neg (by rw [h]; simp; omega)]
def Alike (s t : Rd) : Prop := s.f = t.f ∧ (s.f = false → s.bs = t.bs)
theorem Alike.refl (s : Rd) : Alike s s := ⟨rfl, fun _ => rfl⟩
theorem Alike.take {s t : Rd} (h : Alike s t) (n : Nat) : Alike (s.take n).2 (t.rtake n).2 ∧ ((s.take n).1 = none ∧ (t.rtake n).1 = [] ∧ (s.take n).2.f = true ∨ (∃ l, (s.take n).1 = some l ∧ (t.rtake n).1 = l ∧ l.length = n ∧ (s.take n).2.f = false)) := by
 obtain ⟨sb, sf⟩ := s
 obtain ⟨tb, tf⟩ := t
 obtain ⟨h1, h2⟩ := h
 obtain rfl : sf = tf := h1
 cases sf with
 | true =>
  rw [Rd.rtake_bad (.inl rfl)]
  exact ⟨⟨by simp [Rd.take], by simp [Rd.take]⟩, .inl ⟨by simp [Rd.take], rfl, by simp [Rd.take]⟩⟩
 | false =>
  obtain rfl : sb = tb := h2 rfl
  by_cases hl : sb.length < n
  ·rw [Rd.rtake_bad (.inr hl)]
   exact ⟨⟨by simp [Rd.take, hl], by simp [Rd.take, hl]⟩, .inl ⟨by simp [Rd.take, hl], rfl, by simp [Rd.take, hl]⟩⟩
  ·rw [Rd.rtake_ok rfl (by show n ≤ sb.length; omega)]
   exact ⟨⟨by simp [Rd.take, hl], by simp [Rd.take, hl]⟩, .inr ⟨sb.take n, by simp [Rd.take, hl], rfl, by rw [List.length_take]; omega, by simp [Rd.take, hl]⟩⟩
theorem Alike.int {s t : Rd} (h : Alike s t) : Alike s.int.2 t.rint.2 ∧ s.int.1 = t.rint.1 := by
 have h1 := h.take 8
 unfold Rd.int Rd.rint
 refine ⟨by rw [Rd.num_snd]; exact h1.1, congrArg i64 ?_⟩
 unfold Rd.num
 rcases h1.2 with ⟨e1, e2, _⟩ | ⟨l, e1, e2, _⟩
 ·rw [e2]; split
  ·rfl
  ·rename_i e; rw [e] at e1; cases e1
 ·rw [e2]; split
  ·rename_i e; rw [e] at e1; cases e1
  ·rename_i e; rw [e] at e1; cases e1; rfl
theorem Alike.text {s t : Rd} (h : Alike s t) : Alike s.text.2 t.rtext.2 ∧ s.text.1 = t.rtext.1 := by
 have h1 := h.take 2
 rcases h1 with ⟨ha, ⟨e1, e2, e3⟩ | ⟨l, e1, e2, e3, e4⟩⟩
 ·have hn : s.num 2 = (0, (s.take 2).2) := by
   unfold Rd.num; split
   ·rename_i e; rw [e]
   ·rename_i e; rw [e] at e1; cases e1
  have hr : t.rtext = (⟨#[]⟩, (t.rtake 2).2) := by unfold Rd.rtext; rw [e2, if_pos tD]
  have hs : s.text = (⟨#[]⟩, (s.take 2).2) := by 
   unfold Rd.text; rw [hn]
   show (match (s.take 2).2.take 0 with | (none, s') => ((⟨#[]⟩ : ByteArray), s') | (some l, s') => (⟨l.toArray⟩, s')) = _
   have : ∀ u : Rd, u.f = true → u.take 0 = (none, u) := fun u h => by simp [Rd.take, h]
   rw [this _ e3]
  rw [hr, hs]
  exact ⟨ha, rfl⟩
 ·have hn : s.num 2 = (ofLe l, (s.take 2).2) := by
   unfold Rd.num; split
   ·rename_i e; rw [e] at e1; cases e1
   ·rename_i e; rw [e] at e1; cases e1; rw [e]
  have hr : t.rtext = (⟨((t.rtake 2).2.rtake (ofLe l).toNat).1.toArray⟩, ((t.rtake 2).2.rtake (ofLe l).toNat).2) := by
   unfold Rd.rtext; rw [e2, if_neg (by rw [e3]; decide)]
  have h2 := ha.take (ofLe l).toNat
  rw [hr]
  refine ⟨by rw [Rd.text_snd, hn]; exact h2.1, ?_⟩
  unfold Rd.text
  rw [hn]
  rcases h2.2 with ⟨f1, f2, _⟩ | ⟨k, f1, f2, _⟩
  ·rw [f2]; split
   ·rfl
   ·rename_i e; rw [e] at f1; cases f1
  ·rw [f2]; split
   ·rename_i e; rw [e] at f1; cases f1
   ·rename_i e; rw [e] at f1; cases f1; rfl
theorem Alike.flag {s t : Rd} (h : Alike s t) : Alike s.flag.2 t.rflag.2 ∧ s.flag.1 = t.rflag.1 := by
 have h1 := h.take 1
 rcases h1 with ⟨ha, ⟨e1, e2, e3⟩ | ⟨l, e1, e2, e3, e4⟩⟩
 ·have hx : s.take 1 = (none, (s.take 1).2) := by rw [← e1]
  have hy : t.rtake 1 = ([], (t.rtake 1).2) := by rw [← e2]
  unfold Rd.flag Rd.rflag
  rw [hx, hy]
  exact ⟨ha, rfl⟩
 ·obtain ⟨b, rfl⟩ := List.length_eq_one_iff.mp e3
  have hx : s.take 1 = (some [b], (s.take 1).2) := by rw [← e1]
  have hy : t.rtake 1 = ([b], (t.rtake 1).2) := by rw [← e2]
  unfold Rd.flag Rd.rflag
  rw [hx, hy]
  by_cases hb : 1 < b.toNat
  ·simp only [hb, if_true]
   refine ⟨⟨rfl, fun h => by cases h⟩, ?_⟩
   have : ¬ b.toNat = 1 := by omega
   simp [this]
  ·simp only [hb, if_false]
   exact ⟨ha, trivial⟩
theorem Alike.done {s t : Rd} (h : Alike s t) : s.done = t.done := by
 obtain ⟨sb, sf⟩ := s
 obtain ⟨tb, tf⟩ := t
 obtain ⟨h1, h2⟩ := h
 obtain rfl : sf = tf := h1
 cases sf with
 | true => rfl
 | false => obtain rfl : sb = tb := h2 rfl; rfl
end Go.Proofs.YtkbhldicnamcdaaGreat.L
namespace Go.Proofs.YtkbhldicnamcdaaGreat.L
open Go Go.Proofs
attribute [local irreducible] pv fv pt fz RowF RowO rowP old pure_
theorem message_Right (a b c : Int) (d : Bool) (s t : ByteArray) : Fn Tryz.prog 175 [.agg #[.int .i64 a, .int .i64 b, .int .i64 c, .bool d, .string s, .string t]].toArray [] (fun v post => v = .bool (decide (1 ≤ a) && decide (a ≤ 1099511627776) && decide (-1000 ≤ b) && decide (b ≤ 1000) && decide (0 ≤ c) && decide (c ≤ 1000) && decide ((s.size : Int) ≤ 40) && decide ((t.size : Int) ≤ 100)) ∧ post = []) := by
 refine Fn.enter (N := 43) func175 rfl ntmps175 tK rfl (fun ρ L => ?_)
 repeat (first | apply ke | apply za | apply kB | apply zd | apply kL)
 refine kr<|kl (l_box rfl rfl) ?_
 rintro _ _ ⟨b1, rfl, rfl⟩
 refine ka rfl<|zm ?_
 repeat (first | apply ke | apply za | apply kB | apply zd | apply kL)
 repeat (first | apply ke | apply za | apply kB | apply zd | apply kL)
 refine kr<|kq (qO fo_56_0 rfl)<|kq (qD ck_3 rfl)<|kq (q_ge rfl rfl)<|km rfl ?_
 refine KO.dsplit 6 rfl (fun g6 => ?_) (fun g6 => ?_)
 ·refine kq (qO fo_56_0 rfl)<|kq (qD ck_3 rfl)<|kq (q_le rfl rfl)<|kq (qT rfl rfl)<|km rfl ?_
  refine KO.dsplit 11 rfl (fun g11 => ?_) (fun g11 => ?_)
  ·refine kq (qO fo_56_1 rfl)<|kq (qD ck_3 rfl)<|kq (q_ge rfl rfl)<|kq (qT rfl rfl)<|km rfl ?_
   refine KO.dsplit 16 rfl (fun g16 => ?_) (fun g16 => ?_)
   ·refine kq (qO fo_56_1 rfl)<|kq (qD ck_3 rfl)<|kq (q_le rfl rfl)<|kq (qT rfl rfl)<|km rfl ?_
    refine KO.dsplit 21 rfl (fun g21 => ?_) (fun g21 => ?_)
    ·refine kq (qO fo_56_2 rfl)<|kq (qD ck_3 rfl)<|kq (q_ge rfl rfl)<|kq (qT rfl rfl)<|km rfl ?_
     refine KO.dsplit 26 rfl (fun g26 => ?_) (fun g26 => ?_)
     ·refine kq (qO fo_56_2 rfl)<|kq (qD ck_3 rfl)<|kq (q_le rfl rfl)<|kq (qT rfl rfl)<|km rfl ?_
      refine KO.dsplit 31 rfl (fun g31 => ?_) (fun g31 => ?_)
      ·refine kq (qO fo_56_4 rfl)<|kq (qD ck_9 rfl)<|kq (q_lenS underlying9 rfl)<|kq (q_le rfl rfl)<|kq (qT rfl rfl)<|km rfl ?_
       refine KO.dsplit 37 rfl (fun g37 => ?_) (fun g37 => ?_)
       ·refine kq (qO fo_56_5 rfl)<|kq (qD ck_9 rfl)<|kq (q_lenS underlying9 rfl)<|kq (q_le rfl rfl)<|kq (qT rfl rfl)<|ka rfl<|zm ?_
        repeat (first | apply ke | apply za | apply kB | apply zd | apply kL)
        refine kr1 func175 results175 rfl (fun w hs => ?_)
        exact ⟨_, [], rfl, ⟨by simp [*], rfl⟩, hs.tail⟩
       ·refine zq<|zq<|zq<|zq<|kq (qF rfl rfl)<|ka rfl<|zm ?_
        repeat (first | apply ke | apply za | apply kB | apply zd | apply kL)
        refine kr1 func175 results175 rfl (fun w hs => ?_)
        exact ⟨_, [], rfl, ⟨by simp [*], rfl⟩, hs.tail⟩
      ·refine zq<|zq<|zq<|zq<|kq (qF rfl rfl)<|km rfl<|zq<|zq<|zq<|zq<|kq (qF rfl rfl)<|ka rfl<|zm ?_
       repeat (first | apply ke | apply za | apply kB | apply zd | apply kL)
       refine kr1 func175 results175 rfl (fun w hs => ?_)
       exact ⟨_, [], rfl, ⟨by simp [*], rfl⟩, hs.tail⟩
     ·refine zq<|zq<|zq<|kq (qF rfl rfl)<|km rfl<|zq<|zq<|zq<|zq<|kq (qF rfl rfl)<|km rfl<|zq<|zq<|zq<|zq<|kq (qF rfl rfl)<|ka rfl<|zm ?_
      repeat (first | apply ke | apply za | apply kB | apply zd | apply kL)
      refine kr1 func175 results175 rfl (fun w hs => ?_)
      exact ⟨_, [], rfl, ⟨by simp [*], rfl⟩, hs.tail⟩
    ·refine zq<|zq<|zq<|kq (qF rfl rfl)<|km rfl<|zq<|zq<|zq<|kq (qF rfl rfl)<|km rfl<|zq<|zq<|zq<|zq<|kq (qF rfl rfl)<|km rfl<|zq<|zq<|zq<|zq<|kq (qF rfl rfl)<|ka rfl<|zm ?_
     repeat (first | apply ke | apply za | apply kB | apply zd | apply kL)
     refine kr1 func175 results175 rfl (fun w hs => ?_)
     exact ⟨_, [], rfl, ⟨by simp [*], rfl⟩, hs.tail⟩
   ·refine zq<|zq<|zq<|kq (qF rfl rfl)<|km rfl<|zq<|zq<|zq<|kq (qF rfl rfl)<|km rfl<|zq<|zq<|zq<|kq (qF rfl rfl)<|km rfl<|zq<|zq<|zq<|zq<|kq (qF rfl rfl)<|km rfl<|zq<|zq<|zq<|zq<|kq (qF rfl rfl)<|ka rfl<|zm ?_
    repeat (first | apply ke | apply za | apply kB | apply zd | apply kL)
    refine kr1 func175 results175 rfl (fun w hs => ?_)
    exact ⟨_, [], rfl, ⟨by simp [*], rfl⟩, hs.tail⟩
  ·refine zq<|zq<|zq<|kq (qF rfl rfl)<|km rfl<|zq<|zq<|zq<|kq (qF rfl rfl)<|km rfl<|zq<|zq<|zq<|kq (qF rfl rfl)<|km rfl<|zq<|zq<|zq<|kq (qF rfl rfl)<|km rfl<|zq<|zq<|zq<|zq<|kq (qF rfl rfl)<|km rfl<|zq<|zq<|zq<|zq<|kq (qF rfl rfl)<|ka rfl<|zm ?_
   repeat (first | apply ke | apply za | apply kB | apply zd | apply kL)
   refine kr1 func175 results175 rfl (fun w hs => ?_)
   exact ⟨_, [], rfl, ⟨by simp [*], rfl⟩, hs.tail⟩
 ·refine zq<|zq<|zq<|kq (qF rfl rfl)<|km rfl<|zq<|zq<|zq<|kq (qF rfl rfl)<|km rfl<|zq<|zq<|zq<|kq (qF rfl rfl)<|km rfl<|zq<|zq<|zq<|kq (qF rfl rfl)<|km rfl<|zq<|zq<|zq<|kq (qF rfl rfl)<|km rfl<|zq<|zq<|zq<|zq<|kq (qF rfl rfl)<|km rfl<|zq<|zq<|zq<|zq<|kq (qF rfl rfl)<|ka rfl<|zm ?_
  repeat (first | apply ke | apply za | apply kB | apply zd | apply kL)
  refine kr1 func175 results175 rfl (fun w hs => ?_)
  exact ⟨_, [], rfl, ⟨by simp [*], rfl⟩, hs.tail⟩
end Go.Proofs.YtkbhldicnamcdaaGreat.L
namespace Go.Proofs.YtkbhldicnamcdaaGreat.L
open Go Go.Proofs
attribute [local irreducible] pv fv pt fz RowF RowO rowP old pure_
abbrev RdL (p : Nat) (q : Option Addr) (cap : Nat) (s : Rd) : List HP := [pv p 207 [.slice q s.bs.length cap, .bool s.f], RowF Kd.u8 q s.bs]
theorem rd_fail (p : Nat) (v u : Value) : Fn Tryz.prog 203 [.pointer (some ⟨p, 0, none⟩)].toArray [pv p 207 [v, u]] (fun r post => r = .tuple #[] ∧ post = [pv p 207 [.slice none 0 0, .bool true]]) := by
 refine Fn.enter (N := 8) func203 rfl ntmps203 tK rfl (fun ρ L => ?_)
 repeat (first | apply ke | apply za | apply kB | apply zd | apply kL)
 refine kr<|km rfl<|km rfl<|kq (qN rfl)<|kq (qO fo_207_0 rfl)<|kN rfl (lA ck_23 rfl rfl rfl tP tA) ?_
 rintro _ _ ⟨rfl, rfl⟩
 refine kq (qN rfl)<|kq (qO fo_207_1 rfl)<|kN rfl (lA ck_4 rfl rfl rfl tP tA) ?_
 rintro _ _ ⟨rfl, rfl⟩
 refine zm ?_
 repeat (first | apply ke | apply za | apply kB | apply zd | apply kL)
 refine K.fin (fn := Tryz.f203) func203 (fun a w hk hs => res0 results203) (fun w hs => ?_)
 exact ⟨_, [_], rfl, ⟨rfl, rfl⟩, hs⟩
theorem rd_take_failed (p : Nat) (q : Option Addr) (cap : Nat) (s : Rd) (n : Int) (hf : s.f = true) : Fn Tryz.prog 201 [.pointer (some ⟨p, 0, none⟩), .int .i64 n].toArray (RdL p q cap s) (fun r post => r = .tuple #[.slice none 0 0, .bool false] ∧ post = RdL p q cap s) := by
 obtain ⟨bs, f⟩ := s
 obtain rfl : f = true := hf
 refine Fn.enter (N := 40) func201 rfl ntmps201 tK rfl (fun ρ L => ?_)
 repeat (first | apply ke | apply za | apply kB | apply zd | apply kL)
 refine kr<|ka rfl<|ka rfl<|zm ?_
 repeat (first | apply ke | apply za | apply kB | apply zd | apply kL)
 repeat (first | apply ke | apply za | apply kB | apply zd | apply kL)
 refine kr<|km rfl<|kq (q_pnil underlying170 rfl rfl)<|km rfl<|km rfl<|kq (qN rfl)<|kq (qO fo_207_1 rfl)<|kq (qD ck_4 rfl)<|kq (qF rfl rfl)<|zm ?_
 repeat (first | apply ke | apply za | apply kB | apply zd | apply kL)
 refine K.yes rfl ?_
 repeat (first | apply ke | apply za | apply kB | apply zd | apply kL)
 refine kr<|ka rfl<|ka rfl<|zm ?_
 repeat (first | apply ke | apply za | apply kB | apply zd | apply kL)
 refine kr2 func201 results201 rfl rfl (fun w hs => ?_)
 exact ⟨_, _, rfl, ⟨rfl, rfl⟩, hs⟩
theorem rd_take_short (p : Nat) (q : Option Addr) (cap : Nat) (s : Rd) (n : Int) (hf : s.f = false) (hl : (s.bs.length : Int) < n) : Fn Tryz.prog 201 [.pointer (some ⟨p, 0, none⟩), .int .i64 n].toArray (RdL p q cap s) (fun r post => r = .tuple #[.slice none 0 0, .bool false] ∧ post = RdL p none 0 ⟨[], true⟩) := by
 obtain ⟨bs, f⟩ := s
 obtain rfl : f = false := hf
 replace hl : (bs.length : Int) < n := hl
 refine Fn.enter (N := 40) func201 rfl ntmps201 tK rfl (fun ρ L => ?_)
 repeat (first | apply ke | apply za | apply kB | apply zd | apply kL)
 refine kr<|ka rfl<|ka rfl<|zm ?_
 repeat (first | apply ke | apply za | apply kB | apply zd | apply kL)
 repeat (first | apply ke | apply za | apply kB | apply zd | apply kL)
 refine kr<|km rfl<|kq (q_pnil underlying170 rfl rfl)<|km rfl<|km rfl<|kq (qN rfl)<|kq (qO fo_207_1 rfl)<|kq (qD ck_4 rfl)<|kq (qF rfl rfl)<|zm ?_
 repeat (first | apply ke | apply za | apply kB | apply zd | apply kL)
 refine K.no rfl ?_
 repeat (first | apply ke | apply za | apply kB | apply zd | apply kL)
 refine kr<|km rfl<|kq (qN rfl)<|kq (qO fo_207_0 rfl)<|kq (qD ck_23 rfl)<|kq (qG underlying23 rfl)<|km rfl<|kq (q_lt rfl rfl)<|zm ?_
 repeat (first | apply ke | apply za | apply kB | apply zd | apply kL)
 refine K.dite rfl (fun _ => ?_) (fun h => absurd hl h)
 repeat (first | apply ke | apply za | apply kB | apply zd | apply kL)
 refine kr<|km rfl<|kl (OpL.callE rfl (rd_fail p _ _)) ?_
 rintro _ _ ⟨_, ⟨rfl, rfl⟩, rfl⟩
 refine zm ?_
 repeat (first | apply ke | apply za | apply kB | apply zd | apply kL)
 repeat (first | apply ke | apply za | apply kB | apply zd | apply kL)
 refine kr<|ka rfl<|ka rfl<|zm ?_
 repeat (first | apply ke | apply za | apply kB | apply zd | apply kL)
 refine kr2 func201 results201 rfl rfl (fun w hs => ?_)
 exact ⟨_, RdL p none 0 ⟨[], true⟩, rfl, ⟨rfl, rfl⟩, (rowF_nil (k := Kd.u8) none hs).fitD⟩
theorem rd_take_ok (p : Nat) (q : Option Addr) (cap : Nat) (s : Rd) (n : Int) (hf : s.f = false) (h0 : 0 ≤ n) (hl : n ≤ s.bs.length) (hc : s.bs.length ≤ cap) : Fn Tryz.prog 201 [.pointer (some ⟨p, 0, none⟩), .int .i64 n].toArray (RdL p q cap s)
  (fun r post => r = .tuple #[.slice q n.toNat cap, .bool true] ∧ post = RowF Kd.u8 q (s.bs.take n.toNat) :: RdL p (cutAddr q cap n.toNat 1) (cap - n.toNat) ⟨s.bs.drop n.toNat, false⟩) := by
 obtain ⟨bs, f⟩ := s
 obtain rfl : f = false := hf
 replace hl : n ≤ bs.length := hl
 replace hc : bs.length ≤ cap := hc
 refine Fn.enter (N := 40) func201 rfl ntmps201 tK rfl (fun ρ L => ?_)
 repeat (first | apply ke | apply za | apply kB | apply zd | apply kL)
 refine kr<|ka rfl<|ka rfl<|zm ?_
 repeat (first | apply ke | apply za | apply kB | apply zd | apply kL)
 repeat (first | apply ke | apply za | apply kB | apply zd | apply kL)
 refine kr<|km rfl<|kq (q_pnil underlying170 rfl rfl)<|km rfl<|km rfl<|kq (qN rfl)<|kq (qO fo_207_1 rfl)<|kq (qD ck_4 rfl)<|kq (qF rfl rfl)<|zm ?_
 repeat (first | apply ke | apply za | apply kB | apply zd | apply kL)
 refine K.no rfl ?_
 repeat (first | apply ke | apply za | apply kB | apply zd | apply kL)
 refine kr<|km rfl<|kq (qN rfl)<|kq (qO fo_207_0 rfl)<|kq (qD ck_23 rfl)<|kq (qG underlying23 rfl)<|km rfl<|kq (q_lt rfl rfl)<|zm ?_
 repeat (first | apply ke | apply za | apply kB | apply zd | apply kL)
 refine K.dite rfl (fun h => absurd h (by show ¬ (bs.length : Int) < n; omega)) (fun _ => ?_)
 repeat (first | apply ke | apply za | apply kB | apply zd | apply kL)
 refine K.st (fun w h => rowF_take n.toNat (List.Mem.tail _ (List.Mem.head _)) h)<|K.st (fun w h => rowF_cut (cap := cap) n.toNat hc (List.Mem.tail _ (List.Mem.tail _ (List.Mem.head _))) h) ?_
 repeat (first | apply ke | apply za | apply kB | apply zd | apply kL)
 refine kr<|km rfl<|kq (qN rfl)<|kq (qO fo_207_0 rfl)<|kq (qD ck_23 rfl)<|km rfl<|kq (q_cutH se_23 rfl rfl tN tN)<|ka rfl<|zm ?_
 repeat (first | apply ke | apply za | apply kB | apply zd | apply kL)
 repeat (first | apply ke | apply za | apply kB | apply zd | apply kL)
 refine kr<|km rfl<|km rfl<|kq (qN rfl)<|kq (qO fo_207_0 rfl)<|kq (qD ck_23 rfl)<|km rfl<|kq (q_cutL se_23 rfl rfl tN tN tN)<|kq (qN rfl)<|kq (qO fo_207_0 rfl)<|kN rfl (lA ck_23 rfl rfl rfl tP tA) ?_
 rintro _ _ ⟨rfl, rfl⟩
 refine zm ?_
 repeat (first | apply ke | apply za | apply kB | apply zd | apply kL)
 repeat (first | apply ke | apply za | apply kB | apply zd | apply kL)
 refine kr<|km rfl<|ka rfl<|ka rfl<|zm ?_
 repeat (first | apply ke | apply za | apply kB | apply zd | apply kL)
 refine kr2 func201 results201 rfl rfl (fun w hs => ?_)
 have e : (Rd.mk bs false).bs.length - n.toNat = (bs.drop n.toNat).length := by simp
 rw [e] at hs
 refine ⟨_, RowF Kd.u8 q (bs.take n.toNat) :: RdL p (cutAddr q cap n.toNat 1) (cap - n.toNat) ⟨bs.drop n.toNat, false⟩, rfl, ⟨rfl, rfl⟩, ?_⟩
 exact hs.fitD
end Go.Proofs.YtkbhldicnamcdaaGreat.L
namespace Go.Proofs.YtkbhldicnamcdaaGreat.L
open Go Go.Proofs
attribute [local irreducible] pv fv pt fz RowF RowO rowP old pure_
theorem Rd.take_failed {s : Rd} {n : Nat} (h : s.f = true) : s.take n = (none, s) := by simp [Rd.take, h]
theorem Rd.take_short {s : Rd} {n : Nat} (h : s.f = false) (hl : s.bs.length < n) : s.take n = (none, ⟨[], true⟩) := by simp [Rd.take, h, hl]
theorem Rd.take_ok {s : Rd} {n : Nat} (h : s.f = false) (hl : n ≤ s.bs.length) : s.take n = (some (s.bs.take n), ⟨s.bs.drop n, false⟩) := by
 have : ¬ s.bs.length < n := by omega
 simp [Rd.take, h, this]
theorem rd_number (p : Nat) (q : Option Addr) (cap : Nat) (s : Rd) (n : Int) (h0 : 0 ≤ n) (h8 : n ≤ 8) (hc : s.bs.length ≤ cap) : Fn Tryz.prog 163 [.pointer (some ⟨p, 0, none⟩), .int .i64 n].toArray (RdL p q cap s)
  (fun r post => ∃ q' cap', r = .int .u64 (s.num n.toNat).1 ∧ post = RdL p q' cap' (s.num n.toNat).2 ∧ (s.num n.toNat).2.bs.length ≤ cap') := by
 by_cases hf : s.f = true
 ·refine Fn.enter (N := 34) func163 rfl ntmps163 tK rfl (fun ρ L => ?_)
  repeat (first | apply ke | apply za | apply kB | apply zd | apply kL)
  refine kr<|ka rfl<|zm ?_
  repeat (first | apply ke | apply za | apply kB | apply zd | apply kL)
  repeat (first | apply ke | apply za | apply kB | apply zd | apply kL)
  refine kr<|km rfl<|km rfl<|kl (OpL.callE rfl (rd_take_failed p q cap s n hf)) ?_
  rintro _ _ ⟨_, ⟨rfl, rfl⟩, rfl⟩
  refine km rfl<|kq (qX rfl rfl)<|kq (qX rfl rfl)<|ka rfl<|ka rfl<|zm ?_
  repeat (first | apply ke | apply za | apply kB | apply zd | apply kL)
  repeat (first | apply ke | apply za | apply kB | apply zd | apply kL)
  refine kr<|km rfl<|kq (q_not rfl)<|zm ?_
  repeat (first | apply ke | apply za | apply kB | apply zd | apply kL)
  refine K.yes rfl ?_
  repeat (first | apply ke | apply za | apply kB | apply zd | apply kL)
  refine kr<|ka rfl<|zm ?_
  repeat (first | apply ke | apply za | apply kB | apply zd | apply kL)
  refine kr1 func163 results163 rfl (fun w hs => ?_)
  have e : s.num n.toNat = (0, s) := by simp [Rd.num, Rd.take_failed hf]
  exact ⟨_, RdL p q cap s, rfl, ⟨q, cap, by rw [e], by rw [e], by rw [e]; exact hc⟩, hs.fitD⟩
 ·replace hf : s.f = false := by simpa using hf
  by_cases hl : (s.bs.length : Int) < n
  ·refine Fn.enter (N := 34) func163 rfl ntmps163 tK rfl (fun ρ L => ?_)
   repeat (first | apply ke | apply za | apply kB | apply zd | apply kL)
   refine kr<|ka rfl<|zm ?_
   repeat (first | apply ke | apply za | apply kB | apply zd | apply kL)
   repeat (first | apply ke | apply za | apply kB | apply zd | apply kL)
   refine kr<|km rfl<|km rfl<|kl (OpL.callE rfl (rd_take_short p q cap s n hf hl)) ?_
   rintro _ _ ⟨_, ⟨rfl, rfl⟩, rfl⟩
   refine km rfl<|kq (qX rfl rfl)<|kq (qX rfl rfl)<|ka rfl<|ka rfl<|zm ?_
   repeat (first | apply ke | apply za | apply kB | apply zd | apply kL)
   repeat (first | apply ke | apply za | apply kB | apply zd | apply kL)
   refine kr<|km rfl<|kq (q_not rfl)<|zm ?_
   repeat (first | apply ke | apply za | apply kB | apply zd | apply kL)
   refine K.yes rfl ?_
   repeat (first | apply ke | apply za | apply kB | apply zd | apply kL)
   refine kr<|ka rfl<|zm ?_
   repeat (first | apply ke | apply za | apply kB | apply zd | apply kL)
   refine kr1 func163 results163 rfl (fun w hs => ?_)
   have e : s.num n.toNat = (0, ⟨[], true⟩) := by simp [Rd.num, Rd.take_short hf (show s.bs.length < n.toNat by omega)]
   exact ⟨_, RdL p none 0 ⟨[], true⟩, rfl, ⟨none, 0, by rw [e], by rw [e], by rw [e]; exact Nat.le_refl _⟩, hs.fitD⟩
  ·refine Fn.enter (N := 34) func163 rfl ntmps163 tK rfl (fun ρ L => ?_)
   repeat (first | apply ke | apply za | apply kB | apply zd | apply kL)
   refine kr<|ka rfl<|zm ?_
   repeat (first | apply ke | apply za | apply kB | apply zd | apply kL)
   repeat (first | apply ke | apply za | apply kB | apply zd | apply kL)
   refine kr<|km rfl<|km rfl<|kl (OpL.callE rfl (rd_take_ok p q cap s n hf h0 tO hc)) ?_
   rintro _ _ ⟨_, ⟨rfl, rfl⟩, rfl⟩
   refine km rfl<|kq (qX rfl rfl)<|kq (qX rfl rfl)<|ka rfl<|ka rfl<|zm ?_
   repeat (first | apply ke | apply za | apply kB | apply zd | apply kL)
   repeat (first | apply ke | apply za | apply kB | apply zd | apply kL)
   refine kr<|km rfl<|kq (q_not rfl)<|zm ?_
   repeat (first | apply ke | apply za | apply kB | apply zd | apply kL)
   refine K.no rfl ?_
   repeat (first | apply ke | apply za | apply kB | apply zd | apply kL)
   refine kr<|ka rfl<|zm ?_
   repeat (first | apply ke | apply za | apply kB | apply zd | apply kL)
   repeat (first | apply ke | apply za | apply kB | apply zd | apply kL)
   refine kr<|km rfl<|kq (qG underlying23 rfl)<|km rfl<|zm ?_
   repeat (first | apply ke | apply za | apply kB | apply zd | apply kL)
   have hlen : (s.bs.take n.toNat).length = n.toNat := by rw [List.length_take]; omega
   generalize hT : s.bs.take n.toNat = T at hlen ⊢
   refine K.rloop (ι := { i : Nat // i ≤ n.toNat }) (fun i => [(20, .int .i64 (i.1 : Int)), (7, .int .u64 (ofLe (T.take i.1))), (18, .slice q n.toNat cap), (19, .int .i64 (n.toNat : Int))]) (fun i => n.toNat - i.1) ⟨0, Nat.zero_le _⟩ tS (fun i ih => ?_)
   obtain ⟨i, hi⟩ := i
   repeat (first | apply ke | apply za | apply kB | apply zd | apply kL)
   refine kr<|kq (q_lt rfl rfl)<|zm ?_
   repeat (first | apply ke | apply za | apply kB | apply zd | apply kL)
   refine K.dite rfl (fun h => ?_) (fun h => ?_)
   ·repeat (first | apply ke | apply za | apply kB | apply zd | apply kL)
    replace h : (i : Int) < (n.toNat : Int) := h
    have hi' : i < n.toNat := by omega
    obtain ⟨c, hx⟩ : ∃ c, T[i]? = some c := ⟨T[i]'tO, List.getElem?_eq_getElem _⟩
    have hb := c.toNat_lt
    refine K.fact (rowF_addr (List.Mem.head _) (by intro e; rw [e] at hx; simp at hx)) (fun hq => ?_)
    obtain ⟨bq, oq, rfl⟩ := hq
    repeat (first | apply ke | apply za | apply kB | apply zd | apply kL)
    refine kr<|km rfl<|kq (q_index se_23 rfl rfl tN tN)<|kq (qD ck_5 rfl)<|ka rfl<|ka rfl<|zm ?_
    repeat (first | apply ke | apply za | apply kB | apply zd | apply kL)
    repeat (first | apply ke | apply za | apply kB | apply zd | apply kL)
    refine kr<|km rfl<|km rfl ?_
    refine kq (q_conv underlying89 (by rw [underlying5]; rfl) rfl (by first | rfl | exact wrap_i64 tO tO | exact wrap_u64 tO tO | exact wrap_u8 tO tO)) ?_
    refine km rfl<|kq (q_mul rfl rfl tN tN)<|kq (q_shl rfl rfl tN)<|kq (q_or rfl rfl)<|ka rfl<|zm ?_
    repeat (first | apply ke | apply za | apply kB | apply zd | apply kL)
    repeat (first | apply ke | apply za | apply kB | apply zd | apply kL)
    refine kr<|kq (q_add rfl rfl tN tN)<|km rfl<|zm ?_
    repeat (first | apply ke | apply za | apply kB | apply zd | apply kL)
    have hlt : ofLe (T.take i) < 256 ^ i := by
     have := ofLe_lt (T.take i)
     rwa [List.length_take, Nat.min_eq_left tO] at this
    rw [or_shl (ofLe (T.take i)) c i tO (ofLe_nonneg _) hlt]
    have hs' : ofLe (T.take i) + (c.toNat : Int) * 256 ^ i = ofLe (T.take (i + 1)) := by
     rw [List.take_add_one, hx, Option.toList_some, ofLe_snoc, List.length_take, Nat.min_eq_left tO]
    rw [hs']
    exact K.subE tS (ih ⟨i + 1, by omega⟩ (by show n.toNat - (i + 1) < n.toNat - i; omega))
   ·replace h : ¬ (i : Int) < (n.toNat : Int) := h
    have hi' : i = n.toNat := by omega
    subst hi'
    refine K.exit rfl ?_
    repeat (first | apply ke | apply za | apply kB | apply zd | apply kL)
    refine kr<|km rfl<|ka rfl<|zm ?_
    repeat (first | apply ke | apply za | apply kB | apply zd | apply kL)
    refine kr1 func163 results163 rfl (fun w hs => ?_)
    have e : s.num n.toNat = (ofLe T, ⟨s.bs.drop n.toNat, false⟩) := by
     simp [Rd.num, Rd.take_ok hf (show n.toNat ≤ s.bs.length by omega), hT]
    have e2 : T.take n.toNat = T := List.take_of_length_le tO
    exact ⟨_, RdL p (cutAddr q cap n.toNat 1) (cap - n.toNat) ⟨s.bs.drop n.toNat, false⟩, rfl, ⟨_, _, by rw [e, e2], by rw [e], by rw [e]; simp; omega⟩, hs.fitD⟩
end Go.Proofs.YtkbhldicnamcdaaGreat.L
namespace Go.Proofs.YtkbhldicnamcdaaGreat.L
open Go Go.Proofs
attribute [local irreducible] pv fv pt fz RowF RowO rowP old pure_
theorem Rd.num_ge (s : Rd) (n : Nat) : 0 ≤ (s.num n).1 := by
 unfold Rd.num
 split
 ·exact Int.le_refl _
 ·exact ofLe_nonneg _
theorem Rd.num_lt (s : Rd) (n : Nat) : (s.num n).1 < 256 ^ n := by
 unfold Rd.num
 have hp : (0 : Int) < 256 ^ n := Int.pow_pos tD
 split
 ·exact hp
 ·rename_i l s' h
  have hl : l.length = n := by
   unfold Rd.take at h
   split at h
   ·cases h
   ·split at h
    ·cases h
    ·simp at h; rw [← h.1, List.length_take]; omega
  have := ofLe_lt l
  rwa [hl] at this
theorem wrap_i64_i64 (n : Int) : IntKind.i64.wrap n = i64 n := IntKind.wrap_i64 n
theorem rd_Int (p : Nat) (q : Option Addr) (cap : Nat) (s : Rd) (hc : s.bs.length ≤ cap) : Fn Tryz.prog 124 [.pointer (some ⟨p, 0, none⟩)].toArray (RdL p q cap s)
  (fun r post => ∃ q' cap', r = .int .i64 s.int.1 ∧ post = RdL p q' cap' s.int.2 ∧ s.int.2.bs.length ≤ cap') := by
 refine Fn.enter (N := 6) func124 rfl ntmps124 tK rfl (fun ρ L => ?_)
 repeat (first | apply ke | apply za | apply kB | apply zd | apply kL)
 refine kr<|ka rfl<|zm ?_
 repeat (first | apply ke | apply za | apply kB | apply zd | apply kL)
 repeat (first | apply ke | apply za | apply kB | apply zd | apply kL)
 refine kr<|km rfl<|kl (OpL.callE rfl (rd_number p q cap s 8 tD tD hc)) ?_
 rintro _ _ ⟨_, ⟨q', cap', rfl, rfl, hc'⟩, rfl⟩
 refine kq (q_convw underlying3 (by rw [underlying89]; rfl) rfl)<|ka rfl<|zm ?_
 repeat (first | apply ke | apply za | apply kB | apply zd | apply kL)
 refine kr1 func124 results124 rfl (fun w hs => ?_)
 rw [wrap_i64_i64]
 exact ⟨_, RdL p q' cap' s.int.2, rfl, ⟨q', cap', rfl, rfl, hc'⟩, hs.fitD⟩
theorem rd_Text (p : Nat) (q : Option Addr) (cap : Nat) (s : Rd) (hc : s.bs.length ≤ cap) : Fn Tryz.prog 160 [.pointer (some ⟨p, 0, none⟩)].toArray (RdL p q cap s)
  (fun r post => ∃ q' cap', r = .string s.text.1 ∧ post = RdL p q' cap' s.text.2 ∧ s.text.2.bs.length ≤ cap') := by
 have g0 := s.num_ge 2
 have g1 := s.num_lt 2
 refine Fn.enter (N := 17) func160 rfl ntmps160 tK rfl (fun ρ L => ?_)
 repeat (first | apply ke | apply za | apply kB | apply zd | apply kL)
 refine kr<|ka rfl<|zm ?_
 repeat (first | apply ke | apply za | apply kB | apply zd | apply kL)
 repeat (first | apply ke | apply za | apply kB | apply zd | apply kL)
 refine kr<|km rfl<|km rfl<|kl (OpL.callE rfl (rd_number p q cap s 2 tD tD hc)) ?_
 rintro _ _ ⟨_, ⟨q', cap', rfl, rfl, hc'⟩, rfl⟩
 have e2 : s.num (2 : Int).toNat = s.num 2 := rfl
 rw [e2] at hc' ⊢
 generalize hN : (s.num 2).1 = N at g0 g1 ⊢
 generalize hS : (s.num 2).2 = S at hc' ⊢
 have g2 : N < 65536 := g1
 clear g1
 refine kq (q_conv underlying3 (by rw [underlying89]; rfl) rfl (by first | rfl | exact wrap_i64 tO tO | exact wrap_u64 tO tO | exact wrap_u8 tO tO)) ?_
 by_cases hf : S.f = true
 ·have e : s.text = (⟨#[]⟩, S) := by simp [Rd.text, hN, hS, Rd.take_failed hf]
  refine kl (OpL.callE rfl (rd_take_failed p q' cap' S N hf)) ?_
  rintro _ _ ⟨_, ⟨rfl, rfl⟩, rfl⟩
  refine km rfl<|kq (qX rfl rfl)<|kq (qX rfl rfl)<|ka rfl<|ka rfl<|zm ?_
  repeat (first | apply ke | apply za | apply kB | apply zd | apply kL)
  repeat (first | apply ke | apply za | apply kB | apply zd | apply kL)
  refine kr<|km rfl<|kq (q_not rfl)<|zm ?_
  repeat (first | apply ke | apply za | apply kB | apply zd | apply kL)
  refine K.yes rfl ?_
  repeat (first | apply ke | apply za | apply kB | apply zd | apply kL)
  refine kr<|ka rfl<|zm ?_
  repeat (first | apply ke | apply za | apply kB | apply zd | apply kL)
  refine kr1 func160 results160 rfl (fun w hs => ?_)
  exact ⟨_, RdL p q' cap' S, rfl, ⟨q', cap', by rw [e], by rw [e], by rw [e]; exact hc'⟩, hs.fitD⟩
 ·replace hf : S.f = false := by simpa using hf
  by_cases hl : (S.bs.length : Int) < N
  ·have e : s.text = (⟨#[]⟩, ⟨[], true⟩) := by simp [Rd.text, hN, hS, Rd.take_short hf (show S.bs.length < N.toNat by omega)]
   refine kl (OpL.callE rfl (rd_take_short p q' cap' S N hf hl)) ?_
   rintro _ _ ⟨_, ⟨rfl, rfl⟩, rfl⟩
   refine km rfl<|kq (qX rfl rfl)<|kq (qX rfl rfl)<|ka rfl<|ka rfl<|zm ?_
   repeat (first | apply ke | apply za | apply kB | apply zd | apply kL)
   repeat (first | apply ke | apply za | apply kB | apply zd | apply kL)
   refine kr<|km rfl<|kq (q_not rfl)<|zm ?_
   repeat (first | apply ke | apply za | apply kB | apply zd | apply kL)
   refine K.yes rfl ?_
   repeat (first | apply ke | apply za | apply kB | apply zd | apply kL)
   refine kr<|ka rfl<|zm ?_
   repeat (first | apply ke | apply za | apply kB | apply zd | apply kL)
   refine kr1 func160 results160 rfl (fun w hs => ?_)
   exact ⟨_, RdL p none 0 ⟨[], true⟩, rfl, ⟨none, 0, by rw [e], by rw [e], by rw [e]; exact Nat.le_refl _⟩, hs.fitD⟩
  ·have e : s.text = (⟨(S.bs.take N.toNat).toArray⟩, ⟨S.bs.drop N.toNat, false⟩) := by simp [Rd.text, hN, hS, Rd.take_ok hf (show N.toNat ≤ S.bs.length by omega)]
   have hlen : N.toNat = (S.bs.take N.toNat).length := by rw [List.length_take]; omega
   refine kl (OpL.callE rfl (rd_take_ok p q' cap' S N hf g0 tO hc')) ?_
   rintro _ _ ⟨_, ⟨rfl, rfl⟩, rfl⟩
   refine km rfl<|kq (qX rfl rfl)<|kq (qX rfl rfl)<|ka rfl<|ka rfl<|zm ?_
   repeat (first | apply ke | apply za | apply kB | apply zd | apply kL)
   repeat (first | apply ke | apply za | apply kB | apply zd | apply kL)
   refine kr<|km rfl<|kq (q_not rfl)<|zm ?_
   repeat (first | apply ke | apply za | apply kB | apply zd | apply kL)
   refine K.no rfl ?_
   repeat (first | apply ke | apply za | apply kB | apply zd | apply kL)
   refine kr<|km rfl<|kq (q_bstr underlying23 underlying5 underlying9 rfl isF (List.Mem.head _) hlen)<|ka rfl<|zm ?_
   repeat (first | apply ke | apply za | apply kB | apply zd | apply kL)
   refine kr1 func160 results160 rfl (fun w hs => ?_)
   exact ⟨_, RdL p (cutAddr q' cap' N.toNat 1) (cap' - N.toNat) ⟨S.bs.drop N.toNat, false⟩, rfl, ⟨_, _, by rw [e], by rw [e], by rw [e]; simp; omega⟩, hs.fitD⟩
theorem rd_Flag (p : Nat) (q : Option Addr) (cap : Nat) (s : Rd) (hc : s.bs.length ≤ cap) : Fn Tryz.prog 168 [.pointer (some ⟨p, 0, none⟩)].toArray (RdL p q cap s)
  (fun r post => ∃ q' cap', r = .bool s.flag.1 ∧ post = RdL p q' cap' s.flag.2 ∧ s.flag.2.bs.length ≤ cap') := by
 by_cases hf : s.f = true
 ·have e : s.flag = (false, s) := by simp [Rd.flag, Rd.take_failed hf]
  refine Fn.enter (N := 22) func168 rfl ntmps168 tK rfl (fun ρ L => ?_)
  repeat (first | apply ke | apply za | apply kB | apply zd | apply kL)
  refine kr<|ka rfl<|zm ?_
  repeat (first | apply ke | apply za | apply kB | apply zd | apply kL)
  repeat (first | apply ke | apply za | apply kB | apply zd | apply kL)
  refine kr<|km rfl<|kl (OpL.callE rfl (rd_take_failed p q cap s 1 hf)) ?_
  rintro _ _ ⟨_, ⟨rfl, rfl⟩, rfl⟩
  refine km rfl<|kq (qX rfl rfl)<|kq (qX rfl rfl)<|ka rfl<|ka rfl<|zm ?_
  repeat (first | apply ke | apply za | apply kB | apply zd | apply kL)
  repeat (first | apply ke | apply za | apply kB | apply zd | apply kL)
  refine kr<|km rfl<|kq (q_not rfl)<|zm ?_
  repeat (first | apply ke | apply za | apply kB | apply zd | apply kL)
  refine K.yes rfl ?_
  repeat (first | apply ke | apply za | apply kB | apply zd | apply kL)
  refine kr<|ka rfl<|zm ?_
  repeat (first | apply ke | apply za | apply kB | apply zd | apply kL)
  refine kr1 func168 results168 rfl (fun w hs => ?_)
  exact ⟨_, RdL p q cap s, rfl, ⟨q, cap, by rw [e], by rw [e], by rw [e]; exact hc⟩, hs.fitD⟩
 ·replace hf : s.f = false := by simpa using hf
  by_cases hl : (s.bs.length : Int) < 1
  ·have e : s.flag = (false, ⟨[], true⟩) := by simp [Rd.flag, Rd.take_short hf (show s.bs.length < 1 by omega)]
   refine Fn.enter (N := 22) func168 rfl ntmps168 tK rfl (fun ρ L => ?_)
   repeat (first | apply ke | apply za | apply kB | apply zd | apply kL)
   refine kr<|ka rfl<|zm ?_
   repeat (first | apply ke | apply za | apply kB | apply zd | apply kL)
   repeat (first | apply ke | apply za | apply kB | apply zd | apply kL)
   refine kr<|km rfl<|kl (OpL.callE rfl (rd_take_short p q cap s 1 hf hl)) ?_
   rintro _ _ ⟨_, ⟨rfl, rfl⟩, rfl⟩
   refine km rfl<|kq (qX rfl rfl)<|kq (qX rfl rfl)<|ka rfl<|ka rfl<|zm ?_
   repeat (first | apply ke | apply za | apply kB | apply zd | apply kL)
   repeat (first | apply ke | apply za | apply kB | apply zd | apply kL)
   refine kr<|km rfl<|kq (q_not rfl)<|zm ?_
   repeat (first | apply ke | apply za | apply kB | apply zd | apply kL)
   refine K.yes rfl ?_
   repeat (first | apply ke | apply za | apply kB | apply zd | apply kL)
   refine kr<|ka rfl<|zm ?_
   repeat (first | apply ke | apply za | apply kB | apply zd | apply kL)
   refine kr1 func168 results168 rfl (fun w hs => ?_)
   exact ⟨_, RdL p none 0 ⟨[], true⟩, rfl, ⟨none, 0, by rw [e], by rw [e], by rw [e]; exact Nat.le_refl _⟩, hs.fitD⟩
  ·obtain ⟨bs, f⟩ := s
   obtain rfl : f = false := hf
   replace hl : ¬ (bs.length : Int) < 1 := hl
   replace hc : bs.length ≤ cap := hc
   obtain ⟨c, l, rfl⟩ : ∃ c l, bs = c :: l := by
    cases bs with
    | nil => simp at hl
    | cons c l => exact ⟨c, l, rfl⟩
   have hb := c.toNat_lt
   refine Fn.enter (N := 22) func168 rfl ntmps168 tK rfl (fun ρ L => ?_)
   repeat (first | apply ke | apply za | apply kB | apply zd | apply kL)
   refine kr<|ka rfl<|zm ?_
   repeat (first | apply ke | apply za | apply kB | apply zd | apply kL)
   repeat (first | apply ke | apply za | apply kB | apply zd | apply kL)
   refine kr<|km rfl<|kl (OpL.callE rfl (rd_take_ok p q cap ⟨c :: l, false⟩ 1 rfl tD (by simp; omega) hc)) ?_
   rintro _ _ ⟨_, ⟨rfl, rfl⟩, rfl⟩
   refine km rfl<|kq (qX rfl rfl)<|kq (qX rfl rfl)<|ka rfl<|ka rfl<|zm ?_
   repeat (first | apply ke | apply za | apply kB | apply zd | apply kL)
   repeat (first | apply ke | apply za | apply kB | apply zd | apply kL)
   refine kr<|km rfl<|kq (q_not rfl)<|zm ?_
   repeat (first | apply ke | apply za | apply kB | apply zd | apply kL)
   refine K.no rfl ?_
   have hx : ((Rd.mk (c :: l) false).bs.take (1 : Int).toNat)[(0 : Int).toNat]? = some c := rfl
   refine K.fact (rowF_addr (List.Mem.head _) (by intro e; rw [e] at hx; simp at hx)) (fun hq => ?_)
   obtain ⟨bq, oq, rfl⟩ := hq
   repeat (first | apply ke | apply za | apply kB | apply zd | apply kL)
   refine kr<|km rfl<|kq (q_index se_23 rfl rfl tN tN)<|kq (qD ck_5 rfl)<|kq (q_gt rfl rfl)<|zm ?_
   repeat (first | apply ke | apply za | apply kB | apply zd | apply kL)
   refine K.dite rfl (fun h => ?_) (fun h => ?_)
   ·have e : (Rd.mk (c :: l) false).flag = (false, ⟨[], true⟩) := by
     have : 1 < c.toNat := by omega
     simp [Rd.flag, Rd.take, this]
    repeat (first | apply ke | apply za | apply kB | apply zd | apply kL)
    refine kr<|km rfl<|kl (OpL.callE rfl (rd_fail p _ _)) ?_
    rintro _ _ ⟨_, ⟨rfl, rfl⟩, rfl⟩
    refine zm ?_
    repeat (first | apply ke | apply za | apply kB | apply zd | apply kL)
    repeat (first | apply ke | apply za | apply kB | apply zd | apply kL)
    refine kr<|ka rfl<|zm ?_
    repeat (first | apply ke | apply za | apply kB | apply zd | apply kL)
    refine kr1 func168 results168 rfl (fun w hs => ?_)
    exact ⟨_, RdL p none 0 ⟨[], true⟩, rfl, ⟨none, 0, by rw [e], by rw [e], by rw [e]; exact Nat.le_refl _⟩, (rowF_nil (k := Kd.u8) none hs).fitD⟩
   ·have e : (Rd.mk (c :: l) false).flag = (c.toNat == 1, ⟨l, false⟩) := by
     have : ¬ 1 < c.toNat := by omega
     simp [Rd.flag, Rd.take, this]
    repeat (first | apply ke | apply za | apply kB | apply zd | apply kL)
    refine kr<|km rfl<|kq (q_index se_23 rfl rfl tN tN)<|kq (qD ck_5 rfl)<|kq (q_eq rfl rfl)<|ka rfl<|zm ?_
    repeat (first | apply ke | apply za | apply kB | apply zd | apply kL)
    refine kr1 func168 results168 rfl (fun w hs => ?_)
    have e3 : decide ((c.toNat : Int) = 1) = (c.toNat == 1) := by
     by_cases h1 : c.toNat = 1
     ·simp [h1]
     ·have h2 : ¬ (c.toNat : Int) = 1 := by omega
      simp [h1, h2]
    rw [e3]
    exact ⟨_, RdL p (cutAddr (some ⟨bq, oq, none⟩) cap 1 1) (cap - 1) ⟨l, false⟩, rfl, ⟨_, _, by rw [e], by rw [e], by rw [e]; simp at hc ⊢; omega⟩, hs.fitD⟩
theorem rd_Failed (p : Nat) (q : Option Addr) (cap : Nat) (s : Rd) : Fn Tryz.prog 130 [.pointer (some ⟨p, 0, none⟩)].toArray (RdL p q cap s) (fun r post => r = .bool s.f ∧ post = RdL p q cap s) := by
 refine Fn.enter (N := 11) func130 rfl ntmps130 tK rfl (fun ρ L => ?_)
 repeat (first | apply ke | apply za | apply kB | apply zd | apply kL)
 refine kr<|ka rfl<|zm ?_
 repeat (first | apply ke | apply za | apply kB | apply zd | apply kL)
 repeat (first | apply ke | apply za | apply kB | apply zd | apply kL)
 refine kr<|km rfl<|kq (q_pnn underlying170 rfl rfl)<|km rfl<|km rfl<|kq (qN rfl)<|kq (qO fo_207_1 rfl)<|kq (qD ck_4 rfl)<|kq (qT rfl rfl)<|ka rfl<|zm ?_
 repeat (first | apply ke | apply za | apply kB | apply zd | apply kL)
 refine kr1 func130 results130 rfl (fun w hs => ?_)
 exact ⟨_, RdL p q cap s, rfl, ⟨rfl, rfl⟩, hs.fitD⟩
theorem rd_Left (p : Nat) (q : Option Addr) (cap : Nat) (s : Rd) : Fn Tryz.prog 166 [.pointer (some ⟨p, 0, none⟩)].toArray (RdL p q cap s) (fun r post => r = .int .i64 s.bs.length ∧ post = RdL p q cap s) := by
 refine Fn.enter (N := 10) func166 rfl ntmps166 tK rfl (fun ρ L => ?_)
 repeat (first | apply ke | apply za | apply kB | apply zd | apply kL)
 refine kr<|ka rfl<|zm ?_
 repeat (first | apply ke | apply za | apply kB | apply zd | apply kL)
 repeat (first | apply ke | apply za | apply kB | apply zd | apply kL)
 refine kr<|km rfl<|kq (q_pnil underlying170 rfl rfl)<|zm ?_
 repeat (first | apply ke | apply za | apply kB | apply zd | apply kL)
 refine K.no rfl ?_
 repeat (first | apply ke | apply za | apply kB | apply zd | apply kL)
 refine kr<|km rfl<|kq (qN rfl)<|kq (qO fo_207_0 rfl)<|kq (qD ck_23 rfl)<|kq (qG underlying23 rfl)<|ka rfl<|zm ?_
 repeat (first | apply ke | apply za | apply kB | apply zd | apply kL)
 refine kr1 func166 results166 rfl (fun w hs => ?_)
 exact ⟨_, RdL p q cap s, rfl, ⟨rfl, rfl⟩, hs.fitD⟩
theorem rd_Done (p : Nat) (q : Option Addr) (cap : Nat) (s : Rd) : Fn Tryz.prog 128 [.pointer (some ⟨p, 0, none⟩)].toArray (RdL p q cap s) (fun r post => r = .bool s.done ∧ post = RdL p q cap s) := by
 refine Fn.enter (N := 11) func128 rfl ntmps128 tK rfl (fun ρ L => ?_)
 repeat (first | apply ke | apply za | apply kB | apply zd | apply kL)
 refine kr<|ka rfl<|zm ?_
 repeat (first | apply ke | apply za | apply kB | apply zd | apply kL)
 repeat (first | apply ke | apply za | apply kB | apply zd | apply kL)
 refine kr<|km rfl<|kl (OpL.callE rfl (rd_Failed p q cap s)) ?_
 rintro _ _ ⟨_, ⟨rfl, rfl⟩, rfl⟩
 refine kq (q_not rfl)<|km rfl ?_
 refine KO.split 6 rfl (fun g6 => ?_) (fun g6 => ?_)
 ·refine km rfl<|kl (OpL.callE rfl (rd_Left p q cap s)) ?_
  rintro _ _ ⟨_, ⟨rfl, rfl⟩, rfl⟩
  refine kq (q_eq rfl rfl)<|kq (qT rfl rfl)<|ka rfl<|zm ?_
  repeat (first | apply ke | apply za | apply kB | apply zd | apply kL)
  refine kr1 func128 results128 rfl (fun w hs => ?_)
  refine ⟨_, RdL p q cap s, rfl, ⟨?_, rfl⟩, hs.fitD⟩
  simp [Rd.done, *] <;> (cases s.bs <;> simp)
 ·refine zq<|zq<|zq<|kq (qF rfl rfl)<|ka rfl<|zm ?_
  repeat (first | apply ke | apply za | apply kB | apply zd | apply kL)
  refine kr1 func128 results128 rfl (fun w hs => ?_)
  refine ⟨_, RdL p q cap s, rfl, ⟨?_, rfl⟩, hs.fitD⟩
  simp [Rd.done, *] <;> (cases s.bs <;> simp)
end Go.Proofs.YtkbhldicnamcdaaGreat.L
namespace Go.Proofs.YtkbhldicnamcdaaGreat.L
open Go Go.Proofs
attribute [local irreducible] pv fv pt fz RowF RowO rowP old pure_
theorem clone_u8 (A : HP) (q : Option Addr) (cap : Nat) (xs : List UInt8) (hA : IsRow A Kd.u8 q xs) (hb : xs.length ≤ 1099511627776) : Fn Tryz.prog 40 [.slice q xs.length cap].toArray [A]
  (fun r post => ∃ q' cap', r = .slice q' xs.length cap' ∧ post = [RowO Kd.u8 5 q' cap' xs, A] ∧ xs.length ≤ cap') := by
 refine Fn.enter (N := 8) func40 rfl ntmps40 tK rfl (fun ρ L => ?_)
 repeat (first | apply ke | apply za | apply kB | apply zd | apply kL)
 refine kr<|ka rfl<|zm ?_
 repeat (first | apply ke | apply za | apply kB | apply zd | apply kL)
 repeat (first | apply ke | apply za | apply kB | apply zd | apply kL)
 refine kr<|km rfl<|kq (q_slnil underlying23 rfl rfl)<|zm ?_
 repeat (first | apply ke | apply za | apply kB | apply zd | apply kL)
 refine K.ite rfl (fun h => ?_) (fun h => ?_)
 ·-- nil
  cases q with
  | some a => cases h
  | none =>
   refine K.fact (row_none hA (List.Mem.head _)) (fun e => ?_)
   subst e
   repeat (first | apply ke | apply za | apply kB | apply zd | apply kL)
   refine kr<|ka rfl<|zm ?_
   repeat (first | apply ke | apply za | apply kB | apply zd | apply kL)
   refine kr1 func40 results40 rfl (fun w hs => ?_)
   exact ⟨_, [RowO Kd.u8 5 none 0 [], A], rfl, ⟨none, 0, rfl, rfl, Nat.le_refl _⟩, (rowO_nil 5 hs).fitD⟩
 ·repeat (first | apply ke | apply za | apply kB | apply zd | apply kL)
  refine kr<|kl (l_slice0 Kd.u8 se_23) ?_
  rintro _ _ ⟨q0, rfl, rfl⟩
  refine km rfl<|kl (lX Kd.u8 se_23 underlying23 ⟨_, ze_5, rfl⟩ tD rfl rfl Pick.here hA (List.Mem.head _) rfl rfl (by simp; omega)) ?_
  rintro _ _ ⟨q', cap', rfl, rfl⟩
  refine ka rfl<|zm ?_
  repeat (first | apply ke | apply za | apply kB | apply zd | apply kL)
  refine kr1 func40 results40 rfl (fun w hs => ?_)
  exact ⟨_, [RowO Kd.u8 5 q' cap' xs, A], rfl, ⟨q', cap', rfl, rfl, rC (List.Mem.head _) w hs⟩, hs.fitD⟩
theorem rd_New (q : Option Addr) (cap : Nat) (xs : List UInt8) (hb : xs.length ≤ 1099511627776) : Fn Tryz.prog 123 [.slice q xs.length cap].toArray [RowF Kd.u8 q xs]
  (fun r post => ∃ p q' cap', r = .pointer (some ⟨p, 0, none⟩) ∧ post = RdL p q' cap' ⟨xs, false⟩ ∧ xs.length ≤ cap') := by
 refine Fn.enter (N := 7) func123 rfl ntmps123 tK rfl (fun ρ L => ?_)
 repeat (first | apply ke | apply za | apply kB | apply zd | apply kL)
 refine kr<|ka rfl<|zm ?_
 repeat (first | apply ke | apply za | apply kB | apply zd | apply kL)
 repeat (first | apply ke | apply za | apply kB | apply zd | apply kL)
 refine kr<|km rfl<|kl (OpL.callE rfl (clone_u8 _ q cap xs isF hb)) ?_
 rintro _ _ ⟨_, ⟨q', cap', rfl, rfl, hc'⟩, rfl⟩
 refine kq (q_build st_207 rfl tF)<|kl (l_box rfl rfl) ?_
 rintro _ _ ⟨b6, rfl, rfl⟩
 refine ka rfl<|zm ?_
 repeat (first | apply ke | apply za | apply kB | apply zd | apply kL)
 refine K.st (fun w h => rO (h.pick (.there .here))) ?_
 refine kr1 func123 results123 rfl (fun w hs => ?_)
 exact ⟨_, RdL b6 q' cap' ⟨xs, false⟩, rfl, ⟨_, q', cap', rfl, rfl, hc'⟩, hs.fitD⟩
abbrev WrL (p : Nat) (q : Option Addr) (cap : Nat) (xs : List UInt8) : List HP := [pv p 150 [.slice q xs.length cap], RowO Kd.u8 5 q cap xs]
theorem wr_number (p : Nat) (q : Option Addr) (cap : Nat) (xs : List UInt8) (n : Int) (m : Int) (h0 : 0 ≤ n) (hm : 0 ≤ m) (h8 : m ≤ 8) (hb : xs.length ≤ 1099511627776) : Fn Tryz.prog 151 [.pointer (some ⟨p, 0, none⟩), .int .u64 n, .int .i64 m].toArray (WrL p q cap xs)
  (fun r post => ∃ q' cap', r = .tuple #[] ∧ post = WrL p q' cap' (xs ++ leb n m.toNat)) := by
 refine Fn.enter (N := 26) func151 rfl ntmps151 tK rfl (fun ρ L => ?_)
 repeat (first | apply ke | apply za | apply kB | apply zd | apply kL)
 refine kr<|km rfl<|km rfl<|zm ?_
 repeat (first | apply ke | apply za | apply kB | apply zd | apply kL)
 refine K.rounds (ι := { i : Nat × Option Addr × Nat // i.1 ≤ m.toNat }) (fun i => ([(8, .int .i64 (i.1.1 : Int)), (7, .int .i64 m), (0, .pointer (some ⟨p, 0, none⟩)), (1, .int .u64 n)], WrL p i.1.2.1 i.1.2.2 (xs ++ leb n i.1.1) ++ L)) (fun i => m.toNat - i.1.1) ⟨(0, q, cap), Nat.zero_le _⟩ tS (fun w h => by rw [show leb n 0 = [] from rfl, List.append_nil]; exact h) (fun i ih => ?_)
 obtain ⟨⟨i, q', cap'⟩, hi⟩ := i
 replace hi : i ≤ m.toNat := hi
 have hlen := leb_length n i
 repeat (first | apply ke | apply za | apply kB | apply zd | apply kL)
 refine kr<|kq (q_lt rfl rfl)<|zm ?_
 repeat (first | apply ke | apply za | apply kB | apply zd | apply kL)
 refine K.dite rfl (fun h => ?_) (fun h => ?_)
 ·replace h : (i : Int) < m := h
  repeat (first | apply ke | apply za | apply kB | apply zd | apply kL)
  refine kr<|km rfl<|ka rfl<|zm ?_
  repeat (first | apply ke | apply za | apply kB | apply zd | apply kL)
  have hbw := byte_wrap n i tO h0
  repeat (first | apply ke | apply za | apply kB | apply zd | apply kL)
  refine K.draw [pv p 150 [.slice q' (xs ++ leb n i).length cap']] mixed<|dq 0 rfl (q_move rfl)<|dq 1 rfl (q_move rfl)<|dq 2 rfl (qN rfl)<|dq 3 rfl (qO fo_150_0 rfl)<|dq 4 rfl (qD ck_23 rfl)<|dq 5 rfl (q_move rfl)<|dq 6 rfl (q_move rfl)<|dq 7 rfl (q_mul rfl rfl tN tN)<|dq 8 rfl (q_shr rfl rfl tN)<|dq 9 rfl (q_convw underlying5 (by rw [underlying89]; rfl) rfl)<|dq1 10 rfl (l_slice sz_23_1 rfl tF) (.inr (by rintro _ _ ⟨b21, rfl, rfl⟩ w h; exact h.subD)) ?_
  rintro _ _ ⟨b21, rfl, rfl⟩
  refine D.st (fun w h => pv_rowF1 (k := Kd.u8) (byteAt n i) (fun g => congrArg (fun z => [Value.int .u8 z]) hbw) h)<|dq1 11 rfl (lX Kd.u8 se_23 underlying23 ⟨_, ze_5, rfl⟩ tD rfl rfl (Pick.there (Pick.there Pick.here)) isF (List.Mem.head _) rfl rfl (by simp; omega)) (.inr (by rintro _ _ ⟨q'', cap'', rfl, rfl⟩ w h; exact h.subD)) ?_
  rintro _ _ ⟨q'', cap'', rfl, rfl⟩
  refine dq1 12 rfl (OpQ.loud (qN rfl)) (.inl tK) ?_
  rintro _ _ ⟨rfl, rfl⟩
  refine dq1 13 rfl (OpQ.loud (qO fo_150_0 rfl)) (.inl tK) ?_
  rintro _ _ ⟨rfl, rfl⟩
  refine dq1N 14 rfl (lA ck_23 rfl rfl rfl tP tA) (.inl tK) ?_
  rintro _ _ ⟨rfl, rfl⟩
  refine D.done tK ?_
  repeat (first | apply ke | apply za | apply kB | apply zd | apply kL)
  repeat (first | apply ke | apply za | apply kB | apply zd | apply kL)
  refine kr<|kq (q_add rfl rfl tN tN)<|km rfl<|zm ?_
  repeat (first | apply ke | apply za | apply kB | apply zd | apply kL)
  rw [List.append_assoc, ← leb_succ]
  exact K.weak tS (fun w h => h.fitD) (ih ⟨(i + 1, q'', cap''), by show i + 1 ≤ m.toNat; omega⟩ (by show m.toNat - (i + 1) < m.toNat - i; omega))
 ·replace h : ¬ (i : Int) < m := h
  have hi' : i = m.toNat := by omega
  subst hi'
  refine K.exit rfl ?_
  repeat (first | apply ke | apply za | apply kB | apply zd | apply kL)
  refine K.fin (fn := Tryz.f151) func151 (fun a w hk hs => res0 results151) (fun w hs => ?_)
  exact ⟨_, WrL p q' cap' (xs ++ leb n m.toNat), rfl, ⟨q', cap', rfl, rfl⟩, hs.fitD⟩
theorem wr_Int (p : Nat) (q : Option Addr) (cap : Nat) (xs : List UInt8) (n : Int) (hb : xs.length ≤ 1099511627776) : Fn Tryz.prog 99 [.pointer (some ⟨p, 0, none⟩), .int .i64 n].toArray (WrL p q cap xs)
  (fun r post => ∃ q' cap', r = .tuple #[] ∧ post = WrL p q' cap' (xs ++ wInt n)) := by
 have hw : IntKind.u64.wrap n = u64 n := wrap_u64_mod n
 refine Fn.enter (N := 8) func99 rfl ntmps99 tK rfl (fun ρ L => ?_)
 repeat (first | apply ke | apply za | apply kB | apply zd | apply kL)
 refine kr<|km rfl<|km rfl<|kq (q_convw underlying89 (by rw [underlying3]; rfl) rfl)<|kl (OpL.callE rfl (wr_number p q cap xs (IntKind.u64.wrap n) 8 (by rw [hw]; exact Int.emod_nonneg _ tD) tD tD hb)) ?_
 rintro _ _ ⟨_, ⟨q', cap', rfl, rfl⟩, rfl⟩
 refine zm ?_
 repeat (first | apply ke | apply za | apply kB | apply zd | apply kL)
 refine K.fin (fn := Tryz.f99) func99 (fun a w hk hs => res0 results99) (fun w hs => ?_)
 rw [hw] at hs
 exact ⟨_, WrL p q' cap' (xs ++ wInt n), rfl, ⟨q', cap', rfl, rfl⟩, hs.fitD⟩
theorem wr_Flag (p : Nat) (q : Option Addr) (cap : Nat) (xs : List UInt8) (b : Bool) (hb : xs.length ≤ 1099511627776) : Fn Tryz.prog 101 [.pointer (some ⟨p, 0, none⟩), .bool b].toArray (WrL p q cap xs)
  (fun r post => ∃ q' cap', r = .tuple #[] ∧ post = WrL p q' cap' (xs ++ wFlag b)) := by
 cases b
 ·refine Fn.enter (N := 23) func101 rfl ntmps101 tK rfl (fun ρ L => ?_)
  repeat (first | apply ke | apply za | apply kB | apply zd | apply kL)
  refine kr<|km rfl<|zm ?_
  repeat (first | apply ke | apply za | apply kB | apply zd | apply kL)
  refine K.no rfl ?_
  repeat (first | apply ke | apply za | apply kB | apply zd | apply kL)
  refine kr<|km rfl<|km rfl<|kq (qN rfl)<|kq (qO fo_150_0 rfl)<|kq (qD ck_23 rfl)<|kl (l_slice sz_23_1 rfl tF) ?_
  rintro _ _ ⟨b19, rfl, rfl⟩
  refine KO.st (fun w h => pv_rowF1 (k := Kd.u8) (0 : UInt8) (fun g => rfl) h)<|kl (lX Kd.u8 se_23 underlying23 ⟨_, ze_5, rfl⟩ tD rfl rfl (Pick.there (Pick.there Pick.here)) isF (List.Mem.head _) rfl rfl (by simp; omega)) ?_
  rintro _ _ ⟨q', cap', rfl, rfl⟩
  refine kq (qN rfl)<|kq (qO fo_150_0 rfl)<|kN rfl (lA ck_23 rfl rfl rfl tP tA) ?_
  rintro _ _ ⟨rfl, rfl⟩
  refine zm ?_
  repeat (first | apply ke | apply za | apply kB | apply zd | apply kL)
  refine K.fin (fn := Tryz.f101) func101 (fun a w hk hs => res0 results101) (fun w hs => ?_)
  exact ⟨_, WrL p q' cap' (xs ++ wFlag false), rfl, ⟨q', cap', rfl, rfl⟩, hs.fitD⟩
 ·refine Fn.enter (N := 23) func101 rfl ntmps101 tK rfl (fun ρ L => ?_)
  repeat (first | apply ke | apply za | apply kB | apply zd | apply kL)
  refine kr<|km rfl<|zm ?_
  repeat (first | apply ke | apply za | apply kB | apply zd | apply kL)
  refine K.yes rfl ?_
  repeat (first | apply ke | apply za | apply kB | apply zd | apply kL)
  refine kr<|km rfl<|km rfl<|kq (qN rfl)<|kq (qO fo_150_0 rfl)<|kq (qD ck_23 rfl)<|kl (l_slice sz_23_1 rfl tF) ?_
  rintro _ _ ⟨b19, rfl, rfl⟩
  refine KO.st (fun w h => pv_rowF1 (k := Kd.u8) (1 : UInt8) (fun g => rfl) h)<|kl (lX Kd.u8 se_23 underlying23 ⟨_, ze_5, rfl⟩ tD rfl rfl (Pick.there (Pick.there Pick.here)) isF (List.Mem.head _) rfl rfl (by simp; omega)) ?_
  rintro _ _ ⟨q', cap', rfl, rfl⟩
  refine kq (qN rfl)<|kq (qO fo_150_0 rfl)<|kN rfl (lA ck_23 rfl rfl rfl tP tA) ?_
  rintro _ _ ⟨rfl, rfl⟩
  refine zm ?_
  repeat (first | apply ke | apply za | apply kB | apply zd | apply kL)
  refine K.fin (fn := Tryz.f101) func101 (fun a w hk hs => res0 results101) (fun w hs => ?_)
  exact ⟨_, WrL p q' cap' (xs ++ wFlag true), rfl, ⟨q', cap', rfl, rfl⟩, hs.fitD⟩
theorem wr_Bytes (p : Nat) (q : Option Addr) (cap : Nat) (xs : List UInt8) (hb : xs.length ≤ 1099511627776) : Fn Tryz.prog 103 [.pointer (some ⟨p, 0, none⟩)].toArray (WrL p q cap xs)
  (fun r post => ∃ q' cap', r = .slice q' xs.length cap' ∧ post = RowF Kd.u8 q' xs :: WrL p q cap xs ∧ xs.length ≤ cap') := by
 refine Fn.enter (N := 8) func103 rfl ntmps103 tK rfl (fun ρ L => ?_)
 repeat (first | apply ke | apply za | apply kB | apply zd | apply kL)
 refine kr<|ka rfl<|zm ?_
 repeat (first | apply ke | apply za | apply kB | apply zd | apply kL)
 repeat (first | apply ke | apply za | apply kB | apply zd | apply kL)
 refine kr<|km rfl<|kq (qN rfl)<|kq (qO fo_150_0 rfl)<|kq (qD ck_23 rfl)<|kl (OpL.callE rfl (clone_u8 _ q cap xs isO hb)) ?_
 rintro _ _ ⟨_, ⟨q', cap', rfl, rfl, hc'⟩, rfl⟩
 refine ka rfl<|zm ?_
 repeat (first | apply ke | apply za | apply kB | apply zd | apply kL)
 refine K.st (fun w h => rO h) ?_
 refine kr1 func103 results103 rfl (fun w hs => ?_)
 exact ⟨_, RowF Kd.u8 q' xs :: WrL p q cap xs, rfl, ⟨q', cap', rfl, rfl, hc'⟩, hs.fitD⟩
end Go.Proofs.YtkbhldicnamcdaaGreat.L
