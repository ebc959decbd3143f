/- The judgements of a walk: what a frame has still to do (K), a region whose order is fixed (KO), a region that draws its order (D); contracts (Fn). No program in sight. -/
import Derived.Test.YtlellgnklohclaaCore
namespace Go.Proofs.Ytlellgnklohclaa.L
open Go

/-! ### Frames known slot by slot -/
abbrev Env := List (Nat × Value)
def Env.get : Env → Nat → Option Value
  | [], _ => none
  | (d, v) :: E, t => match Nat.beq d t with | true => some v | false => Env.get E t
def Env.ev (E : Env) : Operand → Option Value
  | .tmp t => Env.get E t
  | .const v => some v
  | .global g => some (.pointer (some ⟨g, 0, none⟩))
  | .func f => some (.func (.func f) #[] #[])
def Env.put (E : Env) : Option Tmp → Value → Env
  | some d, v => (d, v) :: E
  | none, _ => E
structure Know (N : Nat) (E : Env) (a : Act) : Prop where
  defers : a.defers = []
  size : a.tmps.size = N
  slot : ∀ t v, Env.get E t = some v → a.tmps[t]? = some v
theorem Know.ev {N : Nat} {E : Env} {a : Act} (h : Know N E a) {x : Operand} {v : Value} (hx : Env.ev E x = some v) : a.eval x = v := by
  cases x with
  | tmp t => have := h.slot t v hx; simp [Act.eval, this]
  | const u => simpa [Env.ev, Act.eval] using hx
  | global g => simpa [Env.ev, Act.eval] using hx
  | func f => simpa [Env.ev, Act.eval] using hx
def dstOk (N : Nat) : Option Tmp → Bool
  | some d => Nat.ble (d + 1) N
  | none => true
theorem get_cons {d t : Nat} {u : Value} {E : Env} : Env.get ((d, u) :: E) t = if d = t then some u else Env.get E t := by
  show (match Nat.beq d t with | true => some u | false => Env.get E t) = _
  by_cases h : d = t
  · have : Nat.beq d t = true := by simp [h]
    rw [this, if_pos h]
  · have : Nat.beq d t = false := by
      cases hb : Nat.beq d t with
      | false => rfl
      | true => exact absurd (Nat.eq_of_beq_eq_true hb) h
    rw [this, if_neg h]
theorem Know.put {N : Nat} {E : Env} {a : Act} (h : Know N E a) {dst : Option Tmp} (hd : dstOk N dst = true) (v : Value) : Know N (Env.put E dst v) (a.put dst v) := by
  cases dst with
  | none => exact h
  | some d =>
    have hlt : d < N := Nat.le_of_ble_eq_true hd
    refine ⟨h.defers, by simp [Act.put, h.size], fun t u e => ?_⟩
    have e : Env.get ((d, v) :: E) t = some u := e
    rw [get_cons] at e
    by_cases hdt : d = t
    · subst hdt
      rw [if_pos rfl] at e
      simp [Act.put, h.size, hlt, Option.some.inj e]
    · rw [if_neg hdt] at e
      simp [Act.put, Array.getElem?_setIfInBounds_ne hdt, h.slot t u e]
/-- Less is known: each slot of E' by what E says of it. -/
def Env.sub (E E' : Env) : Prop := ∀ t v, Env.get E' t = some v → Env.get E t = some v
theorem Env.sub_nil (E : Env) : Env.sub E [] := fun _ _ h => by cases h
theorem Env.sub_cons {E E' : Env} {d : Nat} {v : Value} (h : Env.get E d = some v) (k : Env.sub E E') : Env.sub E ((d, v) :: E') := fun t u e => by
  rw [get_cons] at e
  by_cases hdt : d = t
  · subst hdt; rw [if_pos rfl] at e; rw [← Option.some.inj e]; exact h
  · rw [if_neg hdt] at e; exact k t u e
theorem Know.sub {N : Nat} {E E' : Env} {a : Act} (h : Know N E a) (k : Env.sub E E') : Know N E' a := ⟨h.defers, h.size, fun t v e => h.slot t v (k t v e)⟩

/-! ### What is fixed during one call -/
structure Fx where
  P : Program
  f : FuncId
  R : Ending → World → Prop
  N : Nat
  ρ : World

/-- From a frame with this to do the call comes to its end, as R says. -/
def Run (X : Fx) (k : List Item) (a : Act) (w : World) : Prop :=
  ∀ (b : Frame) (cs : List Frame), b.fn = X.f → b.kind = .normal →
    ∃ e w' fr, X.R e w' ∧ Comes X.P (lone (b.at a k) cs w) (lone fr cs w') e ∧ fr.fn = X.f ∧ fr.leaving X.P w' e
def K (X : Fx) (k : List Item) (E : Env) (L : List HP) : Prop := ∀ a w, Know X.N E a → St X.ρ L w → Run X k a w

section
variable {X : Fx} {k : List Item} {a : Act} {w : World} {E : Env} {L : List HP}
theorem Run.step {k' : List Item} {a' : Act} {w' : World} (hs : ∀ (b : Frame) (cs : List Frame), Steps X.P (lone (b.at a k) cs w) (lone (b.at a' k') cs w')) (h : Run X k' a' w') : Run X k a w :=
  fun b cs hf hk => let ⟨e, w'', fr, hR, hc, r⟩ := h b cs hf hk; ⟨e, w'', fr, hR, Comes.of_steps (hs b cs) hc, r⟩
/-- A piece of code by the kit's 'wp'. -/
theorem Run.code {c : Code} {Q : Exit → Act → World → Prop} (hq : ∀ e a w, Q e a w → e = .normal ∧ Run X k a w) (h : c.wp X.P Q a w) : Run X (.code c :: k) a w := by
  intro b cs hf hk
  obtain ⟨e, a', w', q, harr⟩ := h b k cs
  obtain ⟨rfl, hr⟩ := hq _ _ _ q
  obtain ⟨e, w'', fr, hR, hc, r⟩ := hr b cs hf hk
  exact ⟨e, w'', fr, hR, Comes.of_steps harr hc, r⟩

theorem K.seq {x y : Code} (h : K X (.code x :: .code y :: k) E L) : K X (.code (.seq x y) :: k) E L :=
  fun a w hk hs => Run.step (fun _ _ => .one step_seq) (h a w hk hs)
theorem K.skip (h : K X k E L) : K X (.code .skip :: k) E L := fun a w hk hs => Run.step (fun _ _ => .one step_skip) (h a w hk hs)
theorem K.label {l : Nat} (h : K X k E L) : K X (.code (.label l) :: k) E L := fun a w hk hs => Run.step (fun _ _ => .one step_label) (h a w hk hs)
theorem K.block {id : Nat} {c : Code} (h : K X (.code c :: .inBlock id :: k) E L) : K X (.code (.block id c) :: k) E L := fun a w hk hs => Run.step (fun _ _ => .one step_block) (h a w hk hs)
theorem K.inBlock {id : Nat} (h : K X k E L) : K X (.inBlock id :: k) E L := fun a w hk hs => Run.step (fun _ _ => .one step_inBlock) (h a w hk hs)
theorem K.exit {id : Nat} {k' : List Item} (he : exitTo id k = some k') (h : K X k' E L) : K X (.code (.exit id) :: k) E L := fun a w hk hs => Run.step (fun _ _ => .one (step_exit he)) (h a w hk hs)
theorem K.cond {c : Operand} {x y : Code} {t : Bool} (hc : Env.ev E c = some (.bool t)) (h : K X (.code (if t then x else y) :: k) E L) : K X (.code (.cond c x y) :: k) E L :=
  fun a w hk hs => Run.step (fun _ _ => .one (step_cond (hk.ev hc))) (h a w hk hs)
theorem K.yes {c : Operand} {x y : Code} (hc : Env.ev E c = some (.bool true)) (h : K X (.code x :: k) E L) : K X (.code (.cond c x y) :: k) E L := K.cond hc h
theorem K.no {c : Operand} {x y : Code} (hc : Env.ev E c = some (.bool false)) (h : K X (.code y :: k) E L) : K X (.code (.cond c x y) :: k) E L := K.cond hc h
/-- A test whose value is b: both ways. -/
theorem K.ite {c : Operand} {x y : Code} {b : Bool} (hc : Env.ev E c = some (.bool b)) (h1 : b = true → K X (.code x :: k) E L) (h2 : b = false → K X (.code y :: k) E L) : K X (.code (.cond c x y) :: k) E L := by
  cases b
  · exact K.no hc (h2 rfl)
  · exact K.yes hc (h1 rfl)
theorem K.dite {c : Operand} {x y : Code} {p : Prop} {dp : Decidable p} (hc : Env.ev E c = some (.bool (@decide p dp))) (h1 : p → K X (.code x :: k) E L) (h2 : ¬ p → K X (.code y :: k) E L) : K X (.code (.cond c x y) :: k) E L :=
  K.ite hc (fun h => h1 (of_decide_eq_true h)) (fun h => h2 (of_decide_eq_false h))
theorem K.loop {c : Code} (h : K X (.code c :: .inLoop c :: k) E L) : K X (.code (.loop c) :: k) E L := fun a w hk hs => Run.step (fun _ _ => .one step_loop) (h a w hk hs)
theorem K.inLoop {c : Code} (h : K X (.code c :: .inLoop c :: k) E L) : K X (.inLoop c :: k) E L := fun a w hk hs => Run.step (fun _ _ => .one step_inLoop) (h a w hk hs)
/-- A loop: at its head one of the states of a family, each with a measure; a round leads to a state of less measure, or out. -/
theorem K.rounds {c : Code} {ι : Type} (I : ι → Env × List HP) (μ : ι → Nat) (i : ι) (hE : Env.sub E (I i).1) (hL : ∀ w, St X.ρ L w → St X.ρ (I i).2 w)
    (round : ∀ i, (∀ j, μ j < μ i → K X (.inLoop c :: k) (I j).1 (I j).2) → K X (.code c :: .inLoop c :: k) (I i).1 (I i).2) : K X (.code (.loop c) :: k) E L := by
  have key : ∀ n j, μ j = n → K X (.code c :: .inLoop c :: k) (I j).1 (I j).2 := by
    intro n
    induction n using Nat.strongRecOn with
    | _ n ih =>
      intro j hj
      exact round j (fun l hl => K.inLoop (ih (μ l) (hj ▸ hl) l rfl))
  exact K.loop (fun a w hk hs => key _ i rfl a w (hk.sub hE) (hL w hs))
/-- What is known may be forgotten, or said otherwise. -/
theorem K.weak {E' : Env} {L' : List HP} (hE : Env.sub E E') (hL : ∀ w, St X.ρ L w → St X.ρ L' w) (h : K X k E' L') : K X k E L := fun a w hk hs => h a w (hk.sub hE) (hL w hs)
theorem K.st {L' : List HP} (hL : ∀ w, St X.ρ L w → St X.ρ L' w) (h : K X k E L') : K X k E L := fun a w hk hs => h a w hk (hL w hs)
theorem K.ex {ι : Type} {B : ι → List HP} (hL : ∀ w, St X.ρ L w → ∃ i, St X.ρ (B i) w) (h : ∀ i, K X k E (B i)) : K X k E L := fun a w hk hs => let ⟨i, hi⟩ := hL w hs; h i a w hk hi
theorem K.fact {φ : Prop} (hL : ∀ w, St X.ρ L w → φ) (h : φ → K X k E L) : K X k E L := fun a w hk hs => h (hL w hs) a w hk hs
/-- The end. -/
theorem K.ret {fn : Func} {v : Value} (hf : X.P.funcs[X.f]? = some fn) (hv : ∀ a w, Know X.N E a → St X.ρ L w → (results fn a.tmps).run X.P w = .ok v w)
    (hR : ∀ w, St X.ρ L w → X.R (.returned v) w) : K X (.code .ret :: k) E L := fun a w hk hs b cs hf' hk' =>
  ⟨.returned v, w, _, hR w hs, .one step_ret, hf', rfl, hk.defers, hk', fn, by show X.P.funcs[b.fn]? = _; rw [hf']; exact hf, hv a w hk hs⟩
theorem K.fin {fn : Func} {v : Value} (hf : X.P.funcs[X.f]? = some fn) (hv : ∀ a w, Know X.N E a → St X.ρ L w → (results fn a.tmps).run X.P w = .ok v w)
    (hR : ∀ w, St X.ρ L w → X.R (.returned v) w) : K X [] E L := fun a w hk hs b cs hf' hk' =>
  ⟨.returned v, w, _, hR w hs, .one step_end, hf', rfl, hk.defers, hk', fn, by show X.P.funcs[b.fn]? = _; rw [hf']; exact hf, hv a w hk hs⟩
end

/-! ### Results -/
section
variable {P : Program} {fn : Func} {N : Nat} {E : Env} {a : Act} {w : World}
theorem res0 (h : fn.results = #[]) : (results fn a.tmps).run P w = .ok (.tuple #[]) w := by simp [results, h]
theorem res1 {t : Nat} {v : Value} (h : fn.results = #[.tmp t]) (hk : Know N E a) (h1 : Env.get E t = some v) : (results fn a.tmps).run P w = .ok v w := by
  have := hk.slot _ _ h1
  simp [results, h, this]
theorem res2 {t u : Nat} {v x : Value} (h : fn.results = #[.tmp t, .tmp u]) (hk : Know N E a) (h1 : Env.get E t = some v) (h2 : Env.get E u = some x) : (results fn a.tmps).run P w = .ok (.tuple #[v, x]) w := by
  have e1 := hk.slot _ _ h1
  have e2 := hk.slot _ _ h2
  simp [results, h, e1, e2]
theorem res3 {t u s : Nat} {v x y : Value} (h : fn.results = #[.tmp t, .tmp u, .tmp s]) (hk : Know N E a) (h1 : Env.get E t = some v) (h2 : Env.get E u = some x) (h3 : Env.get E s = some y) : (results fn a.tmps).run P w = .ok (.tuple #[v, x, y]) w := by
  have e1 := hk.slot _ _ h1
  have e2 := hk.slot _ _ h2
  have e3 := hk.slot _ _ h3
  simp [results, h, e1, e2, e3]
end

/-! ### The operations of a region -/
def noQ : Exit → Act → World → Prop := fun _ _ _ => False
def Env.yield (E : Env) (ops : Array Oper) (j : Nat) : Option Bool :=
  match ((ops[j]?).bind (·.dst)).bind (Env.get E) with
  | some (.bool b) => some b
  | _ => none
/-- The guard says 'want'; the slot lies in the frame. -/
def okOp (N : Nat) (ops : Array Oper) (E : Env) (o : Oper) (want : Bool) : Bool :=
  dstOk N o.dst && match o.guard with
    | none => want
    | some (j, g) => match Env.yield E ops j with
      | some b => (b == g) == want
      | none => false
theorem okOp_dst {N : Nat} {ops : Array Oper} {E : Env} {o : Oper} {want : Bool} (h : okOp N ops E o want = true) : dstOk N o.dst = true := by
  unfold okOp at h
  rw [Bool.and_eq_true] at h
  exact h.1
theorem okOp_wanted {N : Nat} {ops : Array Oper} {E : Env} {o : Oper} {want : Bool} {a : Act} (hk : Know N E a) (h : okOp N ops E o want = true) : Region.wanted o (yielded ops a.tmps) = want := by
  unfold okOp at h
  rw [Bool.and_eq_true] at h
  obtain ⟨_, h⟩ := h
  unfold Region.wanted
  cases hg : o.guard with
  | none => rw [hg] at h; simpa using h.symm
  | some p =>
    obtain ⟨j, g⟩ := p
    rw [hg] at h
    simp only at h ⊢
    unfold Env.yield at h
    unfold yielded
    cases hd : (ops[j]?).bind (·.dst) with
    | none => rw [hd] at h; simp at h
    | some d =>
      rw [hd] at h
      simp only [Option.bind_some] at h ⊢
      cases hv : Env.get E d with
      | none => rw [hv] at h; simp at h
      | some v =>
        rw [hv] at h
        rw [hk.slot d v hv]
        cases v <;> simp_all

/-- In every such frame and world the operation yields v and does nothing else. -/
def OpQ (X : Fx) (o : Oper) (E : Env) (L : List HP) (v : Value) : Prop :=
  ∀ a w, Know X.N E a → St X.ρ L w → (execOp a.eval o).run X.P w = .ok (.value v) w
/-- The operation ends with a value and a list as Φ says. -/
def OpL (X : Fx) (o : Oper) (E : Env) (L : List HP) (Φ : Value → List HP → Prop) : Prop :=
  ∀ a w, Know X.N E a → St X.ρ L w → o.wp X.P a w (fun a' w' => ∃ v L', Φ v L' ∧ a' = a.put o.dst v ∧ St X.ρ L' w') noQ
theorem OpQ.loud {X : Fx} {o : Oper} {E : Env} {L : List HP} {v : Value} (h : OpQ X o E L v) : OpL X o E L (fun v' L' => v' = v ∧ L' = L) := fun a w hk hs => by
  unfold Oper.wp
  rw [h a w hk hs]
  exact ⟨v, L, ⟨rfl, rfl⟩, rfl, hs⟩
theorem OpL.mono {X : Fx} {o : Oper} {E : Env} {L : List HP} {Φ Ψ : Value → List HP → Prop} (h : OpL X o E L Φ) (hi : ∀ v L', Φ v L' → Ψ v L') : OpL X o E L Ψ :=
  fun a w hk hs => Oper.wp_mono (fun _ _ ⟨v, L', hf, r⟩ => ⟨v, L', hi v L' hf, r⟩) (h a w hk hs)

def wpL (P : Program) (ops : Array Oper) (Q : Act → World → Prop) : List Oper → Act → World → Prop
  | [], a, w => Q a w
  | o :: l, a, w => if Region.wanted o (yielded ops a.tmps) then o.wp P a w (wpL P ops Q l) noQ else wpL P ops Q l (a.put o.dst undef) w
def Nrm (Q : Act → World → Prop) : Exit → Act → World → Prop
  | .normal, a, w => Q a w
  | _, _, _ => False
theorem Oper.wp_noQ {P : Program} {o : Oper} {a : Act} {w : World} {J : Act → World → Prop} {Q : Exit → Act → World → Prop} (h : o.wp P a w J noQ) : o.wp P a w J Q := by
  unfold Oper.wp at *
  generalize (execOp a.eval o).run P w = r at *
  cases r with
  | ok n w' =>
    cases n <;> simp only [Oper.upon] at h ⊢ <;> try exact h
    exact Calls.mono h (fun e w'' he => by
      cases e with
      | returned v => exact he
      | panicked c => exact (show False from he).elim
      | outgrown => obtain ⟨_, _, h'⟩ := (show LetsOut noQ from he); exact (show False from h').elim)
  | halt x w' => cases x <;> simp only [Oper.upon, noQ] at h
theorem wpL_ops {P : Program} {ops : Array Oper} {Q : Act → World → Prop} : ∀ (n i : Nat), i + n = ops.size → ∀ (a : Act) (w : World), wpL P ops Q (ops.toList.drop i) a w → wpOps P ops (Nrm Q) (List.range' i n) a w
  | 0, i, hi, a, w, h => by
    rw [List.drop_eq_nil_of_le (by simp; omega)] at h
    exact h
  | n + 1, i, hi, a, w, h => by
    have hlt : i < ops.toList.length := by simp; omega
    have e : ops.toList.drop i = ops[i]'(by simpa using hlt) :: ops.toList.drop (i + 1) := by
      rw [List.drop_eq_getElem_cons hlt]; rfl
    have ho : ops[i]? = some (ops[i]'(by simpa using hlt)) := Array.getElem?_eq_getElem _
    rw [e] at h
    simp only [wpL] at h
    rw [List.range'_succ]
    simp only [wpOps, ho]
    split
    · rename_i hw
      rw [if_pos hw] at h
      exact .inl (Oper.wp_mono (fun a w h => wpL_ops n (i + 1) (by omega) a w h) (Oper.wp_noQ h))
    · rename_i hw
      rw [if_neg hw] at h
      exact wpL_ops n (i + 1) (by omega) _ _ h
/-- A region in its order: l is still to come. -/
def KO (X : Fx) (ops : Array Oper) (l : List Oper) (k : List Item) (E : Env) (L : List HP) : Prop :=
  ∀ a w, Know X.N E a → St X.ρ L w → wpL X.P ops (Run X k) l a w
section
variable {X : Fx} {k : List Item} {E : Env} {L : List HP} {ops : Array Oper} {l : List Oper}
theorem K.region {id : Nat} (h : KO X l.toArray l k E L) : K X (.code (.region id l.toArray false) :: k) E L := fun a w hk hs =>
  Run.code (Q := Nrm (Run X k)) (fun e _ _ q => by cases e <;> first | exact ⟨rfl, q⟩ | exact q.elim)
    (wp_region (by rw [List.range_eq_range']; exact wpL_ops _ 0 (by simp) a w (by simpa using h a w hk hs)))
theorem KO.done (h : K X k E L) : KO X ops [] k E L := h
variable {d : Tmp} {op : Op} {ty : TypeId} {pos : String} {af : Array Edge} {gd : Option (Nat × Bool)}
theorem KO.q {v : Value} (hok : okOp X.N ops E ⟨some d, op, ty, pos, af, gd⟩ true = true) (hq : OpQ X ⟨some d, op, ty, pos, af, gd⟩ E L v) (h : KO X ops l k ((d, v) :: E) L) : KO X ops (⟨some d, op, ty, pos, af, gd⟩ :: l) k E L := fun a w hk hs => by
  simp only [wpL, okOp_wanted hk hok, if_true]
  unfold Oper.wp
  rw [hq a w hk hs]
  exact h _ _ (hk.put (okOp_dst hok) v) hs
theorem KO.skip (hok : okOp X.N ops E ⟨some d, op, ty, pos, af, gd⟩ false = true) (h : KO X ops l k ((d, undef) :: E) L) : KO X ops (⟨some d, op, ty, pos, af, gd⟩ :: l) k E L := fun a w hk hs => by
  simp only [wpL, okOp_wanted hk hok, Bool.false_eq_true, if_false]
  exact h _ _ (hk.put (okOp_dst hok) undef) hs
theorem KO.loud {Φ : Value → List HP → Prop} (hok : okOp X.N ops E ⟨some d, op, ty, pos, af, gd⟩ true = true) (hl : OpL X ⟨some d, op, ty, pos, af, gd⟩ E L Φ) (h : ∀ v L', Φ v L' → KO X ops l k ((d, v) :: E) L') : KO X ops (⟨some d, op, ty, pos, af, gd⟩ :: l) k E L := fun a w hk hs => by
  simp only [wpL, okOp_wanted hk hok, if_true]
  refine Oper.wp_mono ?_ (hl a w hk hs)
  rintro a' w' ⟨v, L', hf, rfl, hs'⟩
  exact h v L' hf _ _ (hk.put (okOp_dst hok) v) hs'
theorem KO.loudN {Φ : Value → List HP → Prop} (hok : okOp X.N ops E ⟨none, op, ty, pos, af, gd⟩ true = true) (hl : OpL X ⟨none, op, ty, pos, af, gd⟩ E L Φ) (h : ∀ v L', Φ v L' → KO X ops l k E L') : KO X ops (⟨none, op, ty, pos, af, gd⟩ :: l) k E L := fun a w hk hs => by
  simp only [wpL, okOp_wanted hk hok, if_true]
  refine Oper.wp_mono ?_ (hl a w hk hs)
  rintro a' w' ⟨v, L', hf, rfl, hs'⟩
  exact h v L' hf _ _ (hk.put (okOp_dst hok) v) hs'
theorem KO.st {L' : List HP} (hL : ∀ w, St X.ρ L w → St X.ρ L' w) (h : KO X ops l k E L') : KO X ops l k E L := fun a w hk hs => h a w hk (hL w hs)
theorem KO.weak {E' : Env} {L' : List HP} (hE : Env.sub E E') (hL : ∀ w, St X.ρ L w → St X.ρ L' w) (h : KO X ops l k E' L') : KO X ops l k E L := fun a w hk hs => h a w (hk.sub hE) (hL w hs)
theorem KO.fact {φ : Prop} (hL : ∀ w, St X.ρ L w → φ) (h : φ → KO X ops l k E L) : KO X ops l k E L := fun a w hk hs => h (hL w hs) a w hk hs
theorem KO.ex {ι : Type} {B : ι → List HP} (hL : ∀ w, St X.ρ L w → ∃ i, St X.ρ (B i) w) (h : ∀ i, KO X ops l k E (B i)) : KO X ops l k E L := fun a w hk hs => let ⟨i, hi⟩ := hL w hs; h i a w hk hi
end

/-! ### A region that draws its order -/
def waitsFor (md : Region.Mode) (ops : Array Oper) (j i : Nat) : Bool :=
  match ops[j]? with
  | some o => o.after.any fun e => Region.binds md e && e.on == i
  | none => false
/-- Whatever order is picked from here on; those of 'early' have been taken before their time: behind what does not wait for all of them S holds. -/
def wpAnyT (P : Program) (md : Region.Mode) (ops : Array Oper) (Q : Exit → Act → World → Prop) (S : World → Prop) : Nat → List Nat → Array Bool → Act → World → Prop
  | 0, _, listed, a, w => Region.ready md ops listed = [] ∧ Q .normal a w
  | fuel + 1, early, listed, a, w =>
    (Region.ready md ops listed = [] → Q .normal a w) ∧
    ∀ j ∈ Region.ready md ops listed, wpOp P ops Q j (fun a' w' => ((early.all fun i => waitsFor md ops j i) = true ∨ S w') ∧ wpAnyT P md ops Q S fuel (early.filter fun i => !waitsFor md ops j i) (listed.setIfInBounds j true) a' w') a w
section
variable {P : Program} {md : Region.Mode} {ops : Array Oper} {Q : Exit → Act → World → Prop} {S : World → Prop}
theorem wpAnyT_any : ∀ (fuel : Nat) (early : List Nat) (listed : Array Bool) (a : Act) (w : World), wpAnyT P md ops Q S fuel early listed a w → wpAny P md ops Q fuel listed a w
  | 0, _, _, _, _, h => h
  | fuel + 1, _, _, _, _, h => ⟨h.1, fun j hj => wpOp_mono (fun a' w' h' => wpAnyT_any fuel _ _ a' w' h'.2) (h.2 j hj)⟩
theorem wpAnyT_less : ∀ (fuel : Nat) (early early' : List Nat) (listed : Array Bool) (a : Act) (w : World), (∀ i, i ∈ early' → i ∈ early) → wpAnyT P md ops Q S fuel early listed a w → wpAnyT P md ops Q S fuel early' listed a w
  | 0, _, _, _, _, _, _, h => h
  | fuel + 1, _, _, _, _, _, hs, h => ⟨h.1, fun j hj => wpOp_mono (fun a' w' h' => ⟨h'.1.imp (fun h => List.all_eq_true.2 fun i hi => List.all_eq_true.1 h i (hs i hi)) id,
      wpAnyT_less fuel _ _ _ a' w' (fun i hi => List.mem_filter.2 ⟨hs i (List.mem_filter.1 hi).1, (List.mem_filter.1 hi).2⟩) h'.2⟩) (h.2 j hj)⟩
theorem not_waits_of_ready {i j : Nat} {listed : Array Bool} (hi : listed.getD i true = false) (hj : j ∈ Region.ready md ops listed) : waitsFor md ops j i = false := by
  obtain ⟨_, o, ho, hall⟩ := mem_ready.1 hj
  unfold waitsFor
  simp only [ho]
  cases hb : o.after.any fun e => Region.binds md e && e.on == i with
  | false => rfl
  | true =>
    obtain ⟨e, he, hbe⟩ := Array.any_eq_true'.1 hb
    simp only [Bool.and_eq_true, beq_iff_eq] at hbe
    have h1 := hall e he hbe.1
    rw [hbe.2] at h1
    rcases Nat.lt_or_ge i listed.size with h' | h'
    · simp [h'] at hi h1; rw [hi] at h1; cases h1
    · simp [Array.getElem?_eq_none h'] at h1
theorem wpAnyT_first {i : Nat} {oi : Oper} {v : Value} (hi : ops[i]? = some oi) (hsel : ∀ (j : Nat) (o : Oper) cs b, ops[j]? = some o → o.op ≠ .select cs b)
    (hQ : ∀ c a w, Q (.panic c) (a.put oi.dst v) w → Q (.panic c) a w) :
    ∀ (fuel : Nat) (early : List Nat) (listed : Array Bool) (a : Act) (w : World),
      (∀ j oj, ops[j]? = some oj → j ≠ i → listed.getD j true = false → (∀ e ∈ oj.after, Region.binds md e = true → e.on ≠ i) → oi.apart ops oj = true) →
      i ∈ Region.ready md ops listed → YieldsIf P ops S oi v a → S w →
      wpAnyT P md ops Q S fuel (i :: early) (listed.setIfInBounds i true) (a.put oi.dst v) w → wpAnyT P md ops Q S (fuel + 1) early listed a w := by
  intro fuel
  induction fuel with
  | zero =>
    intro early listed a w _ hr hy hS H
    refine ⟨fun h => (by rw [h] at hr; cases hr), fun j hj => ?_⟩
    by_cases hji : j = i
    · subst hji
      exact hy.wpOp hi hS ⟨.inr hS, wpAnyT_less 0 _ _ _ _ _ (fun _ h => List.mem_cons_of_mem _ (List.mem_filter.1 h).1) H⟩
    · have := ready_mono hj hji
      rw [H.1] at this
      cases this
  | succ fuel ih =>
    intro early listed a w hfree hr hy hS H
    refine ⟨fun h => (by rw [h] at hr; cases hr), fun j hj => ?_⟩
    by_cases hji : j = i
    · subst hji
      exact hy.wpOp hi hS ⟨.inr hS, wpAnyT_less _ _ _ _ _ _ (fun _ h => List.mem_cons_of_mem _ (List.mem_filter.1 h).1) H⟩
    · have h1 := H.2 j (ready_mono hj hji)
      have hnw := not_waits_of_ready (mem_ready.1 hr).1 hj
      obtain ⟨hjun, oj, hoj, hall⟩ := mem_ready.1 hj
      have hnot : ∀ e ∈ oj.after, Region.binds md e = true → e.on ≠ i := fun e he hb heq => by
        unfold waitsFor at hnw
        simp only [hoj] at hnw
        have : (oj.after.any fun e => Region.binds md e && e.on == i) = true := Array.any_eq_true'.2 ⟨e, he, by simp [hb, heq]⟩
        rw [this] at hnw
        cases hnw
      have h2 := wpOp_putIf hoj (hfree j oj hoj hji hjun hnot) (fun cs b => hsel i oi cs b hi) (fun cs b => hsel j oj cs b hoj) hQ hy h1
      have hfree' : ∀ k ok, ops[k]? = some ok → k ≠ i → (listed.setIfInBounds j true).getD k true = false →
          (∀ e ∈ ok.after, Region.binds md e = true → e.on ≠ i) → oi.apart ops ok = true := fun k ok hk hki hun hno => by
        refine hfree k ok hk hki ?_ hno
        by_cases hjk : j = k
        · subst hjk; exact hjun
        · rw [getD_set_ne true hjk] at hun; exact hun
      refine wpOp_mono (fun a' w' h3 => ?_) h2
      obtain ⟨hy3, hS3, h4⟩ := h3
      have hSw : S w' := hS3.resolve_left (by simp [hnw])
      have hfil : (List.filter (fun i => !waitsFor md ops j i) (i :: early)) = i :: early.filter (fun i => !waitsFor md ops j i) := by simp [hnw]
      rw [hfil] at h4
      refine ⟨.inr hSw, ih _ (listed.setIfInBounds j true) a' w' hfree' (ready_mono hr (Ne.symm hji)) hy3 hSw ?_⟩
      rw [Array.setIfInBounds_comm _ _ hji]
      exact h4
theorem wpAnyT_all {rs : List Nat} {fuel : Nat} {early : List Nat} {listed : Array Bool} {a : Act} {w : World} (hr : Region.ready md ops listed = rs) (hne : rs ≠ [])
    (h : ∀ j ∈ rs, wpOp P ops Q j (fun a' w' => ((early.all fun i => waitsFor md ops j i) = true ∨ S w') ∧ wpAnyT P md ops Q S fuel (early.filter fun i => !waitsFor md ops j i) (listed.setIfInBounds j true) a' w') a w) : wpAnyT P md ops Q S (fuel + 1) early listed a w :=
  ⟨fun h0 => absurd (hr ▸ h0) hne, hr ▸ h⟩
end

/-- The region draws: the operations of 'listed' have been carried out; those of 'early' before their time, where Sc held. -/
def D (X : Fx) (ops : Array Oper) (k : List Item) (Sc : List HP) (fuel : Nat) (early : List Nat) (listed : Array Bool) (E : Env) (L : List HP) : Prop :=
  ∀ a w, Know X.N E a → St X.ρ L w → wpAnyT X.P .any ops (Nrm (Run X k)) (fun w' => St X.ρ Sc w') fuel early listed a w
/-- Operation i may be taken now. -/
def takeOk (ops : Array Oper) (listed : Array Bool) (i : Nat) : Bool := Region.noSelect ops && Region.free .any ops listed i && (Region.ready .any ops listed).contains i
section
variable {X : Fx} {k : List Item} {E : Env} {L Sc : List HP} {ops : Array Oper} {fuel : Nat} {early : List Nat} {listed : Array Bool}
theorem K.draw {id : Nat} {l : List Oper} (Sc : List HP) (hm : X.P.follows .mixedOrders = true) (h : D X l.toArray k Sc l.length [] (Array.replicate l.length false) E L) : K X (.code (.region id l.toArray true) :: k) E L := fun a w hk hs =>
  Run.code (Q := Nrm (Run X k)) (fun e _ _ q => by cases e <;> first | exact ⟨rfl, q⟩ | exact q.elim)
    (wp_region_any hm (wpAnyT_any _ [] _ _ _ (by rw [List.size_toArray]; exact h a _ hk (hs.drewN _))))
theorem D.done (hr : Region.ready .any ops listed = []) (h : K X k E L) : D X ops k Sc fuel early listed E L := fun a w hk hs => by
  cases fuel with
  | zero => exact ⟨hr, h a w hk hs⟩
  | succ n => exact ⟨fun _ => h a w hk hs, by rw [hr]; simp⟩
/-- Number i yields v in every world that meets Sc: it is taken first. -/
theorem D.q {v : Value} (i : Nat) {d : Tmp} {op : Op} {ty : TypeId} {pos : String} {af : Array Edge} {gd : Option (Nat × Bool)} (ho : ops[i]? = some ⟨some d, op, ty, pos, af, gd⟩) (ht : takeOk ops listed i = true) (hok : okOp X.N ops E ⟨some d, op, ty, pos, af, gd⟩ true = true) (hq : OpQ X ⟨some d, op, ty, pos, af, gd⟩ E Sc v) (hsub : ∀ w, St X.ρ L w → St X.ρ Sc w)
    (h : D X ops k Sc fuel (i :: early) (listed.setIfInBounds i true) ((d, v) :: E) L) : D X ops k Sc (fuel + 1) early listed E L := fun a w hk hs => by
  simp only [takeOk, Bool.and_eq_true] at ht
  exact wpAnyT_first ho (Region.noSelect_spec ht.1.1) (fun _ _ _ h => h) fuel early listed a w (Region.free_spec ho ht.1.2) (by simpa using ht.2)
    (.inl ⟨okOp_wanted hk hok, fun w' hw' => hq a w' hk hw'⟩) (hsub w hs) (h _ _ (hk.put (okOp_dst hok) v) hs)
theorem D.skip (i : Nat) {d : Tmp} {op : Op} {ty : TypeId} {pos : String} {af : Array Edge} {gd : Option (Nat × Bool)} (ho : ops[i]? = some ⟨some d, op, ty, pos, af, gd⟩) (ht : takeOk ops listed i = true) (hok : okOp X.N ops E ⟨some d, op, ty, pos, af, gd⟩ false = true) (hsub : ∀ w, St X.ρ L w → St X.ρ Sc w)
    (h : D X ops k Sc fuel (i :: early) (listed.setIfInBounds i true) ((d, undef) :: E) L) : D X ops k Sc (fuel + 1) early listed E L := fun a w hk hs => by
  simp only [takeOk, Bool.and_eq_true] at ht
  exact wpAnyT_first ho (Region.noSelect_spec ht.1.1) (fun _ _ _ h => h) fuel early listed a w (Region.free_spec ho ht.1.2) (by simpa using ht.2)
    (.inr ⟨okOp_wanted hk hok, rfl⟩) (hsub w hs) (h _ _ (hk.put (okOp_dst hok) undef) hs)
/-- Whichever comes up. -/
def DAll (X : Fx) (ops : Array Oper) (k : List Item) (Sc : List HP) (fuel : Nat) (early : List Nat) (listed : Array Bool) (E : Env) (L : List HP) (rs : List Nat) : Prop :=
  ∀ j ∈ rs, ∀ a w, Know X.N E a → St X.ρ L w → wpOp X.P ops (Nrm (Run X k)) j (fun a' w' => ((early.all fun i => waitsFor .any ops j i) = true ∨ St X.ρ Sc w') ∧ wpAnyT X.P .any ops (Nrm (Run X k)) (fun w' => St X.ρ Sc w') fuel (early.filter fun i => !waitsFor .any ops j i) (listed.setIfInBounds j true) a' w') a w
theorem D.all {rs : List Nat} (hr : Region.ready .any ops listed = rs) (hne : rs.isEmpty = false) (h : DAll X ops k Sc fuel early listed E L rs) : D X ops k Sc (fuel + 1) early listed E L := fun a w hk hs =>
  wpAnyT_all hr (by intro e; rw [e] at hne; cases hne) (fun j hj => h j hj a w hk hs)
theorem DAll.nil : DAll X ops k Sc fuel early listed E L [] := fun _ h => by cases h
/-- One that comes up: behind it Sc holds, or it waits for all that were taken early. -/
theorem DAll.any {Φ : Value → List HP → Prop} {i : Nat} {rs : List Nat} {o : Oper} (ho : ops[i]? = some o) (hok : okOp X.N ops E o true = true) (hl : OpL X o E L Φ)
    (hp : (early.all fun j => waitsFor .any ops i j) = true ∨ ∀ v L', Φ v L' → ∀ w, St X.ρ L' w → St X.ρ Sc w)
    (h : ∀ v L', Φ v L' → D X ops k Sc fuel (early.filter fun j => !waitsFor .any ops i j) (listed.setIfInBounds i true) (Env.put E o.dst v) L')
    (hs : DAll X ops k Sc fuel early listed E L rs) : DAll X ops k Sc fuel early listed E L (i :: rs) := fun j hj => by
  rcases List.mem_cons.1 hj with rfl | hj
  · intro a w hk hst
    unfold wpOp
    simp only [ho, okOp_wanted hk hok, if_true]
    refine .inl (Oper.wp_mono ?_ (Oper.wp_noQ (hl a w hk hst)))
    rintro a' w' ⟨v, L', hf, rfl, hs'⟩
    exact ⟨hp.imp id (fun q => q v L' hf w' hs'), h v L' hf _ _ (hk.put (okOp_dst hok) v) hs'⟩
  · exact hs j hj
/-- What was taken early, less what is waited for: worked out. -/
theorem DAll.cons {Φ : Value → List HP → Prop} {i : Nat} {rs early' : List Nat} {d : Tmp} {op : Op} {ty : TypeId} {pos : String} {af : Array Edge} {gd : Option (Nat × Bool)} (ho : ops[i]? = some ⟨some d, op, ty, pos, af, gd⟩) (hok : okOp X.N ops E ⟨some d, op, ty, pos, af, gd⟩ true = true) (hl : OpL X ⟨some d, op, ty, pos, af, gd⟩ E L Φ)
    (hp : (early.all fun j => waitsFor .any ops i j) = true ∨ ∀ v L', Φ v L' → ∀ w, St X.ρ L' w → St X.ρ Sc w) (he : (early.filter fun j => !waitsFor .any ops i j) = early')
    (h : ∀ v L', Φ v L' → D X ops k Sc fuel early' (listed.setIfInBounds i true) ((d, v) :: E) L')
    (hs : DAll X ops k Sc fuel early listed E L rs) : DAll X ops k Sc fuel early listed E L (i :: rs) := DAll.any ho hok hl hp (fun v L' hf => by rw [he]; exact h v L' hf) hs
theorem DAll.consN {Φ : Value → List HP → Prop} {i : Nat} {rs early' : List Nat} {op : Op} {ty : TypeId} {pos : String} {af : Array Edge} {gd : Option (Nat × Bool)} (ho : ops[i]? = some ⟨none, op, ty, pos, af, gd⟩) (hok : okOp X.N ops E ⟨none, op, ty, pos, af, gd⟩ true = true) (hl : OpL X ⟨none, op, ty, pos, af, gd⟩ E L Φ)
    (hp : (early.all fun j => waitsFor .any ops i j) = true ∨ ∀ v L', Φ v L' → ∀ w, St X.ρ L' w → St X.ρ Sc w) (he : (early.filter fun j => !waitsFor .any ops i j) = early')
    (h : ∀ v L', Φ v L' → D X ops k Sc fuel early' (listed.setIfInBounds i true) E L')
    (hs : DAll X ops k Sc fuel early listed E L rs) : DAll X ops k Sc fuel early listed E L (i :: rs) := DAll.any ho hok hl hp (fun v L' hf => by rw [he]; exact h v L' hf) hs
end

/-! ### Contracts -/
def callable (P : Program) (f : FuncId) : Prop := ∃ fn, P.funcs[f]? = some fn ∧ fn.body.isNone = false ∧ (fn.name == "runtime.NumGoroutine") = false
def Post (ρ : World) (L : List HP) (Φ : Value → List HP → Prop) (e : Ending) (w' : World) : Prop := ∃ v post, e = .returned v ∧ Φ v post ∧ St ρ (post ++ L) w'
/-- Called with args where 'pre' holds, the function returns v, and 'post' holds, as Φ says; whatever else holds is kept. -/
def Fn (P : Program) (f : FuncId) (args : Array Value) (pre : List HP) (Φ : Value → List HP → Prop) : Prop :=
  callable P f ∧ ∀ ρ L w, St ρ (pre ++ L) w → Calls P f args w (Post ρ L Φ)
theorem Fn.mono {P : Program} {f : FuncId} {args : Array Value} {pre : List HP} {Φ Ψ : Value → List HP → Prop} (h : Fn P f args pre Φ) (hi : ∀ v post, Φ v post → Ψ v post) : Fn P f args pre Ψ :=
  ⟨h.1, fun ρ L w hs => (h.2 ρ L w hs).mono fun _ _ ⟨v, post, he, hf, r⟩ => ⟨v, post, he, hi v post hf, r⟩⟩
def argEnv : Nat → List Value → Env
  | _, [] => []
  | i, v :: l => (i, v) :: argEnv (i + 1) l
theorem argEnv_get : ∀ (l : List Value) (i t : Nat) (v : Value), Env.get (argEnv i l) t = some v → i ≤ t ∧ l[t - i]? = some v
  | [], _, _, _, h => by cases h
  | u :: l, i, t, v, h => by
    have h : Env.get ((i, u) :: argEnv (i + 1) l) t = some v := h
    rw [get_cons] at h
    by_cases hit : i = t
    · subst hit; rw [if_pos rfl] at h; exact ⟨Nat.le_refl _, by simpa using h⟩
    · rw [if_neg hit] at h
      obtain ⟨h1, h2⟩ := argEnv_get l (i + 1) t v h
      refine ⟨by omega, ?_⟩
      have : t - i = (t - (i + 1)) + 1 := by omega
      rw [this]; simpa using h2
theorem Fn.enter {P : Program} {f : FuncId} {l : List Value} {pre : List HP} {Φ : Value → List HP → Prop} {fn : Func} {c : Code} {N : Nat} (hf : P.funcs[f]? = some fn) (hb : fn.body = some c) (hn : fn.ntmps = N)
    (hname : (fn.name == "runtime.NumGoroutine") = false) (hsz : Nat.ble l.length N = true) (h : ∀ ρ L, K ⟨P, f, Post ρ L Φ, N, ρ⟩ [.code c] (argEnv 0 l) (pre ++ L)) : Fn P f l.toArray pre Φ := by
  refine ⟨⟨fn, hf, by rw [hb]; rfl, hname⟩, fun ρ L w hs cs => ?_⟩
  have hle : l.length ≤ N := Nat.le_of_ble_eq_true hsz
  let a : Act := { tmps := l.toArray ++ Array.replicate (fn.ntmps - l.toArray.size) undef, defers := [] }
  have hk : Know N (argEnv 0 l) a := by
    refine ⟨rfl, by simp [a, hn]; omega, fun t v e => ?_⟩
    obtain ⟨_, h2⟩ := argEnv_get l 0 t v e
    have h2 : l[t]? = some v := h2
    have ht : t < l.length := (List.getElem?_eq_some_iff.1 h2).1
    show (l.toArray ++ Array.replicate (fn.ntmps - l.toArray.size) undef)[t]? = some v
    rw [Array.getElem?_append_left (by simpa using ht)]
    simpa using h2
  let b : Frame := { (default : Frame) with fn := f, kind := .normal }
  obtain ⟨e, w', fr, hR, hc, r⟩ := h ρ L a w hk hs b cs rfl rfl
  have henter : Frame.enter P f l.toArray .normal = b.at a [.code c] := by
    simp [Frame.enter, Frame.at, hf, hb, b, a]
  rw [← henter] at hc
  exact ⟨e, w', fr, hR, hc, r⟩
/-- A call of a Go function by its contract. -/
def Env.evs (E : Env) : List Operand → Option (List Value)
  | [] => some []
  | x :: l => match Env.ev E x, Env.evs E l with | some v, some vs => some (v :: vs) | _, _ => none
theorem Know.evs {N : Nat} {E : Env} {a : Act} (h : Know N E a) : ∀ {l : List Operand} {vs : List Value}, Env.evs E l = some vs → l.map a.eval = vs
  | [], vs, e => by cases e; rfl
  | x :: l, vs, e => by
    simp only [Env.evs] at e
    cases hx : Env.ev E x with
    | none => rw [hx] at e; simp at e
    | some v =>
      cases hl : Env.evs E l with
      | none => rw [hx, hl] at e; simp at e
      | some us =>
        rw [hx, hl] at e
        cases e
        rw [List.map_cons, h.ev hx, h.evs hl]
theorem OpL.callC {X : Fx} {E : Env} {L L' : List HP} {d : Option Tmp} {x : Operand} {args : List Operand} {ats : Array TypeId} {ty : TypeId} {pos : String} {af : Array Edge} {gd : Option (Nat × Bool)}
    {f : FuncId} {first captured vs : List Value} {pre : List HP} {Φ : Value → List HP → Prop} (hx : Env.ev E x = some (.func (.func f) first.toArray captured.toArray)) (hargs : Env.evs E args = some vs)
    (hfn : Fn X.P f (first ++ vs ++ captured).toArray pre Φ) (hg : Give L pre L') :
    OpL X ⟨d, .call ⟨.value x, args.toArray, ats⟩, ty, pos, af, gd⟩ E L (fun v L'' => ∃ post, Φ v post ∧ L'' = post ++ L') := fun a w hk hs => by
  obtain ⟨⟨fn, hf, hbody, hname⟩, hcalls⟩ := hfn
  have e1 := hk.ev hx
  have e2 := hk.evs hargs
  have hrun : (execOp a.eval ⟨d, .call ⟨.value x, args.toArray, ats⟩, ty, pos, af, gd⟩).run X.P w = .ok (.enter f (first ++ vs ++ captured).toArray) w := by
    have n1 : ¬ fn.name = "runtime.NumGoroutine" := by simpa using hname
    have n2 : ¬ fn.body = none := fun e => by rw [e] at hbody; cases hbody
    simp [execOp, resolve, e1, Deferred.ofValue, invoke, callFunc, hf, n1, n2, e2]
  unfold Oper.wp
  rw [hrun]
  refine (hcalls X.ρ L' w (hs.give hg)).mono ?_
  rintro e w' ⟨v, post, rfl, hΦ, hst⟩
  exact ⟨v, post ++ L', ⟨post, hΦ, rfl⟩, rfl, hst⟩
theorem OpL.call {X : Fx} {E : Env} {L L' : List HP} {d : Option Tmp} {f : FuncId} {args : List Operand} {ats : Array TypeId} {ty : TypeId} {pos : String} {af : Array Edge} {gd : Option (Nat × Bool)}
    {vs : List Value} {pre : List HP} {Φ : Value → List HP → Prop} (hargs : Env.evs E args = some vs)
    (hfn : Fn X.P f vs.toArray pre Φ) (hg : Give L pre L') :
    OpL X ⟨d, .call ⟨.value (.func f), args.toArray, ats⟩, ty, pos, af, gd⟩ E L (fun v L'' => ∃ post, Φ v post ∧ L'' = post ++ L') :=
  OpL.callC (first := []) (captured := []) rfl hargs (by simpa using hfn) hg
end Go.Proofs.Ytlellgnklohclaa.L
