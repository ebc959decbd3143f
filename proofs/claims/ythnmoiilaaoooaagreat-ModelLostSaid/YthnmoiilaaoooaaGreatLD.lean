/- Assertions under 'there is'; bytes of a text by their place; maps with plain keys. No program in sight. -/
import Derived.Test.YthnmoiilaaoooaaGreatLC
import Derived.MapKept
namespace Go.Proofs.YthnmoiilaaoooaaGreat.L
open Go Go.RowKit

/-! ### A list of assertions cut in two, and put together -/
def Hp.join (a b : Hp) : Hp := fun x => match a x with | some o => some o | none => b x
theorem Hp.le_joinL (a b : Hp) : Hp.le a (Hp.join a b) := fun x o e => by unfold Hp.join; rw [e]
theorem Hp.le_joinR {a b : Hp} (h : Hp.apart a b) : Hp.le b (Hp.join a b) := fun x o e => by
  unfold Hp.join
  rcases h x with h | h
  · rw [h]; exact e
  · rw [h] at e; cases e
theorem Hp.join_le {a b c : Hp} (ha : Hp.le a c) (hb : Hp.le b c) : Hp.le (Hp.join a b) c := fun x o e => by
  unfold Hp.join at e
  cases hx : a x with
  | some o' => rw [hx] at e; cases e; exact ha x _ hx
  | none => rw [hx] at e; exact hb x o e
theorem Hp.join_apart {a b c : Hp} (ha : Hp.apart a c) (hb : Hp.apart b c) : Hp.apart (Hp.join a b) c := fun x => by
  unfold Hp.join
  rcases ha x with h | h
  · rw [h]; exact hb x
  · exact .inr h
theorem sepAll_split : ∀ {M L : List HP} {g h : Hp}, sepAll (M ++ L) g h → ∃ h1 h2, Hp.apart h1 h2 ∧ Hp.le h1 h ∧ Hp.le h2 h ∧ sepAll M g h1 ∧ sepAll L g h2
  | [], _, _, h, hs => ⟨fun _ => none, h, fun _ => .inl rfl, Hp.none_le _, Hp.le_refl _, trivial, hs⟩
  | A :: M, L, g, h, ⟨a1, a2, ap, l1, l2, ha, hs⟩ => by
    obtain ⟨k1, k2, kp, m1, m2, h1, h2⟩ := sepAll_split (M := M) hs
    exact ⟨Hp.join a1 k1, k2, Hp.join_apart (Hp.apart_le ap (Hp.le_refl _) m2) kp, Hp.join_le l1 (Hp.le_trans m1 l2), Hp.le_trans m2 l2,
      ⟨a1, k1, Hp.apart_le ap (Hp.le_refl _) m1, Hp.le_joinL _ _, Hp.le_joinR (Hp.apart_le ap (Hp.le_refl _) m1), ha, h1⟩, h2⟩
theorem sepAll_append : ∀ {M L : List HP} {g h h1 h2 : Hp}, Hp.apart h1 h2 → Hp.le h1 h → Hp.le h2 h → sepAll M g h1 → sepAll L g h2 → sepAll (M ++ L) g h
  | [], _, _, _, _, _, _, _, l2, _, hl => sepAll_mono (Hp.le_refl _) l2 hl
  | A :: M, L, g, h, h1, h2, ap, l1, l2, ⟨a1, a2, ap', m1, m2, ha, hm⟩, hl => by
    refine ⟨a1, Hp.join a2 h2, ?_, Hp.le_trans m1 l1, Hp.join_le (Hp.le_trans m2 l1) l2, ha, sepAll_append (Hp.apart_le ap m2 (Hp.le_refl _)) (Hp.le_joinL _ _) (Hp.le_joinR (Hp.apart_le ap m2 (Hp.le_refl _))) hm hl⟩
    exact Hp.apart_symm (Hp.join_apart (Hp.apart_symm ap') (Hp.apart_symm (Hp.apart_le ap m1 (Hp.le_refl _))))
/-- There is an i of which all of f i hold. -/
def HP.ex {ι : Type} (f : ι → List HP) : HP := HP.own (fun g h => ∃ i, sepAll (f i) g h) (fun hg ⟨i, hi⟩ => ⟨i, sepAll_mono hg (Hp.le_refl _) hi⟩)
theorem St.exO {ι : Type} {f : ι → List HP} {ρ : World} {L : List HP} {w : World} (h : St ρ (HP.ex f :: L) w) : ∃ i, St ρ (f i ++ L) w := by
  obtain ⟨g, k, a, b, c, h1, h2, ap, l1, l2, ⟨i, hi⟩, d⟩ := h.body
  exact ⟨i, h.os, h.tape, h.output, g, k, a, b, c, sepAll_append ap l1 l2 hi d⟩
theorem St.exI {ι : Type} {f : ι → List HP} {ρ : World} {L : List HP} {w : World} (i : ι) (h : St ρ (f i ++ L) w) : St ρ (HP.ex f :: L) w := by
  obtain ⟨g, k, a, b, c, d⟩ := h.body
  obtain ⟨h1, h2, ap, l1, l2, hi, hl⟩ := sepAll_split d
  exact ⟨h.os, h.tape, h.output, g, k, a, b, c, h1, h2, ap, l1, l2, ⟨i, hi⟩, hl⟩
/-- The owned things that are at hand, in the order of M, M's 'there is' put in. -/
theorem St.exP {ι : Type} {f : ι → List HP} {ρ : World} {L L' : List HP} {w : World} (p : Pick L (HP.ex f) L') (h : St ρ L w) : ∃ i, St ρ (f i ++ L') w := (h.pick p).exO

/-! ### A text's byte by its place -/
section
variable {X : Fx} {E : Env} {L : List HP} {d : Option Tmp} {ty : TypeId} {pos : String} {af : Array Edge} {gd : Option (Nat × Bool)} {t : TypeId} {x y : Operand}
theorem q_six {s : ByteArray} {k : IntKind} {i : Int} {n : Nat} {c : UInt8} (ht : X.P.underlying t = some .string) (hx : Env.ev E x = some (.string s)) (hy : Env.ev E y = some (.int k i)) (hn : i = (n : Int)) (hc : (bytesOf s)[n]? = some c) :
    OpQ X ⟨d, .index t x y, ty, pos, af, gd⟩ E L (.int .u8 c.toNat) := by
  have hl : n < s.size := by
    have := (List.getElem?_eq_some_iff.1 hc).1
    simpa [bytesOf] using this
  have := q_sindex (X := X) (L := L) (d := d) (ty := ty) (pos := pos) (af := af) (gd := gd) ht hx hy (by omega) (by omega)
  have e : (s[i.toNat]'(by omega)) = c := by
    subst hn
    have h2 := (List.getElem?_eq_some_iff.1 hc).2
    have h3 : s.data[n]'(by simpa using hl) = c := by simpa [bytesOf] using h2
    exact h3
  rw [e] at this
  exact this
end

/-! ### Maps -/
def lookIx {κ : Type} [DecidableEq κ] : List (κ × Value) → κ → Nat → Option (Nat × Value)
  | [], _, _ => none
  | (a, v) :: l, k, i => if k = a then some (i, v) else lookIx l k (i + 1)
def mapGet {κ : Type} [DecidableEq κ] : List (κ × Value) → κ → Option Value
  | [], _ => none
  | (a, v) :: l, k => if k = a then some v else mapGet l k
def mapPut {κ : Type} [DecidableEq κ] : List (κ × Value) → κ → Value → List (κ × Value)
  | [], k, v => [(k, v)]
  | (a, u) :: l, k, v => if k = a then (a, v) :: l else (a, u) :: mapPut l k v
theorem lookIx_get {κ : Type} [DecidableEq κ] (l : List (κ × Value)) (k : κ) : ∀ i, (lookIx l k i).map (·.2) = mapGet l k := by
  induction l with
  | nil => intro i; rfl
  | cons p l ih =>
    intro i
    obtain ⟨a, v⟩ := p
    unfold lookIx mapGet
    split
    · rfl
    · exact ih (i + 1)
structure MKey (P : Program) (kt : TypeId) {κ : Type} [DecidableEq κ] (enc : κ → Value) : Prop where
  check : ∀ e k w, (Instr.checkKey e 10000 kt (enc k)).run P w = .ok () w
  find : ∀ (ents : List MapEntry) (es : List (κ × Value)) (k : κ) (w : World), ents.map (fun e => (e.key, e.val)) = es.map (fun p => (enc p.1, p.2)) → (Instr.findKey kt (enc k) ents).run P w = .ok (lookIx es k 0) w
  stays : ∀ a, Instr.sameBits 10000 (enc a) (enc a) = true
theorem findNow_int (k : Int) : ∀ (ents : List MapEntry) (es : List (Int × Value)) (i : Nat), ents.map (fun e => (e.key, e.val)) = es.map (fun p => (Value.int .i64 p.1, p.2)) → Instr.findNow (.int .i64) (.int .i64 k) ents i = some (lookIx es k i)
  | [], es, i, h => by cases es with | nil => rfl | cons p l => cases h
  | e :: ents, es, i, h => by
    cases es with
    | nil => cases h
    | cons p l =>
      obtain ⟨a, v⟩ := p
      simp only [List.map_cons, List.cons.injEq, Prod.mk.injEq] at h
      obtain ⟨⟨h1, h2⟩, h3⟩ := h
      unfold Instr.findNow lookIx
      rw [h1, h2]
      by_cases hk : k = a
      · subst hk; simp [Instr.sameNow]
      · have : (k == a) = false := by simpa using hk
        simp only [Instr.sameNow, if_true, this, if_neg hk]
        exact findNow_int k ents l (i + 1) h3
theorem mkey_int {P : Program} {kt : TypeId} (h : P.underlying kt = some (.int .i64)) : MKey P kt (fun n : Int => Value.int .i64 n) where
  check := fun e k w => by
    exact MapKept.run_checkKey (n := 9999) h (by trivial) e
  find := fun ents es k w he => by
    simp [Instr.findKey, underlying, h, findNow_int k ents es 0 he]
  stays := fun a => by simp [Instr.sameBits]
/-- No two entries with one stamp, all older than the clock. -/
def bornOk (ents : Array MapEntry) (clock : Nat) : Prop := (ents.toList.map (·.born)).Nodup ∧ ∀ x ∈ ents.toList, x.born < clock
theorem bornOk.push {ents : Array MapEntry} {clock : Nat} (h : bornOk ents clock) (k v : Value) : bornOk (ents.push { key := k, val := v, born := clock }) (clock + 1) := by
  obtain ⟨h1, h2⟩ := h
  constructor
  · rw [Array.toList_push, List.map_append, List.nodup_append]
    refine ⟨h1, by simp, ?_⟩
    intro a ha b hb hab
    simp only [List.map_cons, List.map_nil, List.mem_singleton] at hb
    obtain ⟨x, hx, rfl⟩ := List.mem_map.1 ha
    have := h2 x hx
    omega
  · intro x hx
    rw [Array.toList_push, List.mem_append, List.mem_singleton] at hx
    rcases hx with hx | rfl
    · exact Nat.lt_succ_of_lt (h2 x hx)
    · exact Nat.lt_succ_self _
theorem bornOk.modify {ents : Array MapEntry} {clock : Nat} (h : bornOk ents clock) (i : Nat) (k v : Value) : bornOk (ents.modify i fun e => { e with key := k, val := v }) clock := by
  have hm : (ents.modify i fun e => { e with key := k, val := v }).toList.map (·.born) = ents.toList.map (·.born) := by
    rw [Array.toList_modify]
    apply List.ext_getElem?
    intro j
    simp only [List.getElem?_map, List.getElem?_modify]
    split <;> cases ents.toList[j]? <;> rfl
  obtain ⟨h1, h2⟩ := h
  refine ⟨by rw [hm]; exact h1, fun x hx => ?_⟩
  have hb : x.born ∈ ents.toList.map (·.born) := by rw [← hm]; exact List.mem_map_of_mem hx
  obtain ⟨y, hy, e⟩ := List.mem_map.1 hb
  rw [← e]; exact h2 y hy
/-- The map's block, owned: its entries, in the order in which they came. -/
def mpO {κ : Type} (enc : κ → Value) (b : Nat) (es : List (κ × Value)) : HP :=
  HP.own (fun _ h => ∃ ents clock, h b = some (.map ents clock) ∧ ents.toList.map (fun e => (e.key, e.val)) = es.map (fun p => (enc p.1, p.2)) ∧ bornOk ents clock) (fun _ h => h)
section
variable {X : Fx} {E : Env} {L L1 : List HP} {d : Option Tmp} {ty : TypeId} {pos : String} {af : Array Edge} {gd : Option (Nat × Bool)} {t k e : TypeId} {x ix y : Operand} {κ : Type} [DecidableEq κ] {enc : κ → Value}
omit [DecidableEq κ] in
theorem l_makeMap (enc : κ → Value) : OpL X ⟨d, .makeMap t none, ty, pos, af, gd⟩ E L (fun v' L' => ∃ b, v' = .map (some b) ∧ L' = mpO enc b [] :: L) := fun a w hk hs => by
  unfold Oper.wp
  have : (execOp a.eval ⟨d, .makeMap t none, ty, pos, af, gd⟩).run X.P w = .ok (.value (.map (some w.heap.size))) { w with heap := w.heap.push (.map #[] 0) } := by
    simp [execOp, Instr.makeMap]
  rw [this]
  refine ⟨_, _, ⟨w.heap.size, rfl, rfl⟩, rfl, St.turn (A := pt w.heap.size (.map #[] 0)) (fun g h ha => ?_) (hs.alloc _)⟩
  exact ⟨#[], 0, ha, rfl, List.nodup_nil, fun x hx => by cases hx⟩
def zeroV (P : Program) (t : TypeId) : Option Value := (P.info? t).bind (·.zero)
theorem run_zeroV {P : Program} {t : TypeId} {z : Value} (h : zeroV P t = some z) (w : World) : (zeroValue t).run P w = .ok z w := by
  unfold zeroV at h
  obtain ⟨i, hi, hz⟩ := Option.bind_eq_some_iff.1 h
  simp [zeroValue, typeInfo, hi, hz]
omit [DecidableEq κ] in
theorem mpO_heap {ρ : World} {b : Nat} {es : List (κ × Value)} {w : World} (m : mpO enc b es ∈ L) (h : St ρ L w) : ∃ ents clock, w.heap[b]? = some (.map ents clock) ∧ ents.toList.map (fun e => (e.key, e.val)) = es.map (fun p => (enc p.1, p.2)) ∧ bornOk ents clock := by
  obtain ⟨g, q, _, _, c, d⟩ := h.body
  obtain ⟨h1, l1, ents, clock, hb, he, hbo⟩ := sepAll_mem m d
  exact ⟨ents, clock, c _ _ (l1 _ _ hb), he, hbo⟩
theorem q_lookup {b : Nat} {es : List (κ × Value)} {n : κ} {z : Value} (ht : X.P.underlying t = some (.map k e)) (K : MKey X.P k enc) (hz : zeroV X.P e = some z) (hx : Env.ev E x = some (.map (some b))) (hi : Env.ev E ix = some (enc n)) (m : mpO enc b es ∈ L) :
    OpQ X ⟨d, .lookup t x ix false, ty, pos, af, gd⟩ E L ((mapGet es n).getD z) := fun a w hk hs => by
  obtain ⟨ents, clock, hb, he, _⟩ := mpO_heap m hs
  have h1 := K.find ents.toList es n w he
  have h2 := lookIx_get es n 0
  simp only [execOp, hk.ev hx, hk.ev hi, Instr.lookup, Sem.run_bind, underlying, run_program, Result.andThen_ok, ht, Sem.run_pure, MapKept.run_getObj_map hb, K.check, h1]
  cases hl : lookIx es n 0 with
  | none => rw [hl] at h2; rw [← h2]; simp [run_zeroV hz]
  | some p => rw [hl] at h2; rw [← h2]; simp
theorem q_lookupOk {b : Nat} {es : List (κ × Value)} {n : κ} {z : Value} (ht : X.P.underlying t = some (.map k e)) (K : MKey X.P k enc) (hz : zeroV X.P e = some z) (hx : Env.ev E x = some (.map (some b))) (hi : Env.ev E ix = some (enc n)) (m : mpO enc b es ∈ L) :
    OpQ X ⟨d, .lookup t x ix true, ty, pos, af, gd⟩ E L (.tuple [(mapGet es n).getD z, .bool (mapGet es n).isSome].toArray) := fun a w hk hs => by
  obtain ⟨ents, clock, hb, he, _⟩ := mpO_heap m hs
  have h1 := K.find ents.toList es n w he
  have h2 := lookIx_get es n 0
  simp only [execOp, hk.ev hx, hk.ev hi, Instr.lookup, Sem.run_bind, underlying, run_program, Result.andThen_ok, ht, Sem.run_pure, MapKept.run_getObj_map hb, K.check, h1]
  cases hl : lookIx es n 0 with
  | none => rw [hl] at h2; rw [← h2]; simp [run_zeroV hz]
  | some p => rw [hl] at h2; rw [← h2]; simp
theorem put_some {n : κ} {v : Value} {f : MapEntry → MapEntry} (hf : ∀ e, e.key = enc n → (f e).key = enc n ∧ (f e).val = v) : ∀ (ents : List MapEntry) (es : List (κ × Value)) (j i : Nat) (u : Value), ents.map (fun e => (e.key, e.val)) = es.map (fun p => (enc p.1, p.2)) → lookIx es n j = some (i, u) →
    j ≤ i ∧ (ents.modify (i - j) f).map (fun e => (e.key, e.val)) = (mapPut es n v).map (fun p => (enc p.1, p.2)) ∧ ((ents[i - j]?).map (·.key)) = some (enc n)
  | [], es, j, i, u, h, hl => by cases es with | nil => cases hl | cons p l => cases h
  | e :: ents, es, j, i, u, h, hl => by
    cases es with
    | nil => cases h
    | cons p l =>
      obtain ⟨a, x⟩ := p
      simp only [List.map_cons, List.cons.injEq, Prod.mk.injEq] at h
      obtain ⟨⟨h1, h2⟩, h3⟩ := h
      unfold lookIx at hl
      by_cases hk : n = a
      · rw [if_pos hk] at hl
        cases hl
        subst hk
        obtain ⟨f1, f2⟩ := hf e h1
        simp [mapPut, f1, f2, h3, h1]
      · rw [if_neg hk] at hl
        obtain ⟨l1, l2, l3⟩ := put_some hf ents l (j + 1) i u h3 hl
        have e1 : i - j = (i - (j + 1)) + 1 := by omega
        rw [e1]
        refine ⟨by omega, ?_, by simpa using l3⟩
        simp [mapPut, if_neg hk, h1, h2, l2]
theorem put_none {n : κ} : ∀ (es : List (κ × Value)) (j : Nat) (v : Value), lookIx es n j = none → mapPut es n v = es ++ [(n, v)]
  | [], _, _, _ => rfl
  | (a, x) :: l, j, v, h => by
    unfold lookIx at h
    by_cases hk : n = a
    · rw [if_pos hk] at h; cases h
    · rw [if_neg hk] at h
      simp [mapPut, if_neg hk, put_none l (j + 1) v h]
theorem l_mapUpdate {b : Nat} {es : List (κ × Value)} {n : κ} {v : Value} (ht : X.P.underlying t = some (.map k e)) (K : MKey X.P k enc) (hx : Env.ev E x = some (.map (some b))) (hi : Env.ev E ix = some (enc n)) (hy : Env.ev E y = some v) (hp : Pick L (mpO enc b es) L1) :
    OpL X ⟨d, .mapUpdate t x ix y, ty, pos, af, gd⟩ E L (fun v' L' => v' = undef ∧ L' = mpO enc b (mapPut es n v) :: L1) := fun a w hk hs => by
  have hs' := hs.pick hp
  obtain ⟨ents, clock, hb, he, hbo⟩ := mpO_heap (List.Mem.head _) hs'
  have h1 := K.find ents.toList es n w he
  -- the world, with the block turned
  have key : ∀ (ents' : Array MapEntry) (clock' : Nat), ents'.toList.map (fun e => (e.key, e.val)) = (mapPut es n v).map (fun p => (enc p.1, p.2)) → bornOk ents' clock' →
      St X.ρ (mpO enc b (mapPut es n v) :: L1) { w with heap := w.heap.setIfInBounds b (.map ents' clock') } := fun ents' clock' he' hbo' => by
    have ho : ∃ o, St X.ρ (pt b o :: L1) w := by
      obtain ⟨g, q, a', b', c, q1, q2, ap, l1, l2, ⟨en, cl, hbb, hee, _⟩, d'⟩ := hs'.body
      exact ⟨.map en cl, hs'.os, hs'.tape, hs'.output, g, q, a', b', c, q1, q2, ap, l1, l2, hbb, d'⟩
    obtain ⟨o, ho⟩ := ho
    have := ho.put (.map ents' clock')
    exact St.turn (A := pt b (.map ents' clock')) (fun g h ha => ⟨ents', clock', ha, he', hbo'⟩) this
  unfold Oper.wp
  cases hl : lookIx es n 0 with
  | none =>
    rw [hl] at h1
    have : (execOp a.eval ⟨d, .mapUpdate t x ix y, ty, pos, af, gd⟩).run X.P w = .ok .skip { w with heap := w.heap.setIfInBounds b (.map (ents.push { key := enc n, val := v, born := clock }) (clock + 1)) } := by
      simp only [execOp, hk.ev hx, hk.ev hi, hk.ev hy, Instr.mapUpdate, Sem.run_bind, underlying, run_program, Result.andThen_ok, ht, Sem.run_pure, MapKept.run_getObj_map hb, K.check, h1, MapKept.run_setObj_map _ hb]
    rw [this]
    refine ⟨undef, _, ⟨rfl, rfl⟩, rfl, key _ _ ?_ (hbo.push _ _)⟩
    rw [put_none es 0 v hl]
    simp [he]
  | some p =>
    obtain ⟨i, u⟩ := p
    rw [hl] at h1
    obtain ⟨_, hm, hkey⟩ := put_some (enc := enc) (n := n) (v := v) (f := fun e => { e with key := enc n, val := v }) (fun e _ => ⟨rfl, rfl⟩) ents.toList es 0 i u he hl
    rw [Nat.sub_zero] at hm hkey
    have hke : (((ents[i]?).map (·.key)).getD (enc n)) = enc n := by
      have : ents[i]? = ents.toList[i]? := by simp
      rw [this, hkey]; rfl
    have : (execOp a.eval ⟨d, .mapUpdate t x ix y, ty, pos, af, gd⟩).run X.P w = .ok .skip { w with heap := w.heap.setIfInBounds b (.map (ents.modify i fun e => { e with key := enc n, val := v }) clock) } := by
      simp only [execOp, hk.ev hx, hk.ev hi, hk.ev hy, Instr.mapUpdate, Sem.run_bind, underlying, run_program, Result.andThen_ok, ht, Sem.run_pure, MapKept.run_getObj_map hb, K.check, h1, hke, Instr.keyThatStays, K.stays, if_true, MapKept.run_setObj_map _ hb]
    rw [this]
    refine ⟨undef, _, ⟨rfl, rfl⟩, rfl, key _ _ ?_ (hbo.modify _ _ _)⟩
    rw [Array.toList_modify]
    exact hm
end
/-! ### What a map says, plainly -/
theorem mapGet_put {κ : Type} [DecidableEq κ] (es : List (κ × Value)) (k n : κ) (v : Value) : mapGet (mapPut es k v) n = if n = k then some v else mapGet es n := by
  induction es with
  | nil => simp [mapPut, mapGet]
  | cons p l ih =>
    obtain ⟨a, u⟩ := p
    unfold mapPut
    by_cases h : k = a
    · subst h; rw [if_pos rfl]; simp only [mapGet]
      by_cases hn : n = k
      · rw [if_pos hn, if_pos hn]
      · rw [if_neg hn, if_neg hn, if_neg hn]
    · rw [if_neg h]
      simp only [mapGet]
      by_cases hn : n = a
      · subst hn; rw [if_pos rfl, if_pos rfl, if_neg (fun e => h e.symm)]
      · rw [if_neg hn, if_neg hn, ih]
end Go.Proofs.YthnmoiilaaoooaaGreat.L
