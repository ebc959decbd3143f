/- Plain: comparisons, first places, neighbours. No program in sight. -/
import Derived.Test.YthnmoiilaaoooaaGreatPA
import Derived.Test.YthnmoiilaaoooaaGreatLF
namespace Go.Proofs.YthnmoiilaaoooaaGreat.L
open Go

def cmpI (a b : Int) : Int := if a < b then -1 else if b < a then 1 else 0
def cmpL : List UInt8 → List UInt8 → Int
  | [], [] => 0
  | [], _ :: _ => -1
  | _ :: _, [] => 1
  | x :: xs, y :: ys => if x < y then -1 else if y < x then 1 else cmpL xs ys
def cmpB (a b : ByteArray) : Int := cmpL (bytesOf a) (bytesOf b)
theorem cmpL_less : ∀ l m : List UInt8, cmpL l m = if Op.bytesLess l m = true then -1 else if l = m then 0 else 1
  | [], [] => by simp [cmpL, Op.bytesLess]
  | [], _ :: _ => by simp [cmpL, Op.bytesLess]
  | _ :: _, [] => by simp [cmpL, Op.bytesLess]
  | x :: xs, y :: ys => by
    have ih := cmpL_less xs ys
    unfold cmpL Op.bytesLess
    rw [ih]
    by_cases h1 : x < y
    · simp [h1]
    · by_cases h2 : y < x
      · have hne : ¬ x = y := fun e => by subst e; exact UInt8.lt_irrefl _ h2
        simp [h1, h2, hne]
      · have he : x = y := by
          apply UInt8.toNat.inj
          have a1 := (not_congr UInt8.lt_iff_toNat_lt).1 h1
          have a2 := (not_congr UInt8.lt_iff_toNat_lt).1 h2
          omega
        subst he
        simp [h1]
theorem bytesOf_inj {a b : ByteArray} : bytesOf a = bytesOf b ↔ a = b := by
  refine ⟨fun h => ?_, fun h => by rw [h]⟩
  rw [← bytesOf_mk a, ← bytesOf_mk b, h]
theorem toList_bytesOf (a : ByteArray) : a.toList = bytesOf a := by rw [ByteArray.toList_eq]; rfl
theorem cmpB_less (a b : ByteArray) : cmpB a b = if Op.bytesLess a.toList b.toList = true then -1 else if a = b then 0 else 1 := by
  unfold cmpB
  rw [cmpL_less, toList_bytesOf, toList_bytesOf]
  simp only [bytesOf_inj]
theorem cmpL_self (l : List UInt8) : cmpL l l = 0 := by
  induction l with
  | nil => rfl
  | cons x l ih => simp [cmpL, ih, UInt8.lt_irrefl]
theorem cmpL_zero : ∀ {l m : List UInt8}, cmpL l m = 0 → l = m
  | [], [], _ => rfl
  | [], _ :: _, h => by simp [cmpL] at h
  | _ :: _, [], h => by simp [cmpL] at h
  | x :: xs, y :: ys, h => by
    unfold cmpL at h
    split at h
    · cases h
    · split at h
      · cases h
      · rename_i h1 h2
        have he : x = y := by
          apply UInt8.toNat.inj
          have a1 := (not_congr UInt8.lt_iff_toNat_lt).1 h1
          have a2 := (not_congr UInt8.lt_iff_toNat_lt).1 h2
          omega
        rw [he, cmpL_zero h]
theorem cmpL_nilL : ∀ {m : List UInt8}, m ≠ [] → cmpL [] m = -1
  | [], h => absurd rfl h
  | _ :: _, _ => rfl
theorem cmpL_nilR : ∀ {m : List UInt8}, m ≠ [] → cmpL m [] = 1
  | [], h => absurd rfl h
  | _ :: _, _ => rfl
theorem cmpB_self (a : ByteArray) : cmpB a a = 0 := cmpL_self _
theorem cmpB_zero {a b : ByteArray} : cmpB a b = 0 ↔ a = b := ⟨fun h => bytesOf_inj.1 (cmpL_zero h), fun h => by rw [h]; exact cmpB_self _⟩
/-- The first place at which p holds, or -1. -/
def idxP {α : Type} (p : α → Bool) (l : List α) : Int := match l.findIdx? p with | some i => (i : Int) | none => -1
theorem idxP_some {α : Type} {p : α → Bool} {l : List α} {i : Nat} {x : α} (hx : l[i]? = some x) (hp : p x = true) (h : (l.take i).any p = false) : idxP p l = i := by
  have : l.findIdx? p = some i := by
    rw [List.findIdx?_eq_some_iff_getElem]
    obtain ⟨hi, e⟩ := List.getElem?_eq_some_iff.1 hx
    refine ⟨hi, by rw [e]; exact hp, fun j hj => ?_⟩
    rw [List.any_eq_false] at h
    have := h l[j] (List.mem_take_iff_getElem.2 ⟨j, by omega, rfl⟩)
    simpa using this
  unfold idxP
  rw [this]
theorem idxP_none {α : Type} {p : α → Bool} {l : List α} (h : l.any p = false) : idxP p l = -1 := by
  have : l.findIdx? p = none := by
    rw [List.findIdx?_eq_none_iff]
    intro x hx
    rw [List.any_eq_false] at h
    simpa using h x hx
  unfold idxP
  rw [this]
theorem idxP_any {α : Type} (p : α → Bool) (l : List α) : decide (0 ≤ idxP p l) = l.any p := by
  unfold idxP
  cases h : l.findIdx? p with
  | none =>
    rw [List.findIdx?_eq_none_iff] at h
    have : l.any p = false := by rw [List.any_eq_false]; intro x hx; simp [h x hx]
    rw [this]; rfl
  | some i =>
    rw [List.findIdx?_eq_some_iff_getElem] at h
    obtain ⟨hi, h1, _⟩ := h
    have : l.any p = true := List.any_eq_true.2 ⟨l[i], List.getElem_mem hi, h1⟩
    rw [this]
    exact decide_eq_true (show (0 : Int) ≤ (i : Int) by omega)
theorem any_take_succ {α : Type} {p : α → Bool} {l : List α} {i : Nat} {x : α} (hx : l[i]? = some x) : (l.take (i + 1)).any p = ((l.take i).any p || p x) := by
  rw [List.take_add_one, hx]; simp [List.any_append]
theorem all_take_succ {α : Type} {p : α → Bool} {l : List α} {i : Nat} {x : α} (hx : l[i]? = some x) : (l.take (i + 1)).all p = ((l.take i).all p && p x) := by
  rw [List.take_add_one, hx]; simp [List.all_append]
theorem any_of_at {α : Type} {p : α → Bool} {l : List α} {i : Nat} {x : α} (hx : l[i]? = some x) (hp : p x = true) : l.any p = true := List.any_eq_true.2 ⟨x, List.mem_of_getElem? hx, hp⟩
/-- f holds of any two that stand side by side. -/
def adj {α : Type} (f : α → α → Bool) : List α → Bool
  | [] => true
  | [_] => true
  | a :: b :: l => f a b && adj f (b :: l)
theorem adj_snoc {α : Type} (f : α → α → Bool) : ∀ (l : List α) (a b : α), adj f (l ++ [a, b]) = (adj f (l ++ [a]) && f a b)
  | [], a, b => by simp [adj]
  | [c], a, b => by simp [adj]
  | c :: d :: l, a, b => by
    have := adj_snoc f (d :: l) a b
    simp only [List.cons_append] at this ⊢
    simp only [adj]
    rw [this, Bool.and_assoc]
theorem adj_take_succ {α : Type} {f : α → α → Bool} {l : List α} {i : Nat} {x y : α} (hx : l[i]? = some x) (hy : l[i + 1]? = some y) : adj f (l.take (i + 2)) = (adj f (l.take (i + 1)) && f x y) := by
  have e1 : l.take (i + 1) = l.take i ++ [x] := by rw [List.take_add_one, hx]; rfl
  have e2 : l.take (i + 2) = l.take i ++ [x, y] := by rw [List.take_add_one, hy, e1]; simp
  rw [e1, e2, adj_snoc]
theorem adj_take_one {α : Type} (f : α → α → Bool) (l : List α) : adj f (l.take 1) = true := by cases l <;> simp [adj]
theorem adj_prefix {α : Type} {f : α → α → Bool} : ∀ {l m : List α}, adj f (l ++ m) = true → adj f l = true
  | [], _, _ => rfl
  | [_], _, _ => rfl
  | a :: b :: l, m, h => by
    simp only [List.cons_append, adj, Bool.and_eq_true] at h ⊢
    exact ⟨h.1, adj_prefix (l := b :: l) h.2⟩
theorem adj_take {α : Type} {f : α → α → Bool} {l : List α} (h : adj f l = true) (i : Nat) : adj f (l.take i) = true := by
  rw [← List.take_append_drop i l] at h
  exact adj_prefix h
theorem adj_false_take {α : Type} {f : α → α → Bool} {l : List α} {i : Nat} (h : adj f (l.take i) = false) : adj f l = false := by
  cases ha : adj f l with
  | false => rfl
  | true => rw [adj_take ha] at h; cases h
theorem nodup_len : ∀ {l m : List Int}, l.Nodup → (∀ x, x ∈ l → x ∈ m) → l.length ≤ m.length
  | [], m, _, _ => Nat.zero_le _
  | a :: l, m, h, hs => by
    obtain ⟨h1, h2⟩ := List.nodup_cons.1 h
    have ha := hs a (List.mem_cons_self)
    have := nodup_len h2 (m := m.erase a) (fun x hx => (List.mem_erase_of_ne (fun (e : x = a) => h1 (e ▸ hx))).2 (hs x (List.mem_cons_of_mem _ hx)))
    rw [List.length_erase_of_mem ha] at this
    have := List.length_pos_of_mem ha
    simp only [List.length_cons]
    omega
/-- A block of numbers, frozen, is a frozen row. -/
theorem pv_ints {ρ : World} {L : List HP} {w : World} {b e : Nat} {cs : List Value} (xs : List Int) (hc : cs = xs.map fun n => Value.int .i64 n) (h : St ρ (pv b e cs :: L) w) : St ρ (RowF (Kd.int .i64) (some ⟨b, 0, none⟩) xs :: L) w := by
  refine pv_flat (enc := fun n => [Value.int .i64 n]) xs ?_ h
  rw [hc]
  clear h hc
  induction xs with
  | nil => rfl
  | cons x xs ih => simp [ih]
/-! ### The frame around a contract -/
def emp : HP := HP.own (fun _ _ => True) (fun _ h => h)
theorem St.emp {ρ : World} {L : List HP} {w : World} (h : St ρ L w) : St ρ (emp :: L) w := by
  obtain ⟨g, k, a, b, c, d⟩ := h.body
  exact ⟨h.os, h.tape, h.output, g, k, a, b, c, fun _ => none, k, fun _ => .inl rfl, Hp.none_le _, Hp.le_refl _, trivial, d⟩
theorem Fn.frame1 {P : Program} {f : FuncId} {args : Array Value} {x : Value} (R : HP) (h : Fn P f args [] (fun v post => v = x ∧ post = [])) : Fn P f args [R] (fun v post => v = x ∧ post = [R]) :=
  ⟨h.1, fun ρ L w hs => (h.2 ρ (R :: L) w hs).mono fun _ _ ⟨v, post, he, ⟨hv, hp⟩, hs'⟩ => ⟨v, [R], he, ⟨hv, rfl⟩, by subst hp; exact hs'⟩⟩
end Go.Proofs.YthnmoiilaaoooaaGreat.L
