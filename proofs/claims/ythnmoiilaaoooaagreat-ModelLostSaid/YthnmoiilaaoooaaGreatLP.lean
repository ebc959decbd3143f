/- A value put into an owned row, as the library does it: the test for overlap, and what stands behind each step. No program in sight. -/
import Derived.Test.YthnmoiilaaoooaaGreatLG
import Derived.Test.YthnmoiilaaoooaaGreatPK
namespace Go.Proofs.YthnmoiilaaoooaaGreat.L
open Go Go.RowKit
set_option linter.unusedSimpArgs false
set_option linter.unusedVariables false

theorem q_apartC {X : Fx} {E : Env} {L L1 : List HP} {d : Option Tmp} {ty : TypeId} {pos : String} {af : Array Edge} {gd : Option (Nat × Bool)} {x y : Operand} {ats : Array TypeId} {α : Type} {k : Kd α} {f : FuncId} {fn : Func} {tS tR e1 e ev bytes bv ov la ca lb cb cap j : Nat} {q : Option Addr} {cs : List Value} {xs : List α} (hf : X.P.funcs[f]? = some fn) (hname : (fn.name == "runtime.NumGoroutine") = false) (hb : fn.body.isNone = true) (hn : Extern.findNext fn = none)
    (he : Extern.find fn = some (Extern.SlicesOverlaps.overlaps #[tS, tS] #[tR])) (ht : slElem X.P tS = some (e1, k.sz, bytes)) (hx : Env.ev E x = some (.slice (some ⟨bv, ov, none⟩) la ca)) (hy : Env.ev E y = some (.slice (cutAddr q cap j k.sz) lb cb))
    (hp : Pick L (pv bv ev cs) L1) (m : RowO k e q cap xs ∈ L1) (hne : xs ≠ []) (hj : j < cap) (hk0 : 0 < k.sz) :
    OpQ X ⟨d, .call ⟨.value (.func f), [x, y].toArray, ats⟩, ty, pos, af, gd⟩ E L (.bool false) :=
  OpQ.when (fun w hs => rowO_addr m hne w (hs.pick hp).tail) (fun ⟨b, o, hq⟩ => by
    subst hq
    rw [cutAddr_in hj] at hy
    exact q_apart hf hname hb hn he ht hx hy hp m (by omega) hk0)
section
variable {α : Type} {l : List α} {i : Nat} {x z : α}
theorem ins_grow1 (hi : i ≤ l.length) : (l.take i ++ List.replicate (l.length + 1 - i) z).take i ++ [x].take 1 ++ (l.take i ++ List.replicate (l.length + 1 - i) z).drop (i + 1) = l.take i ++ [x] ++ List.replicate (l.length - i) z := by
  have e : (l.take i).length = i := by rw [List.length_take]; omega
  rw [List.take_left' e, List.drop_append, e, List.drop_of_length_le (by omega), List.nil_append, List.drop_replicate, show l.length + 1 - i - (i + 1 - i) = l.length - i by omega]
  rfl
theorem ins_grow2 (hi : i ≤ l.length) : (l.take i ++ [x] ++ List.replicate (l.length - i) z).take (i + 1) ++ (l.drop i).take (l.length - i) ++ (l.take i ++ [x] ++ List.replicate (l.length - i) z).drop (i + 1 + (l.length - i)) = l.take i ++ [x] ++ l.drop i := by
  have e : (l.take i ++ [x]).length = i + 1 := by rw [List.length_append, List.length_take, List.length_singleton]; omega
  rw [List.take_left' e, List.drop_of_length_le (l := l.take i ++ [x] ++ List.replicate (l.length - i) z) (by rw [List.length_append, e, List.length_replicate]; omega), List.append_nil, List.take_of_length_le (l := l.drop i) (by rw [List.length_drop]; omega)]
theorem ins_room1 (hi : i < l.length) : l.take (i + 1) ++ (l.drop i).take (l.length - i) ++ l.drop (i + 1 + (l.length - i)) = l.take (i + 1) ++ l.drop i := by
  rw [List.drop_of_length_le (i := i + 1 + (l.length - i)) (by omega), List.append_nil, List.take_of_length_le (l := l.drop i) (by rw [List.length_drop]; omega)]
theorem ins_room2 (hi : i < l.length) : (l.take (i + 1) ++ l.drop i).take i ++ [x].take 1 ++ (l.take (i + 1) ++ l.drop i).drop (i + 1) = l.take i ++ [x] ++ l.drop i := by
  have e : (l.take (i + 1)).length = i + 1 := by rw [List.length_take]; omega
  rw [List.drop_left' e, List.take_append_of_le_length (by omega), List.take_take, show min i (i + 1) = i by omega]
  rfl
end
theorem tw_eq {α : Type} {f : α → Bool} {l : List α} {i : Nat} (ha : (l.take i).all f = true) (hi : i ≤ l.length) (hn : ∀ e, l[i]? = some e → f e = false) : (l.takeWhile f).length = i := by
  have hs : l = l.take i ++ l.drop i := (List.take_append_drop i l).symm
  conv => lhs; rw [hs]
  rw [List.takeWhile_append_of_pos (by simpa using ha), List.length_append, List.length_take]
  have : (l.drop i).takeWhile f = [] := by
    cases hd : l.drop i with
    | nil => rfl
    | cons x t =>
      have hx : l[i]? = some x := by
        have : (l.drop i)[0]? = some x := by rw [hd]; rfl
        rw [List.getElem?_drop] at this
        exact this
      rw [List.takeWhile_cons, if_neg (by rw [hn x hx]; exact Bool.false_ne_true)]
  rw [this]
  simp only [List.length_nil]
  omega
theorem filter_take_succ {α : Type} (p : α → Bool) {l : List α} {i : Nat} {x : α} (h : l[i]? = some x) : (l.take (i + 1)).filter p = (l.take i).filter p ++ if p x = true then [x] else [] := by
  rw [List.take_add_one, h, List.filter_append]
  cases hp : p x <;> simp [hp]
theorem flatMap_take_succ {α β : Type} (f : α → List β) {l : List α} {i : Nat} {x : α} (h : l[i]? = some x) : (l.take (i + 1)).flatMap f = (l.take i).flatMap f ++ f x := by
  rw [List.take_add_one, h]; simp
theorem flatMap_take_le {α β : Type} (f : α → List β) (l : List α) (i : Nat) : ((l.take i).flatMap f).length ≤ (l.flatMap f).length := by
  have h : (l.flatMap f).length = ((l.take i ++ l.drop i).flatMap f).length := by rw [List.take_append_drop]
  rw [h, List.flatMap_append, List.length_append]; omega
theorem cmpI_anti (a b : Int) : cmpI b a = - cmpI a b := by unfold cmpI; (repeat' split) <;> omega
theorem cmpI_neg {a b : Int} : cmpI a b < 0 ↔ a < b := by unfold cmpI; (repeat' split) <;> omega
theorem cmpI_zero {a b : Int} : cmpI a b = 0 ↔ a = b := by unfold cmpI; (repeat' split) <;> omega
theorem cmpL_anti : ∀ a b : List UInt8, cmpL b a = - cmpL a b
  | [], [] => rfl
  | [], _ :: _ => rfl
  | _ :: _, [] => rfl
  | x :: xs, y :: ys => by
    have ih := cmpL_anti xs ys
    unfold cmpL
    simp only [UInt8.lt_iff_toNat_lt]
    (repeat' split) <;> omega
theorem cmpL_trans : ∀ {a b c : List UInt8}, cmpL a b < 0 → cmpL b c < 0 → cmpL a c < 0
  | [], [], _, h, _ => by simp [cmpL] at h
  | [], _ :: _, [], _, h => by simp [cmpL] at h
  | [], _ :: _, _ :: _, _, _ => by simp [cmpL]
  | _ :: _, [], _, h, _ => by simp [cmpL] at h
  | _ :: _, _ :: _, [], _, h => by simp [cmpL] at h
  | x :: xs, y :: ys, z :: zs, h1, h2 => by
    have ih := cmpL_trans (a := xs) (b := ys) (c := zs)
    unfold cmpL at h1 h2 ⊢
    simp only [UInt8.lt_iff_toNat_lt] at h1 h2 ⊢
    split at h1
    · split at h2
      · rw [if_pos (by omega)]; decide
      · split at h2
        · omega
        · rw [if_pos (by omega)]; decide
    · split at h1
      · omega
      · split at h2
        · rw [if_pos (by omega)]; decide
        · split at h2
          · omega
          · rw [if_neg (by omega), if_neg (by omega)]
            exact ih h1 h2
theorem cmpB_anti (a b : ByteArray) : cmpB b a = - cmpB a b := cmpL_anti _ _
theorem cmpB_trans {a b c : ByteArray} (h1 : cmpB a b < 0) (h2 : cmpB b c < 0) : cmpB a c < 0 := cmpL_trans h1 h2
end Go.Proofs.YthnmoiilaaoooaaGreat.L
