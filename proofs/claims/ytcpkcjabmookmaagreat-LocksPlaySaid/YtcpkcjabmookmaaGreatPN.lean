/- Plain: the order of names. -/
import Derived.Test.YtcpkcjabmookmaaGreatJ2
namespace Go.Proofs.YtcpkcjabmookmaaGreat.L
open Go Go.Proofs
set_option linter.unusedSimpArgs false
set_option linter.unusedVariables false

theorem cmpI_anti (a b : Int) : cmpI b a = - cmpI a b := by unfold cmpI; (repeat' split) <;> omega
theorem cmpI_neg {a b : Int} : cmpI a b < 0 ↔ a < b := by unfold cmpI; (repeat' split) <;> omega
theorem cmpI_zero {a b : Int} : cmpI a b = 0 ↔ a = b := by unfold cmpI; (repeat' split) <;> omega
theorem cmpL_anti : ∀ a b : List UInt8, cmpL b a = - cmpL a b
  | [], [] => rfl
  | [], _ :: _ => rfl
  | _ :: _, [] => rfl
  | x :: xs, y :: ys => by
    have ih := cmpL_anti xs ys
    unfold cmpL
    simp only [UInt8.lt_iff_toNat_lt]
    (repeat' split) <;> omega
theorem cmpL_trans : ∀ {a b c : List UInt8}, cmpL a b < 0 → cmpL b c < 0 → cmpL a c < 0
  | [], [], _, h, _ => by simp [cmpL] at h
  | [], _ :: _, [], _, h => by simp [cmpL] at h
  | [], _ :: _, _ :: _, _, _ => by simp [cmpL]
  | _ :: _, [], _, h, _ => by simp [cmpL] at h
  | _ :: _, _ :: _, [], _, h => by simp [cmpL] at h
  | x :: xs, y :: ys, z :: zs, h1, h2 => by
    have ih := cmpL_trans (a := xs) (b := ys) (c := zs)
    unfold cmpL at h1 h2 ⊢
    simp only [UInt8.lt_iff_toNat_lt] at h1 h2 ⊢
    split at h1
    · split at h2
      · rw [if_pos (by omega)]; decide
      · split at h2
        · omega
        · rw [if_pos (by omega)]; decide
    · split at h1
      · omega
      · split at h2
        · rw [if_pos (by omega)]; decide
        · split at h2
          · omega
          · rw [if_neg (by omega), if_neg (by omega)]
            exact ih h1 h2
theorem cmpB_anti (a b : ByteArray) : cmpB b a = - cmpB a b := cmpL_anti _ _
theorem cmpB_trans {a b c : ByteArray} (h1 : cmpB a b < 0) (h2 : cmpB b c < 0) : cmpB a c < 0 := cmpL_trans h1 h2
theorem cmpN_zero {a b : Nm} : cmpN a b = 0 ↔ a = b := by
  rw [nm_ext]
  unfold cmpN
  constructor
  · intro h
    split at h
    · rename_i h1; exact absurd h h1
    · rename_i h1
      split at h
      · rename_i h2; exact absurd h h2
      · rename_i h2
        exact ⟨cmpI_zero.1 (Decidable.not_not.1 h1), cmpB_zero.1 (Decidable.not_not.1 h2), cmpB_zero.1 h⟩
  · rintro ⟨h1, h2, h3⟩
    rw [if_neg (by simp [cmpI_zero.2 h1]), if_neg (by simp [cmpB_zero.2 h2]), cmpB_zero.2 h3]
theorem cmpN_anti (a b : Nm) : cmpN b a = - cmpN a b := by
  unfold cmpN
  rw [cmpI_anti a.deep b.deep, cmpB_anti a.object b.object, cmpB_anti a.row b.row]
  (repeat' split) <;> omega
theorem cmpN_trans {a b c : Nm} (h1 : cmpN a b < 0) (h2 : cmpN b c < 0) : cmpN a c < 0 := by
  have z1 : cmpI a.deep b.deep = 0 → a.deep = b.deep := cmpI_zero.1
  have z2 : cmpI b.deep c.deep = 0 → b.deep = c.deep := cmpI_zero.1
  have y1 : cmpB a.object b.object = 0 → a.object = b.object := cmpB_zero.1
  have y2 : cmpB b.object c.object = 0 → b.object = c.object := cmpB_zero.1
  unfold cmpN at h1 h2 ⊢
  by_cases ha : cmpI a.deep b.deep = 0
  · rw [if_neg (by simp [ha])] at h1
    rw [z1 ha]
    by_cases hb : cmpI b.deep c.deep = 0
    · rw [if_neg (by simp [hb])] at h2 ⊢
      by_cases hc : cmpB a.object b.object = 0
      · rw [if_neg (by simp [hc])] at h1
        rw [y1 hc]
        by_cases hd : cmpB b.object c.object = 0
        · rw [if_neg (by simp [hd])] at h2 ⊢
          exact cmpB_trans h1 h2
        · rw [if_pos hd] at h2 ⊢; exact h2
      · rw [if_pos hc] at h1
        by_cases hd : cmpB b.object c.object = 0
        · rw [← y2 hd, if_pos hc]; exact h1
        · rw [if_pos hd] at h2
          have := cmpB_trans h1 h2
          rw [if_pos (by omega)]; exact this
    · rw [if_pos hb] at h2 ⊢; exact h2
  · rw [if_pos ha] at h1
    by_cases hb : cmpI b.deep c.deep = 0
    · rw [← z2 hb, if_pos ha]; exact h1
    · rw [if_pos hb] at h2
      have : cmpI a.deep c.deep < 0 := cmpI_neg.2 (by have := cmpI_neg.1 h1; have := cmpI_neg.1 h2; omega)
      rw [if_pos (by omega)]; exact this
/-- Each name is ahead of all behind it. -/
def Srt (es : List E) : Prop := es.Pairwise (fun a b => cmpN a.name b.name < 0)
theorem srt_before {es : List E} (h : Srt es) {i j : Nat} {a b : E} (ha : es[i]? = some a) (hb : es[j]? = some b) (hij : i < j) : cmpN a.name b.name < 0 := by
  obtain ⟨h1, rfl⟩ := List.getElem?_eq_some_iff.1 ha
  obtain ⟨h2, rfl⟩ := List.getElem?_eq_some_iff.1 hb
  exact List.pairwise_iff_getElem.1 h i j h1 h2 hij
def lbN (es : List E) (n : Nm) : Nat := (es.takeWhile (fun e => decide (cmpN e.name n < 0))).length
def fndN (es : List E) (n : Nm) : Bool := (es[lbN es n]?).any (fun e => decide (cmpN e.name n = 0))
theorem tw_eq {α : Type} {f : α → Bool} {l : List α} {i : Nat} (ha : (l.take i).all f = true) (hi : i ≤ l.length) (hn : ∀ e, l[i]? = some e → f e = false) : (l.takeWhile f).length = i := by
  have hs : l = l.take i ++ l.drop i := (List.take_append_drop i l).symm
  conv => lhs; rw [hs]
  rw [List.takeWhile_append_of_pos (by simpa using ha), List.length_append, List.length_take]
  have : (l.drop i).takeWhile f = [] := by
    cases hd : l.drop i with
    | nil => rfl
    | cons x t =>
      have hx : l[i]? = some x := by
        have : (l.drop i)[0]? = some x := by rw [hd]; rfl
        rw [List.getElem?_drop] at this
        exact this
      rw [List.takeWhile_cons, if_neg (by rw [hn x hx]; exact Bool.false_ne_true)]
  rw [this]
  simp only [List.length_nil]
  omega
theorem lbN_le (es : List E) (n : Nm) : lbN es n ≤ es.length := (List.takeWhile_prefix _).length_le
theorem lb_low {es : List E} (h : Srt es) {n : Nm} {i : Nat} {e : E} (he : es[i]? = some e) (hc : cmpN e.name n < 0) : (es.take (i + 1)).all (fun e => decide (cmpN e.name n < 0)) = true := by
  rw [List.all_eq_true]
  intro x hx
  obtain ⟨j, hj, rfl⟩ := List.mem_take_iff_getElem.1 hx
  rw [decide_eq_true_eq]
  by_cases hji : j = i
  · subst hji
    rw [(List.getElem?_eq_some_iff.1 he).2]; exact hc
  · exact cmpN_trans (srt_before h (List.getElem?_eq_getElem (by omega)) he (by omega)) hc
theorem lb_high {es : List E} (h : Srt es) {n : Nm} {i : Nat} {e : E} (he : es[i]? = some e) (hc : ¬ cmpN e.name n < 0) : ∀ j x, i ≤ j → es[j]? = some x → ¬ cmpN x.name n < 0 := by
  intro j x hij hx hlt
  by_cases hji : i = j
  · subst hji
    rw [he] at hx
    cases hx
    exact hc hlt
  · exact hc (cmpN_trans (srt_before h he hx (by omega)) hlt)
theorem find_take {α : Type} {f : α → Bool} {l : List α} {i : Nat} {x : α} (hx : l[i]? = some x) (hn : (l.take i).any f = false) (hf : f x = true) : l.find? f = some x := by
  have hs : l = l.take i ++ x :: l.drop (i + 1) := by
    obtain ⟨h1, rfl⟩ := List.getElem?_eq_some_iff.1 hx
    rw [← List.drop_eq_getElem_cons h1, List.take_append_drop]
  rw [hs, List.find?_append]
  have : (l.take i).find? f = none := by
    rw [List.find?_eq_none]
    rw [List.any_eq_false] at hn
    exact hn
  rw [this]
  simp [hf]
theorem find_none {α : Type} {f : α → Bool} {l : List α} (hn : l.any f = false) : l.find? f = none := by
  rw [List.find?_eq_none]
  rw [List.any_eq_false] at hn
  exact hn
end Go.Proofs.YtcpkcjabmookmaaGreat.L
