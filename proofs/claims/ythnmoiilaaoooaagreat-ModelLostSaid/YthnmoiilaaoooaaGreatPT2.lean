/- Plain: a change keeps a state small. -/
import Derived.Test.YthnmoiilaaoooaaGreatE2
namespace Go.Proofs.YthnmoiilaaoooaaGreat.L
open Go Go.Proofs
set_option linter.unusedSimpArgs false
set_option linter.unusedVariables false

def Ob.small (x : Ob) (n : Nat) : Prop := x.sm ∧ x.rows.length ≤ n ∧ x.msgs.length ≤ n ∧ x.dead.length ≤ n
structure Stt.small (s : Stt) (n : Nat) : Prop where
  nx : -9223372036854775808 ≤ s.next ∧ s.next ≤ 9223372036854775807
  len : s.objs.length ≤ 1000000000
  obs : ∀ o ∈ s.objs, o.small n
theorem Ob.small.more {x : Ob} {n m : Nat} (h : x.small n) (hm : n ≤ m) : x.small m := ⟨h.1, by have := h.2.1; omega, by have := h.2.2.1; omega, by have := h.2.2.2; omega⟩
theorem Stt.small.more {s : Stt} {n m : Nat} (h : s.small n) (hm : n ≤ m) : s.small m := ⟨h.nx, h.len, fun o ho => (h.obs o ho).more hm⟩
theorem Msg.sm_tried {m : Msg} (h : m.sm) : m.tried.sm := by
  obtain ⟨h1, h2, h3, h4, h5⟩ := h
  refine ⟨h1, h2, ?_, h4, h5⟩
  show -9223372036854775808 ≤ (if 999 < m.retry then 999 else m.retry) + 1 ∧ (if 999 < m.retry then 999 else m.retry) + 1 ≤ 9223372036854775807
  split <;> omega
theorem Msg.sm_claim {m : Msg} (h : m.sm) (b : Bool) : Msg.sm { m with claimed := b } := h
theorem Msg.sm_right {m : Msg} (h : m.right = true) : m.sm := by
  unfold Msg.right at h
  simp only [Bool.and_eq_true, decide_eq_true_eq] at h
  exact ⟨by omega, by omega, by omega, by omega, by omega⟩
theorem insAt_mem {α : Type} {l : List α} {i : Nat} {x y : α} (h : y ∈ insAt l i x) : y ∈ l ∨ y = x := by
  unfold insAt at h
  rcases List.mem_append.1 h with h | h
  · rcases List.mem_append.1 h with h | h
    · exact .inl (List.mem_of_mem_take h)
    · exact .inr (List.mem_singleton.1 h)
  · exact .inl (List.mem_of_mem_drop h)
theorem insAt_le {α : Type} (l : List α) (i : Nat) (x : α) : (insAt l i x).length ≤ l.length + 1 := by
  unfold insAt
  have := congrArg List.length (List.take_append_drop i l)
  rw [List.length_append] at this
  rw [List.length_append, List.length_append, List.length_singleton]
  omega
theorem gd_mem {α : Type} {l : List α} {i : Nat} {d : α} : l.getD i d ∈ l ∨ l.getD i d = d := by
  rw [List.getD_eq_getElem?_getD]
  cases h : l[i]? with
  | none => exact .inr rfl
  | some x => exact .inl (List.mem_of_getElem? h)
theorem gd_sm {l : List Msg} (h : ∀ m ∈ l, m.sm) (i : Nat) : (l.getD i ⟨0, 0, 0, false, ⟨#[]⟩, ⟨#[]⟩⟩).sm := by
  rcases gd_mem (l := l) (i := i) (d := ⟨0, 0, 0, false, ⟨#[]⟩, ⟨#[]⟩⟩) with h1 | h1
  · exact h _ h1
  · rw [h1]; exact ⟨by decide, by decide, by decide, by decide, by decide⟩
theorem set_all {α : Type} {P : α → Prop} {l : List α} {i : Nat} {y : α} (h : ∀ x ∈ l, P x) (hy : P y) : ∀ x ∈ l.set i y, P x := fun x hx => (List.mem_or_eq_of_mem_set hx).elim (h x) (fun e => by rw [e]; exact hy)
theorem cutM_all {P : Msg → Prop} {l : List Msg} (id : Int) (h : ∀ x ∈ l, P x) : (∀ x ∈ (cutM l id).1, P x) ∧ (cutM l id).1.length ≤ l.length := by
  unfold cutM
  split
  · exact ⟨h, Nat.le_refl _⟩
  · exact ⟨fun x hx => h x (List.mem_of_mem_eraseIdx hx), List.length_eraseIdx_le _ _⟩
theorem claimM_all {l : List Msg} (id : Int) (on : Bool) (h : ∀ x ∈ l, x.sm) : (∀ x ∈ (claimM l id on).1, x.sm) ∧ (claimM l id on).1.length ≤ l.length := by
  unfold claimM
  split
  · exact ⟨h, Nat.le_refl _⟩
  · split
    · exact ⟨h, Nat.le_refl _⟩
    · exact ⟨set_all h (Msg.sm_claim (gd_sm h _) on), Nat.le_of_eq List.length_set⟩
theorem freeO_small {o : Ob} {n : Nat} (id : Int) (t : Bool) (hn : n + 1 ≤ 140737488351232) (h : o.small n) : (freeO o id t).1.small (n + 1) := by
  have h' := h.more (Nat.le_succ n)
  obtain ⟨⟨s1, s2, s3, s4, s5, s6, s7, s8, s9⟩, l1, l2, l3⟩ := h
  have hd := gd_sm s5 (findM o.msgs id).toNat
  unfold freeO
  split
  · exact h'
  · split
    · exact h'
    · split
      · refine ⟨⟨s1, s2, s3, s4, set_all s5 (Msg.sm_claim hd false), s6, s7, ?_, s9⟩, by show o.rows.length ≤ _; omega, ?_, by show o.dead.length ≤ _; omega⟩
        · show (o.msgs.set _ _).length ≤ _; rw [List.length_set]; exact s8
        · show (o.msgs.set _ _).length ≤ _; rw [List.length_set]; omega
      · split
        · have he := List.length_eraseIdx_le o.msgs (findM o.msgs id).toNat
          refine ⟨⟨s1, s2, s3, s4, fun x hx => s5 x (List.mem_of_mem_eraseIdx hx), fun x hx => ?_, s7, ?_, ?_⟩, by show o.rows.length ≤ _; omega, ?_, ?_⟩
          · rcases List.mem_append.1 hx with hx | hx
            · exact s6 x hx
            · rw [List.mem_singleton.1 hx]; exact Msg.sm_tried hd
          · show (o.msgs.eraseIdx _).length ≤ _; omega
          · show (o.dead ++ [_]).length ≤ _; rw [List.length_append, List.length_singleton]; omega
          · show (o.msgs.eraseIdx _).length ≤ _; omega
          · show (o.dead ++ [_]).length ≤ _; rw [List.length_append, List.length_singleton]; omega
        · refine ⟨⟨s1, s2, s3, s4, set_all s5 (Msg.sm_tried hd), s6, s7, ?_, s9⟩, by show o.rows.length ≤ _; omega, ?_, by show o.dead.length ≤ _; omega⟩
          · show (o.msgs.set _ _).length ≤ _; rw [List.length_set]; exact s8
          · show (o.msgs.set _ _).length ≤ _; rw [List.length_set]; omega
theorem right_k {e : Eff} (h : e.right = true) : e.rightK = true := by
  unfold Eff.right at h
  rw [Bool.and_eq_true] at h
  exact h.2
theorem queueO_small {s : Stt} {o : Ob} {e : Eff} {n : Nat} (hn : n + 1 ≤ 140737488351232) (hr : e.right = true) (h : o.small n) : (queueO s o e).1.small (n + 1) := by
  have h' := h.more (Nat.le_succ n)
  have hf := freeO_small e.n e.tried hn h
  obtain ⟨⟨s1, s2, s3, s4, s5, s6, s7, s8, s9⟩, l1, l2, l3⟩ := h
  unfold queueO
  split
  · rename_i hk
    have hm : e.msg.right = true := by
      have := right_k hr
      unfold Eff.rightK at this
      rw [if_neg (by omega), if_neg (by omega), if_neg (by omega), if_pos hk, Bool.and_eq_true] at this
      exact this.2
    split
    · exact h'
    · split
      · exact h'
      · have ha : (addM o.msgs e.msg).length ≤ o.msgs.length + 1 := insAt_le _ _ _
        refine ⟨⟨s1, s2, s3, s4, fun x hx => ?_, s6, s7, ?_, s9⟩, by show o.rows.length ≤ _; omega, ?_, by show o.dead.length ≤ _; omega⟩
        · rcases insAt_mem (hx : x ∈ insAt o.msgs _ e.msg) with h1 | h1
          · exact s5 x h1
          · rw [h1]; exact Msg.sm_right hm
        · show (addM o.msgs e.msg).length ≤ _; omega
        · show (addM o.msgs e.msg).length ≤ _; omega
  · split
    · obtain ⟨c1, c2⟩ := cutM_all e.n s5
      exact ⟨⟨s1, s2, s3, s4, c1, s6, s7, Nat.le_trans c2 s8, s9⟩, by show o.rows.length ≤ _; omega, by show (cutM o.msgs e.n).1.length ≤ _; omega, by show o.dead.length ≤ _; omega⟩
    · split
      · split
        · exact h'
        · obtain ⟨c1, c2⟩ := claimM_all e.n true s5
          exact ⟨⟨s1, s2, s3, s4, c1, s6, s7, Nat.le_trans c2 s8, s9⟩, by show o.rows.length ≤ _; omega, by show (claimM o.msgs e.n true).1.length ≤ _; omega, by show o.dead.length ≤ _; omega⟩
      · split
        · exact hf
        · exact h'
theorem rw_sm {r : Rw} (h : r.right = true) : r.sm := by
  unfold Rw.right rwKey at h
  simp only [Bool.and_eq_true, decide_eq_true_eq] at h
  exact ⟨by omega, by omega⟩
theorem tableO_small {o : Ob} {e : Eff} {n : Nat} (hn : n + 1 ≤ 140737488351232) (hr : e.right = true) (h : o.small n) : (tableO o e).1.small (n + 1) := by
  obtain ⟨⟨s1, s2, s3, s4, s5, s6, s7, s8, s9⟩, l1, l2, l3⟩ := h
  unfold tableO
  split
  · rename_i hk
    have hm : Rw.right ⟨e.key, e.value⟩ = true := by
      have := right_k hr
      unfold Eff.rightK at this
      rw [if_neg (by omega), if_pos hk, Bool.and_eq_true] at this
      exact this.2
    have hl : (putR o.rows ⟨e.key, e.value⟩).length ≤ o.rows.length + 1 := by
      unfold putR
      split
      · rw [List.length_set]; omega
      · exact insAt_le _ _ _
    refine ⟨⟨s1, s2, s3, fun x hx => ?_, s5, s6, ?_, s8, s9⟩, ?_, by show o.msgs.length ≤ _; omega, by show o.dead.length ≤ _; omega⟩
    · have hx : x ∈ putR o.rows ⟨e.key, e.value⟩ := hx
      unfold putR at hx
      split at hx
      · rcases List.mem_or_eq_of_mem_set hx with h1 | h1
        · exact s4 x h1
        · rw [h1]; exact rw_sm hm
      · rcases insAt_mem hx with h1 | h1
        · exact s4 x h1
        · rw [h1]; exact rw_sm hm
    · show (putR o.rows ⟨e.key, e.value⟩).length ≤ _; omega
    · show (putR o.rows ⟨e.key, e.value⟩).length ≤ _; omega
  · have hl : (cutR o.rows e.key).1.length ≤ o.rows.length := by
      unfold cutR
      split
      · exact List.length_eraseIdx_le _ _
      · exact Nat.le_refl _
    refine ⟨⟨s1, s2, s3, fun x hx => ?_, s5, s6, ?_, s8, s9⟩, ?_, by show o.msgs.length ≤ _; omega, by show o.dead.length ≤ _; omega⟩
    · have hx : x ∈ (cutR o.rows e.key).1 := hx
      unfold cutR at hx
      split at hx
      · exact s4 x (List.mem_of_mem_eraseIdx hx)
      · exact s4 x hx
    · show (cutR o.rows e.key).1.length ≤ _; omega
    · show (cutR o.rows e.key).1.length ≤ _; omega
theorem ob_zero_small (n : Nat) : Ob.zero.small n := ⟨⟨(by decide), (by decide), (by decide), (fun _ h => by cases h), (fun _ h => by cases h), (fun _ h => by cases h), by decide, by decide, by decide⟩, Nat.zero_le _, Nat.zero_le _, Nat.zero_le _⟩
theorem doS_small {s : Stt} {n : Nat} (hn : n + 1 ≤ 140737488351232) (h : s.small n) (e : Eff) : (doS s e).1.small (n + 1) := by
  have h' := h.more (Nat.le_succ n)
  have hg : (s.objs.getD (findO s e.object).toNat Ob.zero).small n := by
    rcases gd_mem (l := s.objs) (i := (findO s e.object).toNat) (d := Ob.zero) with h1 | h1
    · exact h.obs _ h1
    · rw [h1]; exact ob_zero_small n
  unfold doS
  split
  · exact h'
  · rename_i hr
    have hr : e.right = true := by simpa using hr
    have hk := right_k hr
    split
    · rename_i hk1
      unfold makeS
      split
      · exact h'
      · split
        · exact h'
        · have hkk : (effName e.object && effKind e.n e.limit) = true := by
            unfold Eff.rightK at hk
            rwa [if_pos hk1] at hk
          rw [Bool.and_eq_true] at hkk
          refine ⟨h'.nx, ?_, fun o ho => ?_⟩
          · exact Nat.le_trans (insAt_le _ _ _) (by omega)
          · rcases insAt_mem (ho : o ∈ insAt s.objs _ _) with h1 | h1
            · exact h'.obs o h1
            · rw [h1]
              have h2 := hkk.1
              have h3 := hkk.2
              unfold effName at h2
              rw [Bool.and_eq_true, decide_eq_true_eq, decide_eq_true_eq] at h2
              have h4 : (1 ≤ e.n ∧ e.n ≤ 2) ∧ 0 ≤ e.limit ∧ e.limit ≤ 1000 := by
                unfold effKind at h3
                split at h3
                · have := of_decide_eq_true h3; omega
                · split at h3
                  · rw [Bool.and_eq_true, decide_eq_true_eq, decide_eq_true_eq] at h3; omega
                  · cases h3
              exact ⟨⟨by show e.object.size ≤ _; omega, by show _ ≤ e.n ∧ e.n ≤ _; omega, by show _ ≤ e.limit ∧ e.limit ≤ _; omega, (fun _ h => by cases h), (fun _ h => by cases h), (fun _ h => by cases h), Nat.zero_le _, Nat.zero_le _, Nat.zero_le _⟩, Nat.zero_le _, Nat.zero_le _, Nat.zero_le _⟩
    · split
      · rename_i hk8
        unfold nextS
        split
        · exact h'
        · have hid : effId e.n = true := by
            unfold Eff.rightK at hk
            rwa [if_neg (by omega), if_neg (by omega), if_neg (by omega), if_neg (by omega), if_neg (by omega), if_pos hk8] at hk
          unfold effId at hid
          rw [Bool.and_eq_true, decide_eq_true_eq, decide_eq_true_eq] at hid
          exact ⟨by show _ ≤ e.n ∧ e.n ≤ _; omega, h'.len, h'.obs⟩
      · split
        · exact h'
        · split
          · exact h'
          · split
            · exact ⟨h'.nx, by show (s.objs.set _ _).length ≤ _; rw [List.length_set]; exact h'.len, set_all h'.obs (tableO_small hn hr hg)⟩
            · exact ⟨h'.nx, by show (s.objs.set _ _).length ≤ _; rw [List.length_set]; exact h'.len, set_all h'.obs (queueO_small hn hr hg)⟩
end Go.Proofs.YthnmoiilaaoooaaGreat.L
