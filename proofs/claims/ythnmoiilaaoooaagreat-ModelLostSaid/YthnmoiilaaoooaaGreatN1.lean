/- Plain: a read of what was not there is found. -/
import Derived.Test.YthnmoiilaaoooaaGreatM6
import Derived.Test.YthnmoiilaaoooaaGreatF4
namespace Go.Proofs.YthnmoiilaaoooaaGreat.L
open Go Go.Proofs
set_option linter.unusedSimpArgs false
set_option linter.unusedVariables false

/-! ### A row put, and read -/
theorem takeWhile_at {α : Type} {p : α → Bool} : ∀ {l : List α} {r : α}, p r = false → ∀ m : List α, ((l.takeWhile p) ++ r :: m).takeWhile p = l.takeWhile p
  | [], r, h, m => by simp [List.takeWhile_cons, h]
  | a :: l, r, h, m => by
    cases ha : p a with
    | true => simp only [List.takeWhile_cons, ha, if_true, List.cons_append]; rw [takeWhile_at (l := l) h]
    | false => simp [List.takeWhile_cons, ha, h]
theorem putR_form (l : List Rw) (r : Rw) : ∃ m, putR l r = l.takeWhile (fun x => decide (cmpB x.key r.key < 0)) ++ r :: m ∧ (∀ x ∈ m, x ∈ l.dropWhile (fun x => decide (cmpB x.key r.key < 0))) ∧ m.Sublist (l.dropWhile (fun x => decide (cmpB x.key r.key < 0))) ∧ ∀ h t, l.dropWhile (fun x => decide (cmpB x.key r.key < 0)) = h :: t → (cmpB h.key r.key = 0 ∧ m = t) ∨ (¬ cmpB h.key r.key = 0 ∧ m = h :: t) := by
  have hsp := List.takeWhile_append_dropWhile (p := fun x : Rw => decide (cmpB x.key r.key < 0)) (l := l)
  obtain ⟨A, hA⟩ : ∃ A, A = l.takeWhile (fun x => decide (cmpB x.key r.key < 0)) := ⟨_, rfl⟩
  obtain ⟨B, hB⟩ : ∃ B, B = l.dropWhile (fun x => decide (cmpB x.key r.key < 0)) := ⟨_, rfl⟩
  have hlb : lbR l r.key = A.length := by rw [hA]; rfl
  rw [← hA, ← hB] at hsp
  rw [← hA, ← hB]
  have hf : fndR l r.key = B.head?.any (fun x => decide (cmpB x.key r.key = 0)) := by
    unfold fndR
    rw [hlb, ← hsp, List.getElem?_append_right (Nat.le_refl _), Nat.sub_self]
    cases B <;> rfl
  unfold putR
  rw [hlb, hf]
  cases B with
  | nil =>
    refine ⟨[], ?_, fun x hx => (by cases hx), List.Sublist.refl _, fun h t e => (by cases e)⟩
    rw [if_neg (by simp)]
    unfold insAt
    rw [← hsp]
    simp
  | cons b B =>
    by_cases hb : cmpB b.key r.key = 0
    · refine ⟨B, ?_, fun x hx => List.mem_cons_of_mem _ hx, List.sublist_cons_self _ _, fun h t e => .inl ⟨by cases e; exact hb, by cases e; rfl⟩⟩
      rw [if_pos (by simpa using hb), ← hsp, List.set_append_right _ _ (Nat.le_refl _), Nat.sub_self, List.set_cons_zero]
    · refine ⟨b :: B, ?_, fun x hx => hx, List.Sublist.refl _, fun h t e => .inr ⟨by cases e; exact hb, e⟩⟩
      rw [if_neg (by simpa using hb)]
      unfold insAt
      rw [← hsp, List.take_left', List.drop_left'] <;> simp
theorem get_put (l : List Rw) (r : Rw) : getR (putR l r) r.key = (r.value, true) := by
  obtain ⟨m, hm, _⟩ := putR_form l r
  have hself : ¬ cmpB r.key r.key < 0 := by rw [cmpB_self]; decide
  have hlb : lbR (putR l r) r.key = (l.takeWhile (fun x => decide (cmpB x.key r.key < 0))).length := by
    unfold lbR
    rw [hm, takeWhile_at (by simpa using hself)]
  have hat : (putR l r)[lbR (putR l r) r.key]? = some r := by
    rw [hlb, hm, List.getElem?_append_right (Nat.le_refl _), Nat.sub_self]; rfl
  unfold getR
  rw [if_pos (by unfold fndR; rw [hat]; simp [cmpB_self]), gd_at hat]
theorem put_pos (l : List Rw) (r : Rw) : 0 < (putR l r).length := by
  obtain ⟨m, hm, _⟩ := putR_form l r
  rw [hm, List.length_append, List.length_cons]; omega
theorem mem_tw {α : Type} {p : α → Bool} : ∀ {l : List α} {x : α}, x ∈ l.takeWhile p → p x = true
  | [], _, h => by cases h
  | a :: l, x, h => by
    cases ha : p a with
    | false => simp [List.takeWhile_cons, ha] at h
    | true =>
      simp only [List.takeWhile_cons, ha, if_true, List.mem_cons] at h
      rcases h with rfl | h
      · exact ha
      · exact mem_tw h
theorem dropWhile_head {α : Type} {p : α → Bool} : ∀ {l t : List α} {h : α}, l.dropWhile p = h :: t → p h = false
  | [], _, _, e => by cases e
  | a :: l, t, h, e => by
    cases ha : p a with
    | true => rw [List.dropWhile_cons, if_pos ha] at e; exact dropWhile_head e
    | false => rw [List.dropWhile_cons, if_neg (by rw [ha]; decide)] at e; cases e; exact ha
theorem put_rises {l : List Rw} {r : Rw} (h : risesR l = true) : risesR (putR l r) = true := by
  have hp := (adj_pair (f := fun a b : Rw => decide (cmpB a.key b.key < 0)) (fun a b c h1 h2 => decide_eq_true (cmpB_trans (of_decide_eq_true h1) (of_decide_eq_true h2))) h).imp (fun h => of_decide_eq_true h)
  refine adj_of_pair ?_
  obtain ⟨m, hm, hsub, hsl, hh⟩ := putR_form l r
  rw [hm]
  rw [← List.takeWhile_append_dropWhile (p := fun x : Rw => decide (cmpB x.key r.key < 0)) (l := l), List.pairwise_append] at hp
  obtain ⟨pA, pB, pAB⟩ := hp
  have hgt : ∀ x ∈ m, cmpB r.key x.key < 0 := fun x hx => by
    cases hd : l.dropWhile (fun x => decide (cmpB x.key r.key < 0)) with
    | nil => have := hsub x hx; rw [hd] at this; cases this
    | cons b B =>
      have hb0 : ¬ cmpB b.key r.key < 0 := by have := dropWhile_head hd; simpa using this
      rw [hd, List.pairwise_cons] at pB
      rcases hh b B hd with ⟨e, rfl⟩ | ⟨e, rfl⟩
      · rw [← cmpB_zero.1 e]; exact pB.1 x hx
      · have hbr : cmpB r.key b.key < 0 := by rw [cmpB_anti]; omega
        rcases List.mem_cons.1 hx with rfl | hx
        · exact hbr
        · exact cmpB_trans hbr (pB.1 x hx)
  rw [List.pairwise_append]
  refine ⟨pA.imp (fun h => decide_eq_true h), List.pairwise_cons.2 ⟨fun x hx => decide_eq_true (hgt x hx), (pB.sublist hsl).imp (fun h => decide_eq_true h)⟩, fun a ha x hx => decide_eq_true ?_⟩
  have har : cmpB a.key r.key < 0 := by have := mem_tw ha; simpa using this
  rcases List.mem_cons.1 hx with rfl | hx
  · exact har
  · exact pAB a ha x (hsub x hx)
theorem put_mem {l : List Rw} {r x : Rw} (h : x ∈ putR l r) : x ∈ l ∨ x = r := by
  obtain ⟨m, hm, hsub, _⟩ := putR_form l r
  rw [hm, List.mem_append, List.mem_cons] at h
  rcases h with h | h | h
  · exact .inl ((List.takeWhile_prefix _).subset h)
  · exact .inr h
  · exact .inl ((List.dropWhile_suffix _).subset (hsub x h))
/-! ### What is unclaimed stays right -/
theorem adj_mapS {α : Type} {f : α → α → Bool} {g : α → α} (h : ∀ a b, f (g a) (g b) = f a b) : ∀ l : List α, adj f (l.map g) = adj f l
  | [] => rfl
  | [a] => rfl
  | a :: b :: l => by
    have ih := adj_mapS h (b :: l)
    simp only [List.map_cons] at ih ⊢
    simp only [adj, h, ih]
theorem unclM_right (m : Msg) : (unclM m).right = m.right := rfl
theorem unclO_right (o : Ob) : (unclO o).right = o.right := by
  have h1 : risesM (o.msgs.map unclM) = risesM o.msgs := by
    unfold risesM
    rw [adj_mapS (g := unclM) (fun a b => rfl), List.map_map]
    rfl
  have h2 : (o.msgs.map unclM).all Msg.right = o.msgs.all Msg.right := by rw [List.all_map]; rfl
  unfold Ob.right unclO
  dsimp only
  rw [h1, h2, List.length_map]
theorem unclO_ids (o : Ob) : (unclO o).ids = o.ids := by
  unfold Ob.ids unclO
  dsimp only
  rw [List.map_append, List.map_append, List.map_map]
  rfl
theorem unclS_right (s : Stt) : (unclS s).right = s.right := by
  have h1 : (unclS s).ids = s.ids := by
    unfold Stt.ids unclS
    dsimp only
    rw [List.flatMap_map]
    congr 1
    funext o
    exact unclO_ids o
  have h2 : (s.objs.map unclO).all Ob.right = s.objs.all Ob.right := by
    rw [List.all_map]
    congr 1
    funext o
    exact unclO_right o
  unfold Stt.right Stt.once
  rw [h1]
  unfold unclS
  dsimp only
  rw [h2, List.length_map, adj_mapS (g := unclO) (fun a b => rfl)]
/-! ### A row put into a table -/
def putE (table key value : ByteArray) : Eff := ⟨2, table, key, value, 0, 0, false, mz0⟩
def putO (o : Ob) (r : Rw) : Ob := { o with rows := putR o.rows r }
theorem putO_right {o : Ob} {r : Rw} (hk : o.kind = 1) (hr : r.right = true) (h : o.right = true) : (putO o r).right = true := by
  unfold Ob.right at h ⊢
  rw [if_pos hk] at h
  rw [if_pos (show (putO o r).kind = 1 from hk)]
  simp only [Bool.and_eq_true, List.all_eq_true] at h ⊢
  obtain ⟨⟨h1, h2⟩, ⟨⟨h3, h4⟩, h5⟩, h6⟩ := h
  refine ⟨⟨h1, h2⟩, ⟨⟨h3, h4⟩, put_rises h5⟩, fun x hx => ?_⟩
  rcases put_mem hx with hx | rfl
  · exact h6 x hx
  · exact hr
theorem set_right {s : Stt} {i : Nat} {o p : Ob} (ho : s.objs[i]? = some o) (hn : p.name = o.name) (hi : p.ids = o.ids) (hp : p.right = true) (h : s.right = true) : Stt.right ⟨s.next, s.objs.set i p⟩ = true := by
  obtain ⟨hil, hoe⟩ := List.getElem?_eq_some_iff.1 ho
  have hids : Stt.ids ⟨s.next, s.objs.set i p⟩ = s.ids := by
    unfold Stt.ids
    dsimp only
    rw [List.set_eq_take_append_cons_drop, if_pos hil]
    conv => rhs; rw [← List.take_append_drop i s.objs, List.drop_eq_getElem_cons hil, hoe]
    simp only [List.flatMap_append, List.flatMap_cons, hi]
  have hnm : ∀ f : ByteArray → ByteArray → Bool, adj (fun a b : Ob => f a.name b.name) (s.objs.set i p) = adj (fun a b : Ob => f a.name b.name) s.objs := fun f => by
    have key : ∀ l : List Ob, adj (fun a b : Ob => f a.name b.name) l = adj f (l.map (·.name)) := by
      intro l
      induction l with
      | nil => rfl
      | cons a l ih =>
        cases l with
        | nil => rfl
        | cons b l => simp only [List.map_cons] at ih ⊢; simp only [adj, ih]
    rw [key, key, List.map_set, hn]
    congr 1
    refine List.ext_getElem? fun j => ?_
    rw [List.getElem?_set]
    split
    · rename_i e
      subst e
      rw [List.getElem?_map, ho]
      simp [hil]
    · rfl
  unfold Stt.right Stt.once at h ⊢
  rw [hids]
  simp only [Bool.and_eq_true, List.all_eq_true, List.length_set] at h ⊢
  obtain ⟨⟨⟨⟨⟨h1, h2⟩, h3⟩, h4⟩, h5⟩, h6⟩ := h
  refine ⟨⟨⟨⟨⟨h1, h2⟩, h3⟩, fun x hx => ?_⟩, ?_⟩, h6⟩
  · rcases List.mem_or_eq_of_mem_set hx with hx | rfl
    · exact h4 x hx
    · exact hp
  · rw [hnm (fun a b => decide (cmpB a b < 0))]; exact h5
/-- A table of a right state, and what a put makes of it. -/
structure Tbl (s : Stt) (name : ByteArray) (i : Nat) (o : Ob) : Prop where
  right : s.right = true
  find : findO s name = i
  at' : s.objs[i]? = some o
  name' : o.name = name
  kind : o.kind = 1
theorem Tbl.rows {s : Stt} {name : ByteArray} {i : Nat} {o : Ob} (h : Tbl s name i o) : rowsS s name = o.rows := by
  unfold rowsS
  rw [h.find, if_neg (by omega), Int.toNat_natCast, gd_at h.at']
theorem putE_right {table key value : ByteArray} (h1 : effName table = true) (h2 : Rw.right ⟨key, value⟩ = true) : (putE table key value).right = true := by
  unfold Eff.right
  have e1 : (putE table key value).named = putE table key value := by simp [Eff.named, putE, mz0]
  rw [e1]
  simp [Eff.rightK, putE, h1, h2]
theorem Tbl.put {s : Stt} {name : ByteArray} {i : Nat} {o : Ob} (h : Tbl s name i o) {key value : ByteArray} (hr : Rw.right ⟨key, value⟩ = true) :
    doS s (putE name key value) = (⟨s.next, s.objs.set i (putO o ⟨key, value⟩)⟩, 0) ∧ Tbl ⟨s.next, s.objs.set i (putO o ⟨key, value⟩)⟩ name i (putO o ⟨key, value⟩) := by
  have hSR := right_SR h.right
  have hom := List.mem_of_getElem? h.at'
  have hor := hSR.obj o hom
  have hon := (right_ob hor).1
  rw [h.name'] at hon
  have her := putE_right (key := key) (value := value) hon hr
  have hil := (List.getElem?_eq_some_iff.1 h.at').1
  constructor
  · unfold doS
    rw [if_neg (by rw [her]; decide), if_neg (show ¬ (putE name key value).kind = 1 from (by decide : ¬ (2 : Int) = 1)), if_neg (show ¬ (putE name key value).kind = 8 from (by decide : ¬ (2 : Int) = 8)), if_neg (show ¬ findO s (putE name key value).object < 0 by rw [show findO s (putE name key value).object = (i : Int) from h.find]; omega)]
    have hg : s.objs.getD (findO s (putE name key value).object).toNat Ob.zero = o := by
      show s.objs.getD (findO s name).toNat Ob.zero = o
      rw [h.find, Int.toNat_natCast, gd_at h.at']
    rw [hg, if_neg (by rw [decide_eq_true (show (putE name key value).kind = 2 ∨ (putE name key value).kind = 3 from .inl rfl), decide_eq_true h.kind]; decide), if_pos (.inl rfl)]
    unfold tableO
    rw [if_pos (show (putE name key value).kind = 2 from rfl), show findO s (putE name key value).object = (i : Int) from h.find, Int.toNat_natCast]
    rfl
  · refine ⟨set_right h.at' rfl rfl (putO_right h.kind hr hor) h.right, ?_, List.getElem?_set_self hil, h.name', h.kind⟩
    have hf := h.find
    unfold findO at hf ⊢
    refine idxP_some (x := putO o ⟨key, value⟩) (List.getElem?_set_self hil) (decide_eq_true h.name') ?_
    show ((s.objs.set i _).take i).any _ = false
    rw [List.take_set_of_le (Nat.le_refl _)]
    have h2 : ¬ idxP (fun o : Ob => decide (o.name = name)) s.objs < 0 := by rw [hf]; omega
    unfold idxP at hf
    cases hfi : s.objs.findIdx? (fun o : Ob => decide (o.name = name)) with
    | none => rw [hfi] at hf; simp at hf
    | some j =>
      rw [hfi] at hf
      simp only at hf
      have hj : j = i := by omega
      subst hj
      obtain ⟨_, _, h3⟩ := List.findIdx?_eq_some_iff_getElem.1 hfi
      rw [List.any_eq_false]
      intro x hx
      obtain ⟨k, hk, rfl⟩ := List.mem_take_iff_getElem.1 hx
      have := h3 k (by omega)
      simpa using this
def dPut (table key value : ByteArray) : Deed := ⟨⟨8, table, key, value, 0, 0⟩, 0, 0, ⟨⟨#[]⟩, ⟨#[]⟩⟩, mz0⟩
def dGet (table key value : ByteArray) : Deed := ⟨⟨7, table, key, ⟨#[]⟩, 0, 0⟩, 0, 0, ⟨key, value⟩, mz0⟩
theorem eff_dPut (t k v : ByteArray) : effsD [dPut t k v] = [putE t k v] := rfl
theorem eff_dPG (t k v v2 : ByteArray) : effsD [dPut t k v, dGet t k v2] = [putE t k v] := rfl
theorem eff_dG (t k v2 : ByteArray) : effsD [dGet t k v2] = [] := rfl
theorem read_put (s : Stt) (l : List Deed) (t k v : ByteArray) : readD s l (dPut t k v) = true := if_neg (show ¬ (8 : Int) = 7 by decide)
theorem do_put (l : List Deed) (t k v : ByteArray) : doD l (dPut t k v) = l ++ [dPut t k v] := if_neg (show ¬ (8 : Int) = 5 by decide)
theorem do_get (l : List Deed) (t k v : ByteArray) : doD l (dGet t k v) = l ++ [dGet t k v] := if_neg (show ¬ (7 : Int) = 5 by decide)
theorem read_get {s : Stt} {l : List Deed} {t k v v2 : ByteArray} (h : getS s (effsD l) t k = (v, true)) : readD s l (dGet t k v2) = decide (v2 = v) := by
  have e : readD s l (dGet t k v2) = ((getS s (effsD l) t k).2 && decide ((⟨k, v2⟩ : Rw) = ⟨k, (getS s (effsD l) t k).1⟩)) := if_pos rfl
  rw [e, h, Bool.true_and]
  simp [rw_ext]
section
variable {s : Stt} {t : ByteArray} {i : Nat} {o : Ob} {k v v2 : ByteArray}
theorem Tbl.get1 (h : Tbl s t i o) : getS s (effsD [dPut t k v]) t k = (v, true) := by
  rw [eff_dPut]
  unfold getS tblS
  rw [h.rows]
  show getR (putT t o.rows (putE t k v)) k = _
  unfold putT
  rw [if_pos (show (putE t k v).object = t from rfl)]
  exact get_put o.rows ⟨k, v⟩
theorem Tbl.get2 (h : Tbl s t i o) (hr : Rw.right ⟨k, v⟩ = true) : getS ⟨s.next, s.objs.set i (putO o ⟨k, v⟩)⟩ (effsD []) t k = (v, true) := by
  unfold getS tblS
  rw [(h.put hr).2.rows]
  exact get_put o.rows ⟨k, v⟩
theorem apply1 (h : Tbl s t i o) (hr : Rw.right ⟨k, v⟩ = true) : applyS s [putE t k v] = (⟨s.next, s.objs.set i (putO o ⟨k, v⟩)⟩, 0) := by
  unfold applyS
  rw [if_neg (by rw [h.right]; decide)]
  have := (h.put hr).1
  rw [doAll_step (by rw [this]), this]
  rfl
theorem run_put (h : Tbl s t i o) (hr : Rw.right ⟨k, v⟩ = true) : runS s [dPut t k v] = (⟨s.next, s.objs.set i (putO o ⟨k, v⟩)⟩, true) := by
  have e : runR s [] [dPut t k v] = some [dPut t k v] := by
    unfold runR
    rw [if_pos (read_put _ _ _ _ _), do_put]
    rfl
  unfold runS
  rw [e]
  show ((applyS s (effsD [dPut t k v])).1, _) = _
  rw [eff_dPut, apply1 h hr]
  rfl
theorem run_put_get (h : Tbl s t i o) (hr : Rw.right ⟨k, v⟩ = true) : runS s [dPut t k v, dGet t k v] = (⟨s.next, s.objs.set i (putO o ⟨k, v⟩)⟩, true) := by
  have e : runR s [] [dPut t k v, dGet t k v] = some [dPut t k v, dGet t k v] := by
    unfold runR
    rw [if_pos (read_put _ _ _ _ _), do_put]
    show runR s [dPut t k v] [dGet t k v] = _
    unfold runR
    rw [if_pos (by rw [read_get h.get1]; simp), do_get]
    rfl
  unfold runS
  rw [e]
  show ((applyS s (effsD [dPut t k v, dGet t k v])).1, _) = _
  rw [eff_dPG, apply1 h hr]
  rfl
theorem run_put_bad (h : Tbl s t i o) (hr : Rw.right ⟨k, v⟩ = true) (hne : v ≠ v2) : runS s [dPut t k v, dGet t k v2] = (⟨0, []⟩, false) := by
  have e : runR s [] [dPut t k v, dGet t k v2] = none := by
    unfold runR
    rw [if_pos (read_put _ _ _ _ _), do_put]
    show runR s [dPut t k v] [dGet t k v2] = _
    unfold runR
    rw [if_neg (by rw [read_get h.get1]; simp; exact fun e => hne e.symm)]
  unfold runS
  rw [e]
theorem run_get (h : Tbl s t i o) (hr : Rw.right ⟨k, v⟩ = true) : runS ⟨s.next, s.objs.set i (putO o ⟨k, v⟩)⟩ [dGet t k v] = (⟨s.next, s.objs.set i (putO o ⟨k, v⟩)⟩, true) := by
  have e : runR ⟨s.next, s.objs.set i (putO o ⟨k, v⟩)⟩ [] [dGet t k v] = some [dGet t k v] := by
    unfold runR
    rw [if_pos (by rw [read_get (h.get2 hr)]; simp), do_get]
    rfl
  unfold runS
  rw [e]
  show ((applyS _ (effsD [dGet t k v])).1, _) = _
  rw [eff_dG]
  unfold applyS
  rw [if_neg (by rw [(h.put hr).2.right]; decide)]
  rfl
theorem run_bad (h : Tbl s t i o) (hr : Rw.right ⟨k, v⟩ = true) (hne : v ≠ v2) : runS ⟨s.next, s.objs.set i (putO o ⟨k, v⟩)⟩ [dGet t k v2] = (⟨0, []⟩, false) := by
  have e : runR ⟨s.next, s.objs.set i (putO o ⟨k, v⟩)⟩ [] [dGet t k v2] = none := by
    unfold runR
    rw [if_neg (by rw [read_get (h.get2 hr)]; simp; exact fun e => hne e.symm)]
  unfold runS
  rw [e]
theorem ser_a (h : Tbl s t i o) (hr : Rw.right ⟨k, v⟩ = true) : serS s [[dPut t k v, dGet t k v], [dGet t k v]] = (⟨s.next, s.objs.set i (putO o ⟨k, v⟩)⟩, true) := by
  unfold serS
  rw [run_put_get h hr, if_pos rfl]
  unfold serS
  rw [run_get h hr, if_pos rfl]
  rfl
theorem ser_b (h : Tbl s t i o) (hr : Rw.right ⟨k, v⟩ = true) (hne : v ≠ v2) : serS s [[dPut t k v, dGet t k v2]] = (s, false) := by
  unfold serS
  rw [run_put_bad h hr hne, if_neg (by decide)]
theorem ser_c (h : Tbl s t i o) (hr : Rw.right ⟨k, v⟩ = true) (hne : v ≠ v2) : serS s [[dPut t k v], [dGet t k v2]] = (⟨s.next, s.objs.set i (putO o ⟨k, v⟩)⟩, false) := by
  unfold serS
  rw [run_put h hr, if_pos rfl]
  unfold serS
  rw [run_bad h hr hne, if_neg (by decide)]
end
theorem Tbl.uncl {s : Stt} {name : ByteArray} {i : Nat} {o : Ob} (h : Tbl s name i o) : Tbl (unclS s) name i (unclO o) := by
  refine ⟨by rw [unclS_right]; exact h.right, ?_, by show (s.objs.map unclO)[i]? = _; rw [List.getElem?_map, h.at']; rfl, h.name', h.kind⟩
  have := h.find
  unfold findO at this ⊢
  show idxP _ (s.objs.map unclO) = _
  rw [idxP_map]
  exact this
end Go.Proofs.YthnmoiilaaoooaaGreat.L
