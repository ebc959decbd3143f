/- Plain: what a lock's calls keep: lengths, nobody twice; the document's telling is the program's. -/
import Derived.Test.YtcpkcjabmookmaaGreatHB
namespace Go.Proofs.YtcpkcjabmookmaaGreat.L
open Go Go.Proofs
set_option linter.unusedSimpArgs false
set_option linter.unusedVariables false

/-! ### Lengths -/
def Lk.size (k : Lk) : Nat := k.hold.length + k.line.length
theorem Lk.grant_size (k : Lk) (x : One) : (k.grant x).size ≤ k.size + 1 := by
  have h1 := k.grant_len x
  have h2 := k.grant_same x
  unfold Lk.size
  rw [h2]
  omega
theorem Lk.wait_size (k : Lk) (x : One) : (k.wait x).size = k.size + 1 := by
  have h := k.wait_len x
  have h2 : (k.wait x).hold = k.hold := rfl
  unfold Lk.size
  rw [h2, h]
  omega
theorem Lk.ask_size (k : Lk) (who m : Int) : (k.ask who m).2.size ≤ k.size + 1 := by
  unfold Lk.ask
  split
  · exact Nat.le_succ _
  · split
    · exact Nat.le_succ _
    · split
      · split
        · exact Nat.le_succ _
        · split
          · exact k.grant_size _
          · exact Nat.le_of_eq (k.wait_size _)
      · split
        · exact k.grant_size _
        · exact Nat.le_of_eq (k.wait_size _)
theorem pump_size : ∀ (l h : List One), (pump h l).2.size ≤ h.length + l.length
  | [], h => Nat.le_refl _
  | x :: l, h => by
    unfold pump
    split
    · have h1 := pump_size l ((Lk.mk h []).grant x).hold
      have h2 := (Lk.mk h []).grant_len x
      have h2 : ((Lk.mk h []).grant x).hold.length ≤ h.length + 1 := h2
      simp only [List.length_cons]
      omega
    · exact Nat.le_refl _
theorem Lk.without_size (k : Lk) (who : Int) : (k.without who).size ≤ k.size := by
  have h1 : (k.without who).hold.length ≤ k.hold.length := List.length_filter_le _ _
  have h2 : (k.without who).line.length ≤ k.line.length := List.length_filter_le _ _
  unfold Lk.size
  omega
theorem Lk.drop_size (k : Lk) (who : Int) : (k.drop who).2.size ≤ k.size :=
  Nat.le_trans (pump_size _ _) (k.without_size who)

/-! ### Nobody stands twice -/
structure Lk.Ok (k : Lk) : Prop where
  hn : (k.hold.map One.who).Nodup
  ln : (k.line.map One.who).Nodup
theorem at1_none {l : List One} {who : Int} (h : ¬ 0 ≤ at1 l who) : who ∉ l.map One.who := by
  intro hm
  obtain ⟨x, hx, rfl⟩ := List.mem_map.1 hm
  apply h
  unfold at1 idxP
  cases hf : l.findIdx? (fun y => decide (y.who = x.who)) with
  | none =>
    rw [List.findIdx?_eq_none_iff] at hf
    exact absurd (hf x hx) (by simp)
  | some i => exact Int.natCast_nonneg _
theorem at1_nonneg {l : List One} {who : Int} : 0 ≤ at1 l who ↔ who ∈ l.map One.who := by
  constructor
  · intro h
    obtain ⟨i, el, he, _, hw⟩ := at1_some h
    exact List.mem_map.2 ⟨el, List.mem_of_getElem? he, hw⟩
  · intro h
    exact Decidable.byContradiction fun hn => at1_none hn h
theorem map_set_who {l : List One} {i : Nat} {el x : One} (he : l[i]? = some el) (hw : el.who = x.who) : (l.set i x).map One.who = l.map One.who := by
  rw [List.map_set, ← hw]
  apply List.ext_getElem?
  intro j
  rw [List.getElem?_set]
  split
  · rename_i hij
    subst hij
    rw [List.getElem?_map, he]
    split
    · rfl
    · rename_i hn
      rw [List.length_map] at hn
      exact absurd (List.getElem?_eq_some_iff.1 he).1 hn
  · rfl
theorem Lk.grant_whos (k : Lk) (x : One) : (k.grant x).hold.map One.who = if 0 ≤ at1 k.hold x.who then k.hold.map One.who else k.hold.map One.who ++ [x.who] := by
  unfold Lk.grant
  split
  · rename_i h
    obtain ⟨i, el, he, hi, hw⟩ := at1_some h
    show (k.hold.set _ x).map One.who = _
    rw [hi, Int.toNat_natCast]
    exact map_set_who he hw
  · show (k.hold ++ [x]).map One.who = _
    rw [List.map_append]; rfl
theorem Lk.Ok.grant {k : Lk} (h : k.Ok) (x : One) : (k.grant x).Ok := by
  refine ⟨?_, by rw [Lk.grant_same]; exact h.ln⟩
  rw [k.grant_whos x]
  split
  · exact h.hn
  · rename_i hn
    rw [List.nodup_append]
    refine ⟨h.hn, by simp, ?_⟩
    intro a ha b hb
    simp only [List.mem_singleton] at hb
    subst hb
    intro hab
    subst hab
    exact at1_none hn ha
theorem nodup_insert {l : List Int} {w : Int} (h : l.Nodup) (hw : w ∉ l) (n : Nat) : (l.take n ++ [w] ++ l.drop n).Nodup := by
  have hp : (l.take n ++ [w] ++ l.drop n).Perm (w :: l) := by
    rw [List.append_assoc]
    refine (List.perm_append_comm_assoc _ _ _).trans ?_
    rw [List.take_append_drop]
    exact List.Perm.refl _
  rw [hp.nodup_iff]
  exact List.nodup_cons.2 ⟨hw, h⟩
theorem Lk.Ok.wait {k : Lk} (h : k.Ok) (x : One) (hx : ¬ 0 ≤ at1 k.line x.who) : (k.wait x).Ok := by
  refine ⟨h.hn, ?_⟩
  show ((k.line.take _ ++ [x] ++ k.line.drop _).map One.who).Nodup
  rw [List.map_append, List.map_append, List.map_take, List.map_drop]
  exact nodup_insert h.ln (at1_none hx) _
theorem Lk.Ok.ask {k : Lk} (h : k.Ok) (who m : Int) : (k.ask who m).2.Ok := by
  unfold Lk.ask
  split
  · exact h
  · split
    · exact h
    · rename_i hl
      split
      · split
        · exact h
        · split
          · exact h.grant _
          · exact h.wait _ hl
      · split
        · exact h.grant _
        · exact h.wait _ hl
theorem pump_ok : ∀ (l h : List One), (Lk.mk h l).Ok → (pump h l).2.Ok
  | [], h, ok => ok
  | x :: l, h, ok => by
    unfold pump
    split
    · refine pump_ok l _ ?_
      have h1 := (Lk.Ok.mk (k := ⟨h, l⟩) ok.hn (List.nodup_cons.1 ok.ln).2).grant x
      rw [Lk.grant_line] at h1
      exact h1
    · exact ok
theorem Lk.Ok.drop {k : Lk} (h : k.Ok) (who : Int) : (k.drop who).2.Ok := by
  refine pump_ok _ _ ⟨?_, ?_⟩
  · exact List.Nodup.sublist (List.Sublist.map _ List.filter_sublist) h.hn
  · exact List.Nodup.sublist (List.Sublist.map _ List.filter_sublist) h.ln
theorem Lk.ok_nil : (Lk.mk [] []).Ok := ⟨List.nodup_nil, List.nodup_nil⟩

/-! ### The document's telling of who holds -/
theorem atH_nonneg {l : List Hold} {who : Int} : 0 ≤ atH l who ↔ who ∈ l.map Hold.who := by
  constructor
  · intro h
    obtain ⟨i, el, he, _, hw⟩ := atH_some h
    exact List.mem_map.2 ⟨el, List.mem_of_getElem? he, hw⟩
  · intro h
    obtain ⟨x, hx, rfl⟩ := List.mem_map.1 h
    unfold atH idxP
    cases hf : l.findIdx? (fun y => decide (y.who = x.who)) with
    | none =>
      rw [List.findIdx?_eq_none_iff] at hf
      exact absurd (hf x hx) (by simp)
    | some i => exact Int.natCast_nonneg _
theorem at1_snoc_wants {l : List One} {x : One} {who : Int} (hx : x.who ∉ l.map One.who) : wantsIn (l ++ [x]) who = if who = x.who then x.mode else wantsIn l who := by
  unfold wantsIn
  have hmem : 0 ≤ at1 (l ++ [x]) who ↔ 0 ≤ at1 l who ∨ who = x.who := by
    rw [at1_nonneg, at1_nonneg, List.map_append, List.mem_append]; simp
  by_cases hw : who = x.who
  · subst hw
    have h0 : 0 ≤ at1 (l ++ [x]) x.who := hmem.2 (.inr rfl)
    rw [if_pos h0, if_pos rfl]
    obtain ⟨i, el, he, hi, hwe⟩ := at1_some h0
    rw [hi, Int.toNat_natCast, getD_at he]
    rw [List.getElem?_append] at he
    split at he
    · exact absurd (List.mem_map.2 ⟨el, List.mem_of_getElem? he, hwe⟩) hx
    · cases hj : i - l.length with
      | zero => rw [hj] at he; cases he; rfl
      | succ j => rw [hj] at he; simp at he
  · rw [if_neg hw]
    by_cases hl : 0 ≤ at1 l who
    · rw [if_pos (hmem.2 (.inl hl)), if_pos hl]
      have : at1 (l ++ [x]) who = at1 l who := by
        obtain ⟨i, el, he, hi, hwe⟩ := at1_some hl
        unfold at1 idxP at hi ⊢
        rw [List.findIdx?_append]
        cases hf : l.findIdx? (fun y => decide (y.who = who)) with
        | none => rw [hf] at hi; exact absurd hi (by show ¬ (-1 : Int) = _; omega)
        | some j => rfl
      rw [this]
      obtain ⟨i, el, he, hi, hwe⟩ := at1_some hl
      rw [hi, Int.toNat_natCast, getD_at he, getD_at (by rw [List.getElem?_append_left (List.getElem?_eq_some_iff.1 he).1]; exact he)]
    · rw [if_neg (fun h => (hmem.1 h).elim hl hw), if_neg hl]
/-- What the first of the line make of the holders. -/
def Lk.tell (k : Lk) (l : List One) : List Hold := k.hold.map (fun h => ⟨h.who, h.mode, wantsIn l h.who⟩) ++ (l.filter (fun w => !k.has w.who)).map One.wait1
theorem findIdx_map_who (l : List One) (f : One → Hold) (hf : ∀ x, (f x).who = x.who) (who : Int) : atH (l.map f) who = at1 l who := by
  unfold atH at1 idxP
  rw [List.findIdx?_map]
  have : ((fun x : Hold => decide (x.who = who)) ∘ f) = (fun x : One => decide (x.who = who)) := by funext x; simp [hf]
  rw [this]
theorem Lk.tell_snoc {k : Lk} (ok : k.Ok) {l : List One} {x : One} (hx : x.who ∉ l.map One.who) : rh1 (k.tell l) x = k.tell (l ++ [x]) := by
  have hw := fun who => at1_snoc_wants (who := who) hx
  unfold rh1
  by_cases hh : k.has x.who = true
  · -- a holder
    have h0 : 0 ≤ at1 k.hold x.who := of_decide_eq_true hh
    obtain ⟨i, el, he, hi, hwe⟩ := at1_some h0
    have hil := (List.getElem?_eq_some_iff.1 he).1
    have hat : atH (k.tell l) x.who = (i : Int) := by
      unfold Lk.tell
      have h1 := findIdx_map_who k.hold (fun h => ⟨h.who, h.mode, wantsIn l h.who⟩) (fun _ => rfl) x.who
      rw [hi] at h1
      unfold atH idxP at h1 ⊢
      rw [List.findIdx?_append]
      cases hf : (k.hold.map fun h => (⟨h.who, h.mode, wantsIn l h.who⟩ : Hold)).findIdx? (fun y => decide (y.who = x.who)) with
      | none => rw [hf] at h1; exact absurd h1 (by show ¬ (-1 : Int) = _; omega)
      | some j => rw [hf] at h1; exact h1
    rw [if_pos (by rw [hat]; exact Int.natCast_nonneg _), hat, Int.toNat_natCast]
    have hget : (k.tell l)[i]? = some ⟨el.who, el.mode, wantsIn l el.who⟩ := by
      unfold Lk.tell
      rw [List.getElem?_append_left (by rw [List.length_map]; exact hil), List.getElem?_map, he]; rfl
    rw [List.getD_eq_getElem?_getD, hget]
    unfold Lk.tell
    rw [List.set_append_left _ _ (by rw [List.length_map]; exact hil), List.filter_append]
    have hf : ([x].filter fun w => !k.has w.who) = [] := by simp [hh]
    rw [hf, List.append_nil]
    congr 1
    apply List.ext_getElem?
    intro j
    rw [List.getElem?_set, List.getElem?_map, List.getElem?_map]
    by_cases hij : i = j
    · subst hij
      rw [if_pos rfl, if_pos (by rw [List.length_map]; exact hil), he]
      simp only [Option.map_some, Option.getD_some]
      rw [hw, if_pos hwe]
    · rw [if_neg hij]
      cases hj : k.hold[j]? with
      | none => rfl
      | some y =>
        simp only [Option.map_some]
        rw [hw, if_neg]
        intro hy
        have hyw : y.who = el.who := hy.trans hwe.symm
        have hnd := ok.hn
        have h1 : (k.hold.map One.who)[i]? = some el.who := by rw [List.getElem?_map, he]; rfl
        have h2 : (k.hold.map One.who)[j]? = some el.who := by rw [List.getElem?_map, hj, ← hyw]; rfl
        exact hij ((List.getElem?_inj (by rw [List.length_map]; exact hil) hnd).1 (h1.trans h2.symm))
  · -- none
    have hh' : k.has x.who = false := by simpa using hh
    have hnh : x.who ∉ k.hold.map One.who := at1_none (of_decide_eq_false hh')
    have hnot : ¬ 0 ≤ atH (k.tell l) x.who := by
      rw [atH_nonneg]
      unfold Lk.tell
      rw [List.map_append, List.map_map, List.map_map, List.mem_append]
      rintro (h | h)
      · exact hnh h
      · obtain ⟨y, hy, hyw⟩ := List.mem_map.1 h
        exact hx (List.mem_map.2 ⟨y, (List.mem_filter.1 hy).1, hyw⟩)
    rw [if_neg hnot]
    unfold Lk.tell
    rw [List.filter_append, List.map_append, ← List.append_assoc]
    have hf : ([x].filter fun w => !k.has w.who) = [x] := by simp [hh']
    rw [hf]
    congr 2
    apply List.map_congr_left
    intro y hy
    rw [hw, if_neg]
    intro hyx
    exact hnh (List.mem_map.2 ⟨y, hy, hyx⟩)
theorem Lk.rHolds_eq {k : Lk} (ok : k.Ok) : k.rHolds = k.holds := by
  have key : ∀ n, n ≤ k.line.length → (k.line.take n).foldl rh1 (k.hold.map One.held1) = k.tell (k.line.take n) := by
    intro n
    induction n with
    | zero =>
      intro _
      simp only [List.take_zero, List.foldl_nil, Lk.tell, List.filter_nil, List.map_nil, List.append_nil]
      apply List.map_congr_left
      intro y hy
      rfl
    | succ n ih =>
      intro hn
      obtain ⟨x, hx⟩ : ∃ x, k.line[n]? = some x := ⟨_, List.getElem?_eq_getElem (by omega)⟩
      rw [foldl_take_succ _ _ hx, ih (by omega), List.take_add_one, hx]
      refine k.tell_snoc ok ?_
      intro hm
      have hnd := ok.ln
      have hs : k.line.map One.who = (k.line.take n).map One.who ++ x.who :: (k.line.drop (n + 1)).map One.who := by
        have := List.getElem?_eq_some_iff.1 hx
        obtain ⟨h1, h2⟩ := this
        rw [← List.map_cons, ← List.map_append, ← h2, ← List.drop_eq_getElem_cons h1, List.take_append_drop]
      rw [hs, List.nodup_append] at hnd
      exact hnd.2.2 _ hm _ (List.mem_cons_self) rfl
  have := key k.line.length (Nat.le_refl _)
  rw [List.take_length] at this
  exact this

/-! ### For whom somebody waits -/
theorem insI_mem : ∀ (l : List Int) (n x : Int), x ∈ insI l n ↔ x = n ∨ x ∈ l
  | [], n, x => by simp [insI]
  | y :: l, n, x => by
    rw [insI]
    split
    · rw [List.mem_cons, insI_mem l n x, List.mem_cons]
      constructor
      · rintro (h | h | h) <;> simp [h]
      · rintro (h | h | h) <;> simp [h]
    · split
      · rename_i h; subst h; simp
      · simp
theorem insI_up : ∀ (l : List Int) (n : Int), l.Pairwise (· < ·) → (insI l n).Pairwise (· < ·)
  | [], n, _ => by simp [insI]
  | y :: l, n, h => by
    rw [insI]
    have h' := List.pairwise_cons.1 h
    split
    · rename_i hy
      rw [List.pairwise_cons]
      refine ⟨fun x hx => ?_, insI_up l n h'.2⟩
      rcases (insI_mem l n x).1 hx with rfl | hx
      · exact hy
      · exact h'.1 x hx
    · split
      · exact h
      · rw [List.pairwise_cons]
        refine ⟨fun x hx => ?_, h⟩
        rcases List.mem_cons.1 hx with rfl | hx
        · omega
        · have := h'.1 x hx; omega
theorem foldl_insI : ∀ (l z : List Int), z.Pairwise (· < ·) → (l.foldl insI z).Pairwise (· < ·) ∧ ∀ x, x ∈ l.foldl insI z ↔ x ∈ z ∨ x ∈ l
  | [], z, h => ⟨h, fun x => by simp⟩
  | y :: l, z, h => by
    obtain ⟨h1, h2⟩ := foldl_insI l (insI z y) (insI_up z y h)
    refine ⟨h1, fun x => ?_⟩
    rw [List.foldl_cons, h2, insI_mem, List.mem_cons]
    constructor
    · rintro ((h | h) | h) <;> simp [h]
    · rintro (h | h | h) <;> simp [h]
theorem compactL_mem {l : List Int} : ∀ x, x ∈ compactL l ↔ x ∈ l := by
  intro x
  induction l with
  | nil => simp [compactL]
  | cons a l ih =>
    cases l with
    | nil => simp [compactL]
    | cons b l =>
      rw [compactL]
      split
      · rename_i h; subst h; rw [ih]; simp
      · rw [List.mem_cons, ih]; simp only [List.mem_cons]
theorem compactL_up {l : List Int} (h : l.Pairwise (· ≤ ·)) : (compactL l).Pairwise (· < ·) := by
  induction l with
  | nil => exact List.Pairwise.nil
  | cons a l ih =>
    cases l with
    | nil => simp [compactL]
    | cons b l =>
      have h' := List.pairwise_cons.1 h
      have h'' := List.pairwise_cons.1 h'.2
      rw [compactL]
      split
      · exact ih h'.2
      · rename_i hab
        rw [List.pairwise_cons]
        refine ⟨fun x hx => ?_, ih h'.2⟩
        have hx := (compactL_mem x).1 hx
        have h1 := h'.1 b (List.mem_cons_self)
        rcases List.mem_cons.1 hx with rfl | hx
        · omega
        · have := h''.1 x hx; omega
theorem up_unique : ∀ {l m : List Int}, l.Pairwise (· < ·) → m.Pairwise (· < ·) → (∀ x, x ∈ l ↔ x ∈ m) → l = m
  | [], [], _, _, _ => rfl
  | [], y :: m, _, _, h => absurd ((h y).2 List.mem_cons_self) (by simp)
  | y :: l, [], _, _, h => absurd ((h y).1 List.mem_cons_self) (by simp)
  | x :: l, y :: m, hl, hm, h => by
    have hl' := List.pairwise_cons.1 hl
    have hm' := List.pairwise_cons.1 hm
    have hxy : x = y := by
      have h1 := (h x).1 List.mem_cons_self
      have h2 := (h y).2 List.mem_cons_self
      rcases List.mem_cons.1 h1 with h1 | h1
      · exact h1
      · rcases List.mem_cons.1 h2 with h2 | h2
        · exact h2.symm
        · have a := hm'.1 x h1
          have b := hl'.1 y h2
          omega
    subst hxy
    rw [up_unique hl'.2 hm'.2 (fun z => ?_)]
    constructor
    · intro hz
      rcases List.mem_cons.1 ((h z).1 (List.mem_cons_of_mem _ hz)) with rfl | hz'
      · exact absurd (hl'.1 _ hz) (by omega)
      · exact hz'
    · intro hz
      rcases List.mem_cons.1 ((h z).2 (List.mem_cons_of_mem _ hz)) with rfl | hz'
      · exact absurd (hm'.1 _ hz) (by omega)
      · exact hz'
theorem sort_up (l : List Int) : (l.mergeSort fun x y => decide (x ≤ y)).Pairwise (· ≤ ·) := by
  have h := List.pairwise_mergeSort (le := fun x y : Int => decide (x ≤ y)) (fun a b c h1 h2 => by simp only [decide_eq_true_eq] at h1 h2 ⊢; omega) (fun a b => by simp only [Bool.or_eq_true, decide_eq_true_eq]; omega) l
  exact h.imp (fun h => by simpa using h)
theorem compact_sort (l : List Int) : compactL (l.mergeSort fun x y => decide (x ≤ y)) = l.foldl insI [] := by
  obtain ⟨h1, h2⟩ := foldl_insI l [] List.Pairwise.nil
  refine up_unique (compactL_up (sort_up l)) h1 (fun x => ?_)
  rw [compactL_mem, h2, List.mem_mergeSort]
  simp
theorem Lk.waits_eq (k : Lk) (who : Int) : k.waits who = (k.waitsR who).foldl insI [] := compact_sort _
theorem pump_out : ∀ (l h : List One), (pump h l).1.length ≤ l.length
  | [], h => Nat.le_refl _
  | x :: l, h => by
    unfold pump
    split
    · have := pump_out l ((Lk.mk h []).grant x).hold
      simp only [List.length_cons]
      omega
    · exact Nat.zero_le _
theorem Lk.drop_out (k : Lk) (who : Int) : (k.drop who).1.length ≤ k.size := by
  have h1 := pump_out (k.without who).line (k.without who).hold
  have h2 : (k.without who).line.length ≤ k.line.length := List.length_filter_le _ _
  have h3 : (k.drop who).1.length = (L.pump (k.without who).hold (k.without who).line).1.length := rfl
  unfold Lk.size
  omega
theorem Lk.holds_len (k : Lk) : k.holds.length ≤ k.size := by
  unfold Lk.holds Lk.size
  rw [List.length_append, List.length_map, List.length_map]
  have := List.length_filter_le (fun w => !k.has w.who) k.line
  omega
end Go.Proofs.YtcpkcjabmookmaaGreat.L
