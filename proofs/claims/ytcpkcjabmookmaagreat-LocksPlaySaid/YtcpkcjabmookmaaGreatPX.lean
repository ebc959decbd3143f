/- Plain: what the document's table answers is what the table answers. -/
import Derived.Test.YtcpkcjabmookmaaGreatZ1
namespace Go.Proofs.YtcpkcjabmookmaaGreat.L
open Go Go.Proofs
set_option linter.unusedSimpArgs false
set_option linter.unusedVariables false

theorem plain_plain {n : Nm} (h : n.plain.2 = true) : n.plain.1.plain = (n.plain.1, true) := by
  unfold Nm.plain at h ⊢
  split
  · rfl
  · split
    · rfl
    · rename_i h0 h1
      rw [if_neg h0, if_neg h1] at h
      exact congrArg (fun b => (n, b)) h
theorem plain_no {n : Nm} (h : n.plain.2 = false) : n.plain.1 = n := by
  unfold Nm.plain at h ⊢
  split
  · rename_i h0; rw [if_pos h0] at h; cases h
  · split
    · rename_i h0 h1; rw [if_neg h0, if_pos h1] at h; cases h
    · rfl
theorem plain_ok {n : Nm} : n.plain.2 = true ↔ 0 ≤ n.deep ∧ n.deep ≤ 2 := by
  unfold Nm.plain
  split
  · rename_i h0; rw [h0]; decide
  · split
    · rename_i h0 h1; exact ⟨fun _ => by omega, fun _ => rfl⟩
    · show decide (n.deep = 2) = true ↔ _
      rw [decide_eq_true_iff]; omega
theorem plain_fits {n : Nm} (h : n.fits) : n.plain.1.fits := by
  obtain ⟨h1, h2, h3⟩ := h
  unfold Nm.plain
  split
  · exact ⟨by decide, by decide, by decide⟩
  · split
    · exact ⟨(by decide : (-9223372036854775808 : Int) ≤ 1 ∧ (1 : Int) ≤ 9223372036854775807), h2, (by decide : ((0 : Nat) : Int) ≤ 9223372036854775807)⟩
    · exact ⟨h1, h2, h3⟩
/-! ### What is somebody's -/
theorem my_of {k : Lk} (ok : k.Ok) {x : Hold} (hx : x ∈ k.holds) : k.my x.who = x := by
  have h0 : 0 ≤ atH k.holds x.who := of_decide_eq_true (Lk.mine_iff.2 (List.mem_map_of_mem hx))
  obtain ⟨j, ho, hj, hji, hw⟩ := atH_some h0
  unfold Lk.my
  rw [if_pos h0, hji, Int.toNat_natCast, List.getD_eq_getElem?_getD, hj]
  show ho = x
  obtain ⟨a, ha⟩ := List.getElem?_of_mem hx
  have h1 : (k.holds.map Hold.who)[a]? = some x.who := by rw [List.getElem?_map, ha]; rfl
  have h2 : (k.holds.map Hold.who)[j]? = some x.who := by rw [List.getElem?_map, hj, ← hw]; rfl
  have hl : a < (k.holds.map Hold.who).length := by rw [List.length_map]; exact (List.getElem?_eq_some_iff.1 ha).1
  have := (List.getElem?_inj hl (Lk.holds_nodup ok)).1 (h1.trans h2.symm)
  subst this
  exact Option.some.inj (hj.symm.trans ha)
theorem my_hold {k : Lk} (ok : k.Ok) {el : One} (h : el ∈ k.hold) : k.my el.who = k.hold1 el :=
  my_of ok (x := k.hold1 el) (by unfold Lk.holds; exact List.mem_append_left _ (List.mem_map_of_mem h))
theorem my_line {k : Lk} (ok : k.Ok) {el : One} (h : el ∈ k.line) (hn : k.has el.who = false) : k.my el.who = el.wait1 :=
  my_of ok (x := el.wait1) (by unfold Lk.holds; exact List.mem_append_right _ (List.mem_map_of_mem (List.mem_filter.2 ⟨h, by rw [hn]; rfl⟩)))
theorem my_wants {k : Lk} (h : k.Inv) (who : Int) : (k.my who).wants ≠ 0 ↔ 0 ≤ at1 k.line who := by
  by_cases hh : 0 ≤ at1 k.hold who
  · obtain ⟨i, el, he, hi, rfl⟩ := at1_some hh
    rw [my_hold h.ok (List.mem_of_getElem? he)]
    show wantsIn k.line el.who ≠ 0 ↔ _
    unfold wantsIn
    by_cases hl : 0 ≤ at1 k.line el.who
    · obtain ⟨j, x, hx, hj, hw⟩ := at1_some hl
      rw [if_pos hl, hj, Int.toNat_natCast, getD_at hx]
      exact ⟨fun _ => by omega, fun _ => h.nz x (List.mem_of_getElem? hx)⟩
    · rw [if_neg hl]
      exact ⟨fun hn => absurd rfl hn, fun hn => absurd hn hl⟩
  · by_cases hl : 0 ≤ at1 k.line who
    · obtain ⟨j, x, hx, hj, rfl⟩ := at1_some hl
      rw [my_line h.ok (List.mem_of_getElem? hx) (decide_eq_false hh)]
      exact ⟨fun _ => hl, fun _ => h.nz x (List.mem_of_getElem? hx)⟩
    · rw [my_none (fun hw => (Lk.whos_mem.1 hw).elim (fun h1 => hh (at1_nonneg.2 h1)) (fun h1 => hl (at1_nonneg.2 h1)))]
      exact ⟨fun hn => absurd rfl hn, fun hn => absurd hn hl⟩
theorem my_mode {k : Lk} (ok : k.Ok) (who : Int) : (k.my who).mode = if at1 k.hold who < 0 then 0 else (k.hold.getD (at1 k.hold who).toNat ⟨0, 0⟩).mode := by
  by_cases hh : 0 ≤ at1 k.hold who
  · rw [if_neg (by omega)]
    obtain ⟨i, el, he, hi, rfl⟩ := at1_some hh
    rw [my_hold ok (List.mem_of_getElem? he), hi, Int.toNat_natCast, getD_at he]
    rfl
  · rw [if_pos (by omega)]
    by_cases hl : 0 ≤ at1 k.line who
    · obtain ⟨j, x, hx, hj, rfl⟩ := at1_some hl
      rw [my_line ok (List.mem_of_getElem? hx) (decide_eq_false hh)]
      rfl
    · rw [my_none (fun hw => (Lk.whos_mem.1 hw).elim (fun h1 => hh (at1_nonneg.2 h1)) (fun h1 => hl (at1_nonneg.2 h1)))]
/-! ### A table's locks are in order, its names may be -/
structure RI (T : List Ent) : Prop where
  inv : ∀ e ∈ T, e.k.Inv
  pl : ∀ e ∈ T, e.name.plain = (e.name, true)
  fits : ∀ e ∈ T, e.name.fits
theorem RI.nil : RI [] := ⟨(fun e h => by cases h), (fun e h => by cases h), (fun e h => by cases h)⟩
theorem askT_mem {T : List Ent} {n who m : Int} {nm : Nm} {e' : Ent} (h : e' ∈ (askT T n who nm m).2.1) : e' ∈ T ∨ ∃ k, e' = ⟨nm.plain.1, (k.ask who m).2⟩ ∧ nm.plain.2 = true ∧ (k = ⟨[], []⟩ ∨ ∃ e ∈ T, e.k = k) := by
  unfold askT at h
  split at h
  · exact .inl h
  · rename_i hp
    have hp : nm.plain.2 = true := by simpa using hp
    split at h
    · exact .inl h
    · split at h
      · exact .inl h
      · have setCase : ∀ {x : Ent}, fndT T nm.plain.1 = true → x ∈ T.set (lbT T nm.plain.1) ⟨nm.plain.1, ((kAt T (lbT T nm.plain.1)).ask who m).2⟩ → x ∈ T ∨ ∃ k, x = ⟨nm.plain.1, (k.ask who m).2⟩ ∧ nm.plain.2 = true ∧ (k = ⟨[], []⟩ ∨ ∃ e ∈ T, e.k = k) := fun hf hx => by
          obtain ⟨e, he, hen, hk⟩ := fndT_at hf
          rcases List.mem_or_eq_of_mem_set hx with h1 | h1
          · exact .inl h1
          · exact .inr ⟨_, h1, hp, .inr ⟨e, List.mem_of_getElem? he, hk.symm⟩⟩
        split at h
        · rename_i hf
          split at h
          · exact setCase hf h
          · split at h
            · exact .inl h
            · exact setCase hf h
        · split at h
          · exact .inl h
          · rcases List.mem_append.1 h with h | h
            · rcases List.mem_append.1 h with h | h
              · exact .inl (List.mem_of_mem_take h)
              · exact .inr ⟨_, List.mem_singleton.1 h, hp, .inl rfl⟩
            · exact .inl (List.mem_of_mem_drop h)
theorem RI.ask {T : List Ent} (h : RI T) (n who m : Int) {nm : Nm} (hn : nm.fits) : RI (askT T n who nm m).2.1 := by
  refine ⟨fun e he => ?_, fun e he => ?_, fun e he => ?_⟩
  · rcases askT_mem he with h1 | ⟨k, rfl, hp, hk⟩
    · exact h.inv e h1
    · rcases hk with rfl | ⟨e0, h0, rfl⟩
      · exact Lk.ask_inv Lk.inv_nil who m
      · exact Lk.ask_inv (h.inv e0 h0) who m
  · rcases askT_mem he with h1 | ⟨k, rfl, hp, hk⟩
    · exact h.pl e h1
    · exact plain_plain hp
  · rcases askT_mem he with h1 | ⟨k, rfl, hp, hk⟩
    · exact h.fits e h1
    · exact plain_fits hn
theorem RI.free {T : List Ent} (h : RI T) (n who : Int) : RI (freeT T n who).2.1 := by
  have hm : ∀ e ∈ (freeT T n who).2.1, ∃ e0 ∈ T, e = drT who e0 := fun e he => by
    obtain ⟨e0, h0, h1⟩ := List.mem_map.1 (List.mem_filter.1 he).1
    exact ⟨e0, h0, h1.symm⟩
  refine ⟨fun e he => ?_, fun e he => ?_, fun e he => ?_⟩
  · obtain ⟨e0, h0, rfl⟩ := hm e he
    unfold drT
    split
    · exact Lk.drop_inv (h.inv e0 h0) who
    · exact h.inv e0 h0
  · obtain ⟨e0, h0, rfl⟩ := hm e he
    rw [drT_name]; exact h.pl e0 h0
  · obtain ⟨e0, h0, rfl⟩ := hm e he
    rw [drT_name]; exact h.fits e0 h0
/-! ### Who waits, where a name is, what somebody holds, how many there are -/
theorem find_line (who : Int) : ∀ {es : List E}, (∀ e ∈ es, e.k.Inv) → es.find? (lineE who) = tWait es who
  | [], _ => rfl
  | e :: l, h => by
    unfold tWait
    rw [List.find?_cons, List.find?_cons]
    have : lineE who e = waitsE who e := decide_eq_decide.2 (my_wants (h e List.mem_cons_self) who).symm
    rw [this]
    cases waitsE who e with
    | true => rfl
    | false => exact find_line who (fun x hx => h x (List.mem_cons_of_mem _ hx))
theorem at_lb {T : List Ent} (hs : SrtT T) (n : Nm) : idxP (fun e : Ent => decide (e.name = n)) T = if fndT T n = true then (lbT T n : Int) else -1 := by
  by_cases hf : fndT T n = true
  · rw [if_pos hf]
    obtain ⟨e, he, hen, hk⟩ := fndT_at hf
    refine idxP_some he (decide_eq_true hen) (List.any_eq_false.2 fun x hx => ?_)
    have := lbT_low hx
    intro h
    rw [cmpN_zero.2 (of_decide_eq_true h)] at this
    exact absurd this (by decide)
  · rw [if_neg hf]
    refine idxP_none (List.any_eq_false.2 fun x hx => ?_)
    intro h
    have h0 := cmpN_zero.2 (of_decide_eq_true h)
    rw [← List.take_append_drop (lbT T n) T] at hx
    rcases List.mem_append.1 hx with hx | hx
    · have := lbT_low hx; omega
    · have := lbT_high hs hf hx
      rw [of_decide_eq_true h] at this h0
      omega
theorem atT_abs (es : List E) (n : Nm) : atT n es = idxP (fun e : Ent => decide (e.name = n)) (es.map E.abs) := by
  unfold atT idxP
  rw [List.findIdx?_map]
  rfl
theorem atT_lb {es : List E} (hs : SrtT (es.map E.abs)) (n : Nm) : atT n es = if fndT (es.map E.abs) n = true then (lbT (es.map E.abs) n : Int) else -1 := (atT_abs es n).trans (at_lb hs n)
theorem sumN_abs (es : List E) : sumN es = sumW (es.map E.abs) := by
  unfold sumN sumW
  rw [List.map_map]
  congr 1
  refine List.map_congr_left fun e _ => ?_
  show _ = e.k.whos.length
  rw [Lk.whos_len]
theorem mdN_abs {es : List E} (hs : SrtT (es.map E.abs)) (hr : RI (es.map E.abs)) (who : Int) (nm : Nm) : mdN es who nm.plain.1 = modeT (es.map E.abs) who nm := by
  unfold mdN modeT
  rw [atT_lb hs]
  by_cases hf : fndT (es.map E.abs) nm.plain.1 = true
  · rw [if_pos hf, if_neg (show ¬ ((lbT (es.map E.abs) nm.plain.1 : Nat) : Int) < 0 by omega)]
    obtain ⟨e, he, hen, hk⟩ := fndT_at hf
    have hp : nm.plain.2 = true := by
      cases hq : nm.plain.2 with
      | true => rfl
      | false =>
        have h1 := hr.pl e (List.mem_of_getElem? he)
        rw [hen, plain_no hq] at h1
        rw [h1] at hq
        cases hq
    rw [if_pos (show nm.plain.2 = true ∧ fndT (es.map E.abs) nm.plain.1 = true from ⟨hp, hf⟩), hk, my_mode (hr.inv e (List.mem_of_getElem? he)).ok]
    rw [List.getElem?_map] at he
    obtain ⟨x, hx, rfl⟩ := Option.map_eq_some_iff.1 he
    have hd : es.getD ((lbT (es.map E.abs) nm.plain.1 : Nat) : Int).toNat ⟨Nm.nil, none, ⟨[], []⟩⟩ = x := by rw [Int.toNat_natCast, List.getD_eq_getElem?_getD, hx]; rfl
    rw [hd]
    rfl
  · rw [if_neg hf, if_pos (show (-1 : Int) < 0 by decide), if_neg (show ¬ (nm.plain.2 = true ∧ fndT (es.map E.abs) nm.plain.1 = true) from fun h => hf h.2)]
/-! ### Rows of pairs that rise -/
def ltP (p q : P2) : Prop := p.a < q.a ∨ p.a = q.a ∧ p.b < q.b
theorem leP_iff {p q : P2} : leP2 p q = true ↔ ¬ ltP q p := by
  unfold leP2 ltP
  rw [ltP2]
  simp only [Bool.not_eq_true', decide_eq_false_iff_not]
theorem compactP_mem {l : List P2} : ∀ x, x ∈ compactL l ↔ x ∈ l := by
  intro x
  induction l with
  | nil => simp [compactL]
  | cons a l ih =>
    cases l with
    | nil => simp [compactL]
    | cons b l =>
      rw [compactL]
      split
      · rename_i h; subst h; rw [ih]; simp
      · rw [List.mem_cons, ih]; simp only [List.mem_cons]
theorem compactP_up {l : List P2} (h : l.Pairwise (fun p q => ¬ ltP q p)) : (compactL l).Pairwise ltP := by
  induction l with
  | nil => exact List.Pairwise.nil
  | cons a l ih =>
    cases l with
    | nil => simp [compactL]
    | cons b l =>
      have h' := List.pairwise_cons.1 h
      have h'' := List.pairwise_cons.1 h'.2
      rw [compactL]
      split
      · exact ih h'.2
      · rename_i hab
        rw [List.pairwise_cons]
        refine ⟨fun x hx => ?_, ih h'.2⟩
        have hx := (compactP_mem x).1 hx
        have h1 := h'.1 b (List.mem_cons_self)
        have hne : ¬ (a.a = b.a ∧ a.b = b.b) := fun hh => hab (by cases a; cases b; simp at hh; simp [hh])
        rcases List.mem_cons.1 hx with rfl | hx
        · unfold ltP at *; omega
        · have := h''.1 x hx; unfold ltP at *; omega
theorem upP_unique : ∀ {l m : List P2}, l.Pairwise ltP → m.Pairwise ltP → (∀ x, x ∈ l ↔ x ∈ m) → l = m
  | [], [], _, _, _ => rfl
  | [], y :: m, _, _, h => absurd ((h y).2 List.mem_cons_self) (by simp)
  | y :: l, [], _, _, h => absurd ((h y).1 List.mem_cons_self) (by simp)
  | x :: l, y :: m, hl, hm, h => by
    have hl' := List.pairwise_cons.1 hl
    have hm' := List.pairwise_cons.1 hm
    have hxy : x = y := by
      have h1 := (h x).1 List.mem_cons_self
      have h2 := (h y).2 List.mem_cons_self
      rcases List.mem_cons.1 h1 with h1 | h1
      · exact h1
      · rcases List.mem_cons.1 h2 with h2 | h2
        · exact h2.symm
        · have a := hm'.1 x h1
          have b := hl'.1 y h2
          unfold ltP at a b
          omega
    subst hxy
    rw [upP_unique hl'.2 hm'.2 (fun z => ?_)]
    constructor
    · intro hz
      rcases List.mem_cons.1 ((h z).1 (List.mem_cons_of_mem _ hz)) with rfl | h1
      · have := hl'.1 z hz; unfold ltP at this; omega
      · exact h1
    · intro hz
      rcases List.mem_cons.1 ((h z).2 (List.mem_cons_of_mem _ hz)) with rfl | h1
      · have := hm'.1 z hz; unfold ltP at this; omega
      · exact h1
theorem sortP_up (l : List P2) : (l.mergeSort leP2).Pairwise (fun p q => ¬ ltP q p) := by
  have h := List.pairwise_mergeSort (le := leP2) (fun a b c h1 h2 => by rw [leP_iff] at *; unfold ltP at *; omega) (fun a b => by
    rw [Bool.or_eq_true, leP_iff, leP_iff]; unfold ltP; omega) l
  exact h.imp fun h => leP_iff.1 h
/-! ### Who waits for whom -/
def insL (l : List One) (z : List Int) : List Int := l.foldl (fun w x => insI w x.who) z
theorem insL_map (l : List One) (z : List Int) : insL l z = (l.map One.who).foldl insI z := by unfold insL; rw [List.foldl_map]
def whoN (es : List E) : List Int := es.foldl (fun w e => insL e.k.line w) []
def toN (es : List E) (w : Int) : List Int := es.foldl (fun a e => (e.k.waits w).foldl insI a) []
def edN (es : List E) : List P2 := (whoN es).flatMap fun w => prsW w (toN es w)
theorem foldI_up {α : Type} (f : α → List Int) : ∀ (l : List α) (z : List Int), z.Pairwise (· < ·) → (l.foldl (fun a x => (f x).foldl insI a) z).Pairwise (· < ·) ∧ ∀ y, y ∈ l.foldl (fun a x => (f x).foldl insI a) z ↔ y ∈ z ∨ ∃ x ∈ l, y ∈ f x
  | [], z, h => ⟨h, fun y => by simp⟩
  | x :: l, z, h => by
    obtain ⟨h1, h2⟩ := foldl_insI (f x) z h
    obtain ⟨h3, h4⟩ := foldI_up f l _ h1
    refine ⟨h3, fun y => ?_⟩
    rw [List.foldl_cons, h4, h2]
    constructor
    · rintro ((h | h) | ⟨x', hx, h⟩)
      · exact .inl h
      · exact .inr ⟨x, List.mem_cons_self, h⟩
      · exact .inr ⟨x', List.mem_cons_of_mem _ hx, h⟩
    · rintro (h | ⟨x', hx, h⟩)
      · exact .inl (.inl h)
      · rcases List.mem_cons.1 hx with rfl | hx
        · exact .inl (.inr h)
        · exact .inr ⟨x', hx, h⟩
theorem whoN_up (es : List E) : (whoN es).Pairwise (· < ·) ∧ ∀ y, y ∈ whoN es ↔ ∃ e ∈ es, y ∈ e.k.line.map One.who := by
  have h := foldI_up (fun e : E => e.k.line.map One.who) es [] List.Pairwise.nil
  have e : whoN es = es.foldl (fun a x => (x.k.line.map One.who).foldl insI a) [] := by
    unfold whoN
    congr 1
    funext w e
    exact insL_map _ _
  rw [e]
  exact ⟨h.1, fun y => by rw [h.2]; simp⟩
theorem toN_up (es : List E) (w : Int) : (toN es w).Pairwise (· < ·) ∧ ∀ y, y ∈ toN es w ↔ ∃ e ∈ es, y ∈ e.k.waits w := by
  have h := foldI_up (fun e : E => e.k.waits w) es [] List.Pairwise.nil
  exact ⟨h.1, fun y => by unfold toN; rw [h.2]; simp⟩
theorem waits_line {k : Lk} {w y : Int} (h : y ∈ k.waits w) : w ∈ k.line.map One.who := by
  unfold Lk.waits at h
  rw [compactL_mem, List.mem_mergeSort] at h
  unfold Lk.waitsR at h
  split at h
  · cases h
  · exact at1_nonneg.1 (by omega)
theorem edN_eq (es : List E) : edN es = edgesT (es.map E.abs) := by
  refine upP_unique ?_ ?_ ?_
  · unfold edN
    rw [List.pairwise_flatMap]
    refine ⟨fun w _ => ?_, (whoN_up es).1.imp fun {a b} hab => ?_⟩
    · unfold prsW
      rw [List.pairwise_map]
      exact (toN_up es w).1.imp fun {a b} hab => .inr ⟨rfl, hab⟩
    · intro x hx y hy
      unfold prsW at hx hy
      obtain ⟨x', _, rfl⟩ := List.mem_map.1 hx
      obtain ⟨y', _, rfl⟩ := List.mem_map.1 hy
      exact .inl hab
  · exact compactP_up (sortP_up _)
  · intro p
    unfold edgesT
    rw [compactP_mem, List.mem_mergeSort]
    unfold edN prsT prsE prsH prsW
    constructor
    · intro h
      obtain ⟨w, hw, h⟩ := List.mem_flatMap.1 h
      obtain ⟨o, ho, rfl⟩ := List.mem_map.1 h
      obtain ⟨e, he, hx⟩ := ((toN_up es w).2 o).1 ho
      have hm := Lk.whos_mem.2 (.inr (waits_line hx))
      obtain ⟨hd, hh, hhw⟩ := List.mem_map.1 hm
      exact List.mem_flatMap.2 ⟨e.abs, List.mem_map_of_mem he, List.mem_flatMap.2 ⟨hd, hh, List.mem_map.2 ⟨o, by rw [hhw]; exact hx, by rw [hhw]⟩⟩⟩
    · intro h
      obtain ⟨e', he', h⟩ := List.mem_flatMap.1 h
      obtain ⟨e, he, rfl⟩ := List.mem_map.1 he'
      obtain ⟨hd, hh, h⟩ := List.mem_flatMap.1 h
      obtain ⟨o, ho, rfl⟩ := List.mem_map.1 h
      have ho : o ∈ e.k.waits hd.who := ho
      refine List.mem_flatMap.2 ⟨hd.who, ((whoN_up es).2 _).2 ⟨e, he, waits_line ho⟩, List.mem_map.2 ⟨o, ((toN_up es _).2 o).2 ⟨e, he, ho⟩, rfl⟩⟩
/-! ### Lengths -/
def szN (es : List E) : Nat := (es.map fun e => e.k.size).sum
theorem szN_succ {es : List E} {i : Nat} {e : E} (h : es[i]? = some e) : szN (es.take (i + 1)) = szN (es.take i) + e.k.size := by
  unfold szN
  rw [List.take_add_one, h, List.map_append, List.sum_append]
  rfl
theorem szN_le (es : List E) (i : Nat) : szN (es.take i) ≤ szN es := by
  have h := List.take_append_drop i es
  have : szN es = szN (es.take i) + szN (es.drop i) := by
    conv => lhs; rw [← h]
    unfold szN
    rw [List.map_append, List.sum_append]
  omega
theorem insL_len (l : List One) (z : List Int) : (insL l z).length ≤ z.length + l.length := by
  unfold insL
  induction l generalizing z with
  | nil => exact Nat.le_refl _
  | cons x l ih =>
    have h1 := ih (insI z x.who)
    have h2 := insI_len z x.who
    simp only [List.foldl_cons, List.length_cons]
    omega
theorem foldI_len (l z : List Int) : (l.foldl insI z).length ≤ z.length + l.length := by
  induction l generalizing z with
  | nil => exact Nat.le_refl _
  | cons x l ih =>
    have h1 := ih (insI z x)
    have h2 := insI_len z x
    simp only [List.foldl_cons, List.length_cons]
    omega
theorem whoN_len' : ∀ (es : List E) (z : List Int), (es.foldl (fun w e => insL e.k.line w) z).length ≤ z.length + szN es
  | [], _ => Nat.le_refl _
  | e :: es, z => by
    have h1 := whoN_len' es (insL e.k.line z)
    have h2 := insL_len e.k.line z
    have h3 : szN (e :: es) = e.k.size + szN es := rfl
    have h4 : e.k.line.length ≤ e.k.size := by unfold Lk.size; omega
    rw [List.foldl_cons]
    omega
theorem whoN_len (es : List E) : (whoN es).length ≤ szN es := by
  have := whoN_len' es []
  simpa [whoN] using this
theorem toN_len' (w : Int) : ∀ (es : List E) (z : List Int), (es.foldl (fun a e => (e.k.waits w).foldl insI a) z).length ≤ z.length + szN es
  | [], _ => Nat.le_refl _
  | e :: es, z => by
    have h1 := toN_len' w es ((e.k.waits w).foldl insI z)
    have h2 := foldI_len (e.k.waits w) z
    have h3 : szN (e :: es) = e.k.size + szN es := rfl
    have h4 := e.k.waits_len w
    have h5 : e.k.size = e.k.hold.length + e.k.line.length := rfl
    rw [List.foldl_cons]
    omega
theorem toN_len (es : List E) (w : Int) : (toN es w).length ≤ szN es := by
  have := toN_len' w es []
  simpa [toN] using this
theorem szN_sumW {es : List E} (h : ∀ e ∈ es, e.k.Ok) : szN es ≤ 2 * sumW (es.map E.abs) := by
  induction es with
  | nil => exact Nat.zero_le _
  | cons e es ih =>
    have h1 := ih (fun x hx => h x (List.mem_cons_of_mem _ hx))
    have ok := h e List.mem_cons_self
    have h2 := nodup_len (m := e.k.whos) ok.hn (fun x hx => Lk.whos_mem.2 (.inl hx))
    have h3 := nodup_len (m := e.k.whos) ok.ln (fun x hx => Lk.whos_mem.2 (.inr hx))
    rw [List.length_map] at h2 h3
    have h4 : szN (e :: es) = e.k.size + szN es := rfl
    have h5 : e.k.size = e.k.hold.length + e.k.line.length := rfl
    have h6 : sumW ((e :: es).map E.abs) = e.k.whos.length + sumW (es.map E.abs) := rfl
    omega
/-! ### Freed -/
theorem mineR {k : Lk} {who : Int} : k.mine who = (decide (0 ≤ at1 k.hold who) || decide (0 ≤ at1 k.line who)) := by
  rw [Bool.eq_iff_iff, Lk.mine_iff, Lk.whos_mem, Bool.or_eq_true, decide_eq_true_iff, decide_eq_true_iff, at1_nonneg, at1_nonneg]
theorem noneR {k : Lk} : noneK k = decide (k.hold.length + k.line.length = 0) := by
  rw [Bool.eq_iff_iff, noneK_iff, decide_eq_true_iff]
  constructor
  · intro h
    have h1 : k.hold = [] := by
      cases hk : k.hold with
      | nil => rfl
      | cons x l =>
        have : x.who ∈ k.whos := Lk.whos_mem.2 (.inl (by rw [hk]; exact List.mem_cons_self))
        rw [h] at this; cases this
    have h2 : k.line = [] := by
      cases hk : k.line with
      | nil => rfl
      | cons x l =>
        have : x.who ∈ k.whos := Lk.whos_mem.2 (.inr (by rw [hk]; exact List.mem_cons_self))
        rw [h] at this; cases this
    rw [h1, h2]; rfl
  · intro h
    cases hk : k.whos with
    | nil => rfl
    | cons x l =>
      have hm : x ∈ k.whos := by rw [hk]; exact List.mem_cons_self
      rcases Lk.whos_mem.1 hm with h1 | h1
      · have := List.length_pos_of_mem h1; rw [List.length_map] at this; omega
      · have := List.length_pos_of_mem h1; rw [List.length_map] at this; omega
end Go.Proofs.YtcpkcjabmookmaaGreat.L
