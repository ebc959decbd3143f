/- Plain: the locks' table through asking and freeing: the count, the order of names, who stands where. -/
import Derived.Test.YtcpkcjabmookmaaGreatPR
namespace Go.Proofs.YtcpkcjabmookmaaGreat.L
open Go Go.Proofs
set_option linter.unusedSimpArgs false
set_option linter.unusedVariables false

def sumW (T : List Ent) : Nat := (T.map fun e => e.k.whos.length).sum
theorem sumW_app (a b : List Ent) : sumW (a ++ b) = sumW a + sumW b := by unfold sumW; rw [List.map_append, List.sum_append]
theorem sumW_cons (e : Ent) (l : List Ent) : sumW (e :: l) = e.k.whos.length + sumW l := rfl
theorem split_at {α : Type} {l : List α} {i : Nat} {x : α} (h : l[i]? = some x) : l = l.take i ++ x :: l.drop (i + 1) := by
  have hi := (List.getElem?_eq_some_iff.1 h)
  obtain ⟨hi, he⟩ := hi
  conv => lhs; rw [← List.take_append_drop i l, List.drop_eq_getElem_cons hi, he]
theorem set_at {α : Type} {l : List α} {i : Nat} {x y : α} (h : l[i]? = some x) : l.set i y = l.take i ++ y :: l.drop (i + 1) := by
  rw [List.set_eq_take_append_cons_drop, if_pos (List.getElem?_eq_some_iff.1 h).1]
theorem sumW_set {T : List Ent} {i : Nat} {e e' : Ent} (h : T[i]? = some e) : sumW (T.set i e') + e.k.whos.length = sumW T + e'.k.whos.length := by
  have h1 : sumW T = sumW (T.take i) + (e.k.whos.length + sumW (T.drop (i + 1))) := by
    conv => lhs; rw [split_at h]
    rw [sumW_app, sumW_cons]
  rw [h1, set_at h, sumW_app, sumW_cons]
  omega
theorem sumW_ins (T : List Ent) (i : Nat) (e : Ent) : sumW (T.take i ++ [e] ++ T.drop i) = sumW T + e.k.whos.length := by
  have h1 : sumW T = sumW (T.take i) + sumW (T.drop i) := by rw [← sumW_app, List.take_append_drop]
  rw [sumW_app, sumW_app, h1]
  show _ + (e.k.whos.length + 0) + _ = _
  omega
def SrtN (l : List Nm) : Prop := l.Pairwise (fun a b => cmpN a b < 0)
theorem srtT_N {T : List Ent} : SrtT T ↔ SrtN (T.map Ent.name) := by unfold SrtT SrtN; rw [List.pairwise_map]
theorem srt_set {T : List Ent} {i : Nat} {e e' : Ent} (h : T[i]? = some e) (hn : e'.name = e.name) (hs : SrtT T) : SrtT (T.set i e') := by
  rw [srtT_N] at hs ⊢
  have h1 : (T.set i e').map Ent.name = T.map Ent.name := by
    rw [set_at h]
    conv => rhs; rw [split_at h]
    rw [List.map_append, List.map_append, List.map_cons, List.map_cons, hn]
  rw [h1]; exact hs
theorem lbT_low {T : List Ent} {n : Nm} {e : Ent} (h : e ∈ T.take (lbT T n)) : cmpN e.name n < 0 := by
  have h1 : T.take (lbT T n) = T.takeWhile (fun e => decide (cmpN e.name n < 0)) := (takeWhile_take _ _).symm
  rw [h1] at h
  exact of_decide_eq_true (List.all_eq_true.1 (List.all_takeWhile (p := fun e : Ent => decide (cmpN e.name n < 0)) (l := T)) e h)
theorem lbT_le (T : List Ent) (n : Nm) : lbT T n ≤ T.length := (List.takeWhile_prefix _).length_le
theorem lbT_high {T : List Ent} {n : Nm} (hs : SrtT T) (hf : ¬ fndT T n = true) {e : Ent} (h : e ∈ T.drop (lbT T n)) : cmpN n e.name < 0 := by
  obtain ⟨j, hj, he⟩ := List.mem_iff_getElem.1 h
  have hl : lbT T n < T.length := by rw [List.length_drop] at hj; omega
  obtain ⟨f, hfe⟩ : ∃ f, T[lbT T n]? = some f := ⟨_, List.getElem?_eq_getElem hl⟩
  have h1 : ¬ cmpN f.name n < 0 := by
    have h2 : T.dropWhile (fun e => decide (cmpN e.name n < 0)) = T.drop (lbT T n) := dropWhile_drop _ _
    have h3 : (T.dropWhile (fun e => decide (cmpN e.name n < 0)))[0]? = some f := by rw [h2, List.getElem?_drop, Nat.add_zero]; exact hfe
    intro hc
    cases hd : T.dropWhile (fun e => decide (cmpN e.name n < 0)) with
    | nil => rw [hd] at h3; cases h3
    | cons a l =>
      rw [hd] at h3
      obtain rfl : a = f := by simpa using h3
      have h4 := List.head?_dropWhile_not (fun e : Ent => decide (cmpN e.name n < 0)) T
      rw [hd] at h4
      simp [hc] at h4
  have h2 : ¬ cmpN f.name n = 0 := fun hc => hf (by unfold fndT; rw [hfe]; exact decide_eq_true hc)
  have h3 : cmpN n f.name < 0 := by rw [cmpN_anti f.name n]; omega
  rw [List.getElem_drop] at he
  by_cases hj0 : j = 0
  · subst hj0
    have : T[lbT T n]? = some e := by rw [List.getElem?_eq_getElem hl]; simpa using he
    rw [hfe] at this
    obtain rfl : f = e := by simpa using this
    exact h3
  · have hs2 := List.pairwise_iff_getElem.1 hs (lbT T n) (lbT T n + j) hl (by rw [List.length_drop] at hj; omega) (by omega)
    have hff : T[lbT T n] = f := (List.getElem?_eq_some_iff.1 hfe).2
    rw [hff, he] at hs2
    exact cmpN_trans h3 hs2
theorem srt_ins {T : List Ent} {n : Nm} {e : Ent} (hs : SrtT T) (hf : ¬ fndT T n = true) (he : e.name = n) : SrtT (T.take (lbT T n) ++ [e] ++ T.drop (lbT T n)) := by
  unfold SrtT at hs ⊢
  have h0 := hs
  rw [← List.take_append_drop (lbT T n) T, List.pairwise_append] at h0
  obtain ⟨h1, h2, h3⟩ := h0
  rw [List.append_assoc, List.pairwise_append, List.singleton_append, List.pairwise_cons]
  refine ⟨h1, ⟨fun x hx => by rw [he]; exact lbT_high hs hf hx, h2⟩, fun a ha b hb => ?_⟩
  rcases List.mem_cons.1 hb with rfl | hb
  · rw [he]; exact lbT_low ha
  · exact h3 a ha b hb

/-! ### What holds of the table all along -/
structure TI (T : List Ent) (n : Int) (N : Nat) : Prop where
  srt : SrtT T
  ok : ∀ e ∈ T, e.k.Ok
  ne : ∀ e ∈ T, e.k.whos ≠ []
  sum : n = (sumW T : Int)
  up : sumW T ≤ N
theorem TI.nil : TI [] 0 0 := ⟨List.Pairwise.nil, (fun e h => by cases h), (fun e h => by cases h), rfl, Nat.le_refl _⟩
theorem TI.len {T : List Ent} {n : Int} {N : Nat} (h : TI T n N) : T.length ≤ N := by
  refine Nat.le_trans ?_ h.up
  have hne := h.ne
  clear h
  induction T with
  | nil => exact Nat.zero_le _
  | cons e l ih =>
    rw [sumW_cons]
    have h1 := ih (fun x hx => hne x (List.mem_cons_of_mem _ hx))
    have h2 := List.length_pos_iff.2 (hne e (List.mem_cons_self))
    simp only [List.length_cons]
    omega
theorem TI.whos_le {T : List Ent} {n : Int} {N : Nat} (h : TI T n N) {e : Ent} (he : e ∈ T) : e.k.whos.length ≤ N := by
  obtain ⟨i, hi⟩ := List.getElem?_of_mem he
  have h1 : sumW T = sumW (T.take i) + (e.k.whos.length + sumW (T.drop (i + 1))) := by
    conv => lhs; rw [split_at hi]
    rw [sumW_app, sumW_cons]
  have := h.up
  omega
theorem TI.size {T : List Ent} {n : Int} {N : Nat} (h : TI T n N) {e : Ent} (he : e ∈ T) : e.k.size ≤ 2 * N := by
  have h1 := h.whos_le he
  have ok := h.ok e he
  have h2 := nodup_len (m := e.k.whos) ok.hn (fun x hx => Lk.whos_mem.2 (.inl hx))
  have h3 := nodup_len (m := e.k.whos) ok.ln (fun x hx => Lk.whos_mem.2 (.inr hx))
  rw [List.length_map] at h2 h3
  unfold Lk.size
  omega
theorem TI.tok {T : List Ent} {n : Int} {N : Nat} (h : TI T n N) (hN : N ≤ 10000) : TOk T n := by
  refine ⟨h.srt, fun e he => ?_, ?_, ?_⟩
  · have := h.size he; omega
  · have := h.len; omega
  · have := h.sum; have := h.up; omega
theorem TI.more {T : List Ent} {n : Int} {N M : Nat} (h : TI T n N) (hm : N ≤ M) : TI T n M := ⟨h.srt, h.ok, h.ne, h.sum, Nat.le_trans h.up hm⟩
theorem fndT_at {T : List Ent} {n : Nm} (h : fndT T n = true) : ∃ e, T[lbT T n]? = some e ∧ e.name = n ∧ kAt T (lbT T n) = e.k := by
  unfold fndT at h
  cases hf : T[lbT T n]? with
  | none => rw [hf] at h; cases h
  | some e =>
    rw [hf] at h
    refine ⟨e, rfl, cmpN_zero.1 (of_decide_eq_true h), ?_⟩
    unfold kAt
    rw [List.getD_eq_getElem?_getD, hf]; rfl
/-- Who stands in the table. -/
def inT (T : List Ent) (x : Int) : Prop := ∃ e ∈ T, x ∈ e.k.whos
theorem TI.ask {T : List Ent} {n : Int} {N : Nat} (h : TI T n N) (who : Int) (nm : Nm) (m : Int) : TI (askT T n who nm m).2.1 (askT T n who nm m).2.2 (N + 1) ∧ ∀ x, inT (askT T n who nm m).2.1 x → inT T x ∨ x = who := by
  have stay : TI T n (N + 1) ∧ ∀ x, inT T x → inT T x ∨ x = who := ⟨h.more (Nat.le_succ _), fun x hx => .inl hx⟩
  have setCase : ∀ {e : Ent} {i : Nat} {n' : Int}, T[i]? = some e → modeOf m ≠ 0 → n' = n + (if e.k.mine who = true then 0 else 1) → TI (T.set i ⟨e.name, (e.k.ask who m).2⟩) n' (N + 1) ∧ ∀ x, inT (T.set i ⟨e.name, (e.k.ask who m).2⟩) x → inT T x ∨ x = who := fun {e i n'} he hm hn' => by
    have hmem := List.mem_of_getElem? he
    have hl := len_ask (h.ok e hmem) (who := who) hm
    have hsum := sumW_set (e' := ⟨e.name, (e.k.ask who m).2⟩) he
    have hsum : sumW (T.set i ⟨e.name, (e.k.ask who m).2⟩) + e.k.whos.length = sumW T + (e.k.ask who m).2.whos.length := hsum
    have h4 := h.sum
    have h5 := h.up
    have hin : ∀ x ∈ T.set i ⟨e.name, (e.k.ask who m).2⟩, x ∈ T ∨ x = ⟨e.name, (e.k.ask who m).2⟩ := fun x hx => List.mem_or_eq_of_mem_set hx
    refine ⟨⟨srt_set he rfl h.srt, fun x hx => ?_, fun x hx => ?_, ?_, ?_⟩, fun x hx => ?_⟩
    · rcases hin x hx with h1 | rfl
      · exact h.ok x h1
      · exact (h.ok e hmem).ask who m
    · rcases hin x hx with h1 | rfl
      · exact h.ne x h1
      · exact List.ne_nil_of_mem ((Lk.whos_ask hm).2 (.inr rfl))
    · rw [hl] at hsum
      rw [hn']
      by_cases hmi : e.k.mine who = true
      · rw [if_pos hmi] at hsum ⊢; omega
      · rw [if_neg hmi] at hsum ⊢; omega
    · rw [hl] at hsum
      by_cases hmi : e.k.mine who = true
      · rw [if_pos hmi] at hsum; omega
      · rw [if_neg hmi] at hsum; omega
    · obtain ⟨y, hy, hxy⟩ := hx
      rcases hin y hy with h1 | rfl
      · exact .inl ⟨y, h1, hxy⟩
      · rcases (Lk.whos_ask hm).1 hxy with h2 | h2
        · exact .inl ⟨e, hmem, h2⟩
        · exact .inr h2
  unfold askT
  split
  · exact stay
  · split
    · exact stay
    · split
      · exact stay
      · rename_i hm
        split
        · rename_i hf
          obtain ⟨e, he, hen, hk⟩ := fndT_at hf
          rw [hk, ← hen]
          rw [← hen] at he
          split
          · rename_i hmi
            exact setCase (n' := n) he hm (by rw [if_pos hmi, Int.add_zero])
          · rename_i hmi
            split
            · exact stay
            · exact setCase he hm (by rw [if_neg hmi])
        · rename_i hf
          split
          · exact stay
          · have hl := len_ask Lk.ok_nil (who := who) hm
            have hl : ((Lk.mk [] []).ask who m).2.whos.length = 1 := by rw [hl, if_neg (by rw [Lk.mine_iff]; exact List.not_mem_nil)]; rfl
            have hin : ∀ x ∈ T.take (lbT T nm.plain.1) ++ [⟨nm.plain.1, ((Lk.mk [] []).ask who m).2⟩] ++ T.drop (lbT T nm.plain.1), x ∈ T ∨ x = ⟨nm.plain.1, ((Lk.mk [] []).ask who m).2⟩ := fun x hx => by
              rcases List.mem_append.1 hx with hx | hx
              · rcases List.mem_append.1 hx with hx | hx
                · exact .inl (List.mem_of_mem_take hx)
                · exact .inr (List.mem_singleton.1 hx)
              · exact .inl (List.mem_of_mem_drop hx)
            have h4 := h.sum
            have h5 := h.up
            refine ⟨⟨srt_ins h.srt hf rfl, fun x hx => ?_, fun x hx => ?_, ?_, ?_⟩, fun x hx => ?_⟩
            · rcases hin x hx with h1 | rfl
              · exact h.ok x h1
              · exact Lk.ok_nil.ask who m
            · rcases hin x hx with h1 | rfl
              · exact h.ne x h1
              · exact List.ne_nil_of_mem ((Lk.whos_ask hm).2 (.inr rfl))
            · show n + 1 = _
              rw [sumW_ins]
              show n + 1 = ((sumW T + ((Lk.mk [] []).ask who m).2.whos.length : Nat) : Int)
              rw [hl]; omega
            · show sumW _ ≤ _
              rw [sumW_ins]
              show sumW T + ((Lk.mk [] []).ask who m).2.whos.length ≤ _
              rw [hl]; omega
            · obtain ⟨y, hy, hxy⟩ := hx
              rcases hin y hy with h1 | rfl
              · exact .inl ⟨y, h1, hxy⟩
              · rcases (Lk.whos_ask hm).1 hxy with h2 | h2
                · cases h2
                · exact .inr h2
theorem sumW_drT (who : Int) : ∀ {T : List Ent}, (∀ e ∈ T, e.k.Ok) → sumW (T.map (drT who)) + (T.filter (fun e => e.k.mine who)).length = sumW T
  | [], _ => rfl
  | e :: l, h => by
    have ih := sumW_drT who (T := l) (fun x hx => h x (List.mem_cons_of_mem _ hx))
    rw [List.map_cons, sumW_cons, sumW_cons, List.filter_cons]
    unfold drT
    by_cases hm : e.k.mine who = true
    · have := len_drop (h e List.mem_cons_self) hm
      rw [if_pos hm, if_pos hm]
      simp only [List.length_cons]
      show (e.k.drop who).2.whos.length + sumW (l.map (drT who)) + _ = _
      omega
    · rw [if_neg hm, if_neg hm]
      show e.k.whos.length + sumW (l.map (drT who)) + _ = _
      omega
theorem noneK_iff {k : Lk} : noneK k = true ↔ k.whos = [] := by
  unfold noneK
  rw [decide_eq_true_iff, ← List.length_eq_zero_iff, Lk.whos_len]
  omega
theorem sumW_filter : ∀ T : List Ent, sumW (T.filter (fun e => !noneK e.k)) = sumW T
  | [] => rfl
  | e :: l => by
    have ih := sumW_filter l
    rw [List.filter_cons]
    by_cases h : noneK e.k = true
    · rw [h, if_neg (by decide), ih, sumW_cons, noneK_iff.1 h]; simp
    · rw [if_pos (by simpa using h), sumW_cons, sumW_cons, ih]
theorem drT_whos {who : Int} {e : Ent} {x : Int} : x ∈ (drT who e).k.whos ↔ x ∈ e.k.whos ∧ x ≠ who := by
  unfold drT
  by_cases h : e.k.mine who = true
  · rw [if_pos h]; exact Lk.whos_drop
  · rw [if_neg h]
    exact ⟨fun h2 => ⟨h2, fun e2 => h (Lk.mine_iff.2 (e2 ▸ h2))⟩, (·.1)⟩
theorem drT_name (who : Int) (e : Ent) : (drT who e).name = e.name := by unfold drT; split <;> rfl
theorem TI.free {T : List Ent} {n : Int} {N : Nat} (h : TI T n N) (who : Int) : TI (freeT T n who).2.1 (freeT T n who).2.2 N ∧ ∀ x, inT (freeT T n who).2.1 x → inT T x ∧ x ≠ who := by
  have h1 := sumW_drT who h.ok
  have h2 := sumW_filter (T.map (drT who))
  have h3 := h.sum
  have h4 := h.up
  unfold freeT
  refine ⟨⟨?_, fun e he => ?_, fun e he => ?_, ?_, ?_⟩, fun x hx => ?_⟩
  · show SrtT _
    unfold SrtT
    refine List.Pairwise.filter _ ?_
    rw [List.pairwise_map]
    exact h.srt.imp fun hab => by rw [drT_name, drT_name]; exact hab
  · obtain ⟨e0, he0, rfl⟩ := List.mem_map.1 (List.mem_filter.1 he).1
    unfold drT
    split
    · exact (h.ok e0 he0).drop who
    · exact h.ok e0 he0
  · have := (List.mem_filter.1 he).2
    intro hn
    rw [noneK_iff.2 hn] at this
    cases this
  · show n - _ = _
    rw [h2]; omega
  · show sumW _ ≤ _
    rw [h2]; omega
  · obtain ⟨e, he, hxe⟩ := hx
    obtain ⟨e0, he0, rfl⟩ := List.mem_map.1 (List.mem_filter.1 he).1
    obtain ⟨h5, h6⟩ := drT_whos.1 hxe
    exact ⟨⟨e0, he0, h5⟩, h6⟩
theorem TI.empty {T : List Ent} {n : Int} {N : Nat} (h : TI T n N) (hx : ∀ x, ¬ inT T x) : T = [] ∧ n = 0 := by
  have : T = [] := by
    cases T with
    | nil => rfl
    | cons e l =>
      obtain ⟨x, hxm⟩ := List.exists_mem_of_ne_nil _ (h.ne e List.mem_cons_self)
      exact absurd ⟨e, List.mem_cons_self, hxm⟩ (hx x)
  subst this
  exact ⟨rfl, h.sum⟩
theorem waitT_not {T : List Ent} {who : Int} (h : ¬ inT T who) : waitT T who = none := by
  unfold waitT
  refine find_none ?_
  rw [List.any_eq_false]
  intro e he
  rw [my_none (fun hw => h ⟨e, he, hw⟩)]
  decide
theorem modeT_not {T : List Ent} {who : Int} (h : ¬ inT T who) (nm : Nm) : modeT T who nm = 0 := by
  unfold modeT
  split
  · rename_i hc
    obtain ⟨e, he, _, hk⟩ := fndT_at hc.2
    rw [hk, my_none (fun hw => h ⟨e, List.mem_of_getElem? he, hw⟩)]
  · rfl
theorem compactL_sub {α : Type} [DecidableEq α] : ∀ {l : List α} {x : α}, x ∈ compactL l → x ∈ l
  | [], x, h => h
  | [a], x, h => h
  | a :: b :: l, x, h => by
    have h : x ∈ (if a = b then compactL (b :: l) else a :: compactL (b :: l)) := h
    split at h
    · exact List.mem_cons_of_mem _ (compactL_sub h)
    · rcases List.mem_cons.1 h with rfl | h
      · exact List.mem_cons_self
      · exact List.mem_cons_of_mem _ (compactL_sub h)
theorem edgesT_in {T : List Ent} {p : P2} (h : p ∈ edgesT T) : inT T p.a ∧ inT T p.b := by
  unfold edgesT at h
  have h := compactL_sub h
  rw [List.mem_mergeSort] at h
  unfold prsT prsE prsH prsW at h
  obtain ⟨e, he, h⟩ := List.mem_flatMap.1 h
  obtain ⟨x, hx, h⟩ := List.mem_flatMap.1 h
  obtain ⟨o, ho, rfl⟩ := List.mem_map.1 h
  exact ⟨⟨e, he, List.mem_map_of_mem hx⟩, ⟨e, he, waits_whos ho⟩⟩
theorem flatMap_len_le {α β : Type} {f : α → List β} {c : Nat} : ∀ {l : List α}, (∀ x ∈ l, (f x).length ≤ c) → (l.flatMap f).length ≤ l.length * c
  | [], _ => Nat.zero_le _
  | x :: l, h => by
    have ih := flatMap_len_le (fun y hy => h y (List.mem_cons_of_mem x hy))
    have h1 := h x List.mem_cons_self
    rw [List.flatMap_cons, List.length_append, List.length_cons, Nat.succ_mul]
    omega
theorem TI.prs {T : List Ent} {n : Int} {N : Nat} (h : TI T n N) (hN : N ≤ 100) : (prsT T).length ≤ 1000000000 := by
  have h1 : (prsT T).length ≤ T.length * 40000 := flatMap_len_le fun e he => by
    have hs := h.size he
    have h2 : (prsE e.k).length ≤ e.k.holds.length * 200 := flatMap_len_le fun x hx => by
      have h3 := e.k.waits_len x.who
      have h3 : (e.k.waits x.who).length ≤ e.k.size := h3
      unfold prsW
      rw [List.length_map]
      omega
    have h4 := e.k.holds_len
    have : e.k.holds.length * 200 ≤ 200 * 200 := Nat.mul_le_mul_right _ (by omega)
    omega
  have h2 := h.len
  omega
theorem TI.outs {T : List Ent} {n : Int} {N : Nat} (h : TI T n N) (hN : N ≤ 100) (who : Int) : (T.flatMap (outT who)).length ≤ 1000000000 := by
  have h1 : (T.flatMap (outT who)).length ≤ T.length * 200 := flatMap_len_le fun e he => by
    have hs := h.size he
    unfold outT
    split
    · have := e.k.drop_out who; omega
    · exact Nat.zero_le _
  have h2 := h.len
  omega
end Go.Proofs.YtcpkcjabmookmaaGreat.L
