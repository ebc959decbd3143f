/- Plain: what frees all claimed messages leaves none claimed, and loses none. -/
import Derived.Test.YthnmoiilaaoooaaGreatE2
namespace Go.Proofs.YthnmoiilaaoooaaGreat.L
open Go Go.Proofs
set_option linter.unusedSimpArgs false
set_option linter.unusedVariables false

theorem adj_pair {α : Type} {f : α → α → Bool} (ht : ∀ a b c, f a b = true → f b c = true → f a c = true) : ∀ {l : List α}, adj f l = true → l.Pairwise (fun a b => f a b = true)
  | [], _ => List.Pairwise.nil
  | [a], _ => List.pairwise_singleton _ _
  | a :: b :: l, h => by
    simp only [adj, Bool.and_eq_true] at h
    have ih := adj_pair ht h.2
    refine List.pairwise_cons.2 ⟨fun x hx => ?_, ih⟩
    rcases List.mem_cons.1 hx with rfl | hx
    · exact h.1
    · exact ht a b x h.1 ((List.pairwise_cons.1 ih).1 x hx)
/-- What a state that may be says of its objects. -/
structure SR (s : Stt) : Prop where
  obj : ∀ o ∈ s.objs, o.right = true
  names : s.objs.Pairwise (fun a b => cmpB a.name b.name < 0)
  ids : s.ids.Nodup
  len : s.objs.length ≤ 20
  nx : 1 ≤ s.next ∧ s.next ≤ 1099511627776
  lt : ∀ n ∈ s.ids, n < s.next
theorem right_SR {s : Stt} (h : s.right = true) : SR s := by
  unfold Stt.right Stt.once at h
  simp only [Bool.and_eq_true, decide_eq_true_eq, List.all_eq_true] at h
  obtain ⟨⟨⟨⟨⟨h1, h2⟩, h3⟩, h4⟩, h5⟩, h6, h7⟩ := h
  refine ⟨h4, ?_, h6, by omega, ⟨h1, h2⟩, fun n hn => h7 n hn⟩
  exact (adj_pair (f := fun a b : Ob => decide (cmpB a.name b.name < 0)) (fun a b c h1 h2 => decide_eq_true (cmpB_trans (of_decide_eq_true h1) (of_decide_eq_true h2))) h5).imp fun h => of_decide_eq_true h
def freed (lim : Int) (l : List Msg) : List Msg := l.filterMap (fun m => if m.claimed = true then (if lim ≤ m.tried.retry then none else some m.tried) else some m)
def gone (lim : Int) (l : List Msg) : List Msg := l.filterMap (fun m => if m.claimed = true ∧ lim ≤ m.tried.retry then some m.tried else none)
def freedO (o : Ob) : Ob := { o with msgs := freed o.limit o.msgs, dead := o.dead ++ gone o.limit o.msgs }
theorem tried_id (m : Msg) : m.tried.id = m.id := rfl
theorem freed_app (lim : Int) (a b : List Msg) : freed lim (a ++ b) = freed lim a ++ freed lim b := List.filterMap_append
theorem gone_app (lim : Int) (a b : List Msg) : gone lim (a ++ b) = gone lim a ++ gone lim b := List.filterMap_append
theorem freed_sub (lim : Int) : ∀ l : List Msg, ((freed lim l).map (·.id)).Sublist (l.map (·.id))
  | [] => List.Sublist.slnil
  | m :: l => by
    have ih := freed_sub lim l
    unfold freed at ih ⊢
    rw [List.filterMap_cons]
    by_cases hc : m.claimed = true
    · rw [if_pos hc]
      by_cases hl : lim ≤ m.tried.retry
      · rw [if_pos hl]; exact List.Sublist.cons _ ih
      · rw [if_neg hl]; exact List.Sublist.cons_cons _ ih
    · rw [if_neg hc]; exact List.Sublist.cons_cons _ ih
theorem gone_sub (lim : Int) : ∀ l : List Msg, ((gone lim l).map (·.id)).Sublist (l.map (·.id))
  | [] => List.Sublist.slnil
  | m :: l => by
    have ih := gone_sub lim l
    unfold gone at ih ⊢
    rw [List.filterMap_cons]
    by_cases hc : m.claimed = true ∧ lim ≤ m.tried.retry
    · rw [if_pos hc]; exact List.Sublist.cons_cons _ ih
    · rw [if_neg hc]; exact List.Sublist.cons _ ih
theorem freed_len (lim : Int) : ∀ l : List Msg, (freed lim l).length + (gone lim l).length = l.length
  | [] => rfl
  | m :: l => by
    have ih := freed_len lim l
    unfold freed gone at ih ⊢
    rw [List.filterMap_cons, List.filterMap_cons]
    by_cases hc : m.claimed = true
    · rw [if_pos hc]
      by_cases hl : lim ≤ m.tried.retry
      · rw [if_pos hl, if_pos ⟨hc, hl⟩]; simp only [List.length_cons]; omega
      · rw [if_neg hl, if_neg (fun h => hl h.2)]; simp only [List.length_cons]; omega
    · rw [if_neg hc, if_neg (fun h => hc h.1)]; simp only [List.length_cons]; omega
theorem freed_mem {lim : Int} {l : List Msg} {m : Msg} (hm : m ∈ l) : (m.claimed = true → lim ≤ m.tried.retry → m.tried ∈ gone lim l) ∧ (m.claimed = true → ¬ lim ≤ m.tried.retry → m.tried ∈ freed lim l) ∧ (¬ m.claimed = true → m ∈ freed lim l) := by
  refine ⟨fun h1 h2 => List.mem_filterMap.2 ⟨m, hm, by rw [if_pos ⟨h1, h2⟩]⟩, fun h1 h2 => List.mem_filterMap.2 ⟨m, hm, by rw [if_pos h1, if_neg h2]⟩, fun h1 => List.mem_filterMap.2 ⟨m, hm, by rw [if_neg h1]⟩⟩
theorem freed_un {lim : Int} {l : List Msg} {x : Msg} (h : x ∈ freed lim l) : x.claimed = false := by
  obtain ⟨m, _, hm⟩ := List.mem_filterMap.1 h
  by_cases hc : m.claimed = true
  · rw [if_pos hc] at hm
    by_cases hl : lim ≤ m.tried.retry
    · rw [if_pos hl] at hm; cases hm
    · rw [if_neg hl] at hm; cases hm; rfl
  · rw [if_neg hc] at hm; cases hm; simpa using hc
/-- Where ids stand once: a message is found by its id. -/
theorem idx_mem {l : List Msg} (hn : (l.map (·.id)).Nodup) {m : Msg} (hm : m ∈ l) : ∃ i : Nat, findM l m.id = (i : Int) ∧ l[i]? = some m := by
  have hx : ¬ findM l m.id < 0 := by
    intro h
    unfold findM idxP at h
    cases hf : l.findIdx? (fun x => decide (x.id = m.id)) with
    | some i => rw [hf] at h; exact absurd h (by show ¬ ((i : Nat) : Int) < 0; omega)
    | none =>
      rw [List.findIdx?_eq_none_iff] at hf
      exact absurd (hf m hm) (by simp)
  obtain ⟨i, x, hi, he, hp⟩ := idxP_nat hx
  refine ⟨i, he, ?_⟩
  obtain ⟨j, hj⟩ := List.getElem?_of_mem hm
  have h1 : (l.map (·.id))[i]? = some m.id := by rw [List.getElem?_map, hi]; exact congrArg some (of_decide_eq_true hp)
  have h2 : (l.map (·.id))[j]? = some m.id := by rw [List.getElem?_map, hj]; rfl
  have := (List.getElem?_inj (by rw [List.length_map]; exact (List.getElem?_eq_some_iff.1 hi).1) hn).1 (h1.trans h2.symm)
  subst this
  exact hj
theorem find_at {l r : List Msg} {m : Msg} (h : m.id ∉ l.map (·.id)) : findM (l ++ m :: r) m.id = (l.length : Int) := by
  unfold findM
  refine idxP_some (x := m) (by rw [List.getElem?_append_right (Nat.le_refl _), Nat.sub_self]; rfl) (decide_eq_true rfl) (List.any_eq_false.2 fun x hx => ?_)
  rw [List.take_left' rfl] at hx
  intro he
  exact h (List.mem_map.2 ⟨x, hx, of_decide_eq_true he⟩)
def claimE (name : ByteArray) (id : Int) : Eff := ⟨7, name, ⟨#[]⟩, ⟨#[]⟩, id, 0, true, ⟨0, 0, 0, false, ⟨#[]⟩, ⟨#[]⟩⟩⟩
theorem claimE_right {name : ByteArray} {id : Int} (h1 : effName name = true) (h2 : effId id = true) : (claimE name id).right = true := by
  have hn : claimE name id = (claimE name id).named := rfl
  have hk : (claimE name id).rightK = (effName name && effId id) := rfl
  unfold Eff.right
  rw [← hn, decide_eq_true rfl, hk, h1, h2]
  rfl
theorem free_step {o : Ob} {p l : List Msg} {m : Msg} (hp : o.msgs = p ++ m :: l) (hn : (o.msgs.map (·.id)).Nodup) (hc : m.claimed = true) :
    freeO { o with msgs := freed o.limit p ++ m :: l, dead := o.dead ++ gone o.limit p } m.id true = ({ o with msgs := freed o.limit (p ++ [m]) ++ l, dead := o.dead ++ gone o.limit (p ++ [m]) }, true) := by
  have hni : m.id ∉ (freed o.limit p).map (·.id) := by
    intro h
    have h1 := (freed_sub o.limit p).subset h
    rw [hp, List.map_append, List.map_cons, List.nodup_append] at hn
    exact hn.2.2 m.id h1 m.id List.mem_cons_self rfl
  have hf := find_at (r := l) hni
  have hg : (freed o.limit p ++ m :: l).getD (findM (freed o.limit p ++ m :: l) m.id).toNat ⟨0, 0, 0, false, ⟨#[]⟩, ⟨#[]⟩⟩ = m := by
    rw [hf, Int.toNat_natCast]
    exact gd_at (by rw [List.getElem?_append_right (Nat.le_refl _), Nat.sub_self]; rfl)
  unfold freeO
  dsimp only
  rw [if_neg (by rw [hf]; omega), hg, if_neg (by rw [hc]; decide), if_neg (by decide)]
  rw [freed_app, gone_app]
  by_cases hl : o.limit ≤ m.tried.retry
  · rw [if_pos hl, hf, Int.toNat_natCast]
    have e1 : freed o.limit [m] = [] := by unfold freed; rw [List.filterMap_cons, if_pos hc, if_pos hl]; rfl
    have e2 : gone o.limit [m] = [m.tried] := by unfold gone; rw [List.filterMap_cons, if_pos ⟨hc, hl⟩]; rfl
    rw [e1, e2, List.append_nil, List.eraseIdx_append_of_length_le (Nat.le_refl _), Nat.sub_self, List.append_assoc]
    rfl
  · rw [if_neg hl, hf, Int.toNat_natCast]
    have e1 : freed o.limit [m] = [m.tried] := by unfold freed; rw [List.filterMap_cons, if_pos hc, if_neg hl]; rfl
    have e2 : gone o.limit [m] = [] := by unfold gone; rw [List.filterMap_cons, if_neg (fun h => hl h.2)]; rfl
    rw [e1, e2, List.append_nil, List.set_append_right _ _ (Nat.le_refl _), Nat.sub_self, List.append_assoc]
    rfl
theorem freed_skip {o : Ob} {p l : List Msg} {m : Msg} (hc : ¬ m.claimed = true) : freed o.limit p ++ m :: l = freed o.limit (p ++ [m]) ++ l ∧ gone o.limit p = gone o.limit (p ++ [m]) := by
  have e1 : freed o.limit [m] = [m] := by unfold freed; rw [List.filterMap_cons, if_neg hc]; rfl
  have e2 : gone o.limit [m] = [] := by unfold gone; rw [List.filterMap_cons, if_neg (fun h => hc h.1)]; rfl
  rw [freed_app, gone_app, e1, e2, List.append_nil, List.append_assoc]
  exact ⟨rfl, rfl⟩
def clE (name : ByteArray) (l : List Msg) : List Eff := (l.filter (·.claimed)).map (fun m => claimE name m.id)
theorem claims_obj {s : Stt} {i : Nat} {o : Ob} (hi : i < s.objs.length) (hno : (s.objs.take i).any (fun x => decide (x.name = o.name)) = false) (hk : ¬ o.kind = 1) (hname : effName o.name = true) (hids : ∀ m ∈ o.msgs, effId m.id = true) (hn : (o.msgs.map (·.id)).Nodup) :
    ∀ (l p : List Msg), o.msgs = p ++ l → doAll ⟨s.next, s.objs.set i { o with msgs := freed o.limit p ++ l, dead := o.dead ++ gone o.limit p }⟩ (clE o.name l) = (⟨s.next, s.objs.set i (freedO o)⟩, 0)
  | [], p, hp => by
    have : o.msgs = p := by rw [hp, List.append_nil]
    unfold freedO
    rw [this, List.append_nil]
    rfl
  | m :: l, p, hp => by
    have ih := claims_obj hi hno hk hname hids hn l (p ++ [m]) (by rw [hp]; simp)
    by_cases hc : m.claimed = true
    · have hcl : clE o.name (m :: l) = claimE o.name m.id :: clE o.name l := by unfold clE; rw [List.filter_cons, if_pos hc]; rfl
      rw [hcl]
      obtain ⟨o', ho'⟩ : ∃ o' : Ob, o' = { o with msgs := freed o.limit p ++ m :: l, dead := o.dead ++ gone o.limit p } := ⟨_, rfl⟩
      have hfs := free_step hp hn hc
      rw [← ho'] at hfs ⊢
      have hk7 : (claimE o.name m.id).kind = 7 := rfl
      have hfo : findO ⟨s.next, s.objs.set i o'⟩ (claimE o.name m.id).object = (i : Int) := by
        show findO _ o.name = _
        unfold findO
        refine idxP_some (x := o') (by show (s.objs.set i o')[i]? = _; rw [List.getElem?_set_self hi]) (decide_eq_true (by rw [ho'])) ?_
        show ((s.objs.set i o').take i).any _ = false
        rw [List.take_set_of_le (Nat.le_refl i)]
        exact hno
      have hgd : (⟨s.next, s.objs.set i o'⟩ : Stt).objs.getD (findO ⟨s.next, s.objs.set i o'⟩ (claimE o.name m.id).object).toNat Ob.zero = o' := by rw [hfo, Int.toNat_natCast]; exact gd_at (List.getElem?_set_self hi)
      have hok : o'.kind = o.kind := by rw [ho']
      have hq : queueO ⟨s.next, s.objs.set i o'⟩ o' (claimE o.name m.id) = ({ o with msgs := freed o.limit (p ++ [m]) ++ l, dead := o.dead ++ gone o.limit (p ++ [m]) }, 0) := by
        unfold queueO
        rw [hk7, if_neg (by decide), if_neg (by decide), if_neg (by decide), if_pos rfl, show (claimE o.name m.id).n = m.id from rfl, show (claimE o.name m.id).tried = true from rfl, hfs]
        rfl
      have hdo : doS ⟨s.next, s.objs.set i o'⟩ (claimE o.name m.id) = (⟨s.next, s.objs.set i { o with msgs := freed o.limit (p ++ [m]) ++ l, dead := o.dead ++ gone o.limit (p ++ [m]) }⟩, 0) := by
        unfold doS
        rw [if_neg (by rw [claimE_right hname (hids m (by rw [hp]; simp))]; decide), hk7, if_neg (by decide), if_neg (by decide), if_neg (by rw [hfo]; omega), hgd, if_neg (by rw [hok, decide_eq_false hk]; decide), if_neg (by decide), hq, hfo, Int.toNat_natCast]
        show ((⟨s.next, (s.objs.set i o').set i _⟩ : Stt), (0 : Int)) = _
        rw [List.set_set]
      rw [doAll, if_pos (by rw [hdo]), hdo]
      exact ih
    · have hcl : clE o.name (m :: l) = clE o.name l := by unfold clE; rw [List.filter_cons, if_neg hc]
      obtain ⟨e1, e2⟩ := freed_skip (o := o) (p := p) (l := l) hc
      rw [hcl, e1, e2]
      exact ih
theorem doAll_app : ∀ {a b : List Eff} {s t : Stt}, doAll s a = (t, 0) → doAll s (a ++ b) = doAll t b
  | [], b, s, t, h => by
    have : s = t := congrArg Prod.fst h
    subst this
    rfl
  | e :: a, b, s, t, h => by
    rw [List.cons_append]
    rw [doAll] at h ⊢
    by_cases hd : (doS s e).2 = 0
    · rw [if_pos hd] at h ⊢
      exact doAll_app h
    · rw [if_neg hd] at h
      exact absurd (congrArg Prod.snd h) hd
theorem claimsO_cl (o : Ob) : claimsO o = clE o.name o.msgs := rfl
theorem freedO_name (o : Ob) : (freedO o).name = o.name := rfl
theorem SR.ids_obj {s : Stt} (h : SR s) {o : Ob} (ho : o ∈ s.objs) : o.ids.Nodup := by
  obtain ⟨a, b, e⟩ := List.append_of_mem ho
  have hi := h.ids
  unfold Stt.ids at hi
  rw [e, List.flatMap_append, List.flatMap_cons, List.nodup_append, List.nodup_append] at hi
  exact hi.2.1.1
theorem right_ob {o : Ob} (h : o.right = true) : effName o.name = true ∧ (o.kind = 1 → o.msgs = [] ∧ o.dead = []) ∧ (¬ o.kind = 1 → ∀ m ∈ o.msgs, m.right = true) := by
  unfold Ob.right at h
  rw [Bool.and_eq_true, Bool.and_eq_true] at h
  refine ⟨h.1.1, fun hk => ?_, fun hk => ?_⟩
  · have := h.2
    rw [if_pos hk] at this
    simp only [Bool.and_eq_true, decide_eq_true_eq] at this
    exact ⟨List.length_eq_zero_iff.1 (by omega), List.length_eq_zero_iff.1 (by omega)⟩
  · have := h.2
    rw [if_neg hk] at this
    simp only [Bool.and_eq_true, decide_eq_true_eq, List.all_eq_true] at this
    exact this.1.2
theorem claims_all {s : Stt} (h : SR s) : ∀ (l p : List Ob), s.objs = p ++ l → doAll ⟨s.next, p.map freedO ++ l⟩ (l.flatMap claimsO) = (⟨s.next, s.objs.map freedO⟩, 0)
  | [], p, hp => by
    have : s.objs = p := by rw [hp, List.append_nil]
    rw [this, List.append_nil]
    rfl
  | o :: l, p, hp => by
    have ih := claims_all h l (p ++ [o]) (by rw [hp]; simp)
    rw [List.flatMap_cons]
    have ho : o ∈ s.objs := by rw [hp]; simp
    obtain ⟨r1, r2, r3⟩ := right_ob (h.obj o ho)
    have hset : (p.map freedO ++ o :: l).set p.length (freedO o) = (p ++ [o]).map freedO ++ l := by
      rw [List.set_append_right _ _ (by rw [List.length_map]; exact Nat.le_refl _), List.length_map, Nat.sub_self, List.map_append, List.append_assoc]
      rfl
    have key : doAll ⟨s.next, p.map freedO ++ o :: l⟩ (claimsO o) = (⟨s.next, (p ++ [o]).map freedO ++ l⟩, 0) := by
      by_cases hk : o.kind = 1
      · obtain ⟨e1, e2⟩ := r2 hk
        have hf : freedO o = o := by
          obtain ⟨a, b, c, d, ms, dd⟩ := o
          have e1 : ms = [] := e1
          have e2 : dd = [] := e2
          subst e1 e2
          rfl
        rw [claimsO_cl, e1]
        show ((⟨s.next, p.map freedO ++ o :: l⟩ : Stt), (0 : Int)) = _
        rw [List.map_append, List.append_assoc]
        show _ = ((⟨s.next, p.map freedO ++ (freedO o :: l)⟩ : Stt), (0 : Int))
        rw [hf]
      · have hno : ((p.map freedO ++ o :: l).take p.length).any (fun x => decide (x.name = o.name)) = false := by
          rw [List.take_left' (by rw [List.length_map]), List.any_map]
          refine List.any_eq_false.2 fun x hx => ?_
          have hpw := h.names
          rw [hp, List.pairwise_append] at hpw
          have h1 := hpw.2.2 x hx o List.mem_cons_self
          intro he
          have he : x.name = o.name := of_decide_eq_true he
          rw [he, cmpB_self] at h1
          omega
        have hids := h.ids_obj ho
        unfold Ob.ids at hids
        rw [List.map_append, List.nodup_append] at hids
        have hc := claims_obj (s := ⟨s.next, p.map freedO ++ o :: l⟩) (i := p.length) (o := o) (by show _ < (p.map freedO ++ o :: l).length; rw [List.length_append, List.length_map]; simp) hno hk r1 (fun m hm => by
          have := r3 hk m hm
          unfold Msg.right at this
          simp only [Bool.and_eq_true, decide_eq_true_eq] at this
          unfold effId
          rw [decide_eq_true (by omega), decide_eq_true (by omega)]; rfl) hids.1 o.msgs [] rfl
        have hself : (p.map freedO ++ o :: l).set p.length { o with msgs := freed o.limit [] ++ o.msgs, dead := o.dead ++ gone o.limit [] } = p.map freedO ++ o :: l := by
          have : ({ o with msgs := freed o.limit [] ++ o.msgs, dead := o.dead ++ gone o.limit [] } : Ob) = o := by
            show (⟨o.name, o.kind, o.limit, o.rows, o.msgs, o.dead ++ []⟩ : Ob) = o
            rw [List.append_nil]
          rw [this, List.set_append_right _ _ (by rw [List.length_map]; exact Nat.le_refl _), List.length_map, Nat.sub_self]
          rfl
        have hc : doAll ⟨s.next, (p.map freedO ++ o :: l).set p.length { o with msgs := freed o.limit [] ++ o.msgs, dead := o.dead ++ gone o.limit [] }⟩ (clE o.name o.msgs) = (⟨s.next, (p.map freedO ++ o :: l).set p.length (freedO o)⟩, 0) := hc
        rw [hself, hset] at hc
        exact hc
    rw [doAll_app key]
    exact ih
/-- Behind its claims: each message freed. -/
theorem apply_claims {s : Stt} (hr : s.right = true) : applyS s (claimsS s) = (⟨s.next, s.objs.map freedO⟩, 0) := by
  unfold applyS
  rw [if_neg (by rw [hr]; decide)]
  exact claims_all (right_SR hr) s.objs [] rfl
theorem claims_none (s : Stt) : claimsS ⟨s.next, s.objs.map freedO⟩ = [] := by
  unfold claimsS
  rw [List.flatMap_map, List.flatMap_eq_nil_iff]
  intro o ho
  unfold claimsO
  rw [List.map_eq_nil_iff, List.filter_eq_nil_iff]
  intro m hm
  rw [freed_un (hm : m ∈ freed o.limit o.msgs)]
  decide
theorem claims_len (s : Stt) {n : Nat} (h : (s.objs.map (fun o => o.msgs.length)).sum ≤ n) : (claimsS s).length ≤ n := by
  refine Nat.le_trans ?_ h
  unfold claimsS
  rw [List.length_flatMap]
  generalize s.objs = l
  induction l with
  | nil => exact Nat.le_refl _
  | cons o l ih =>
    simp only [List.map_cons, List.sum_cons]
    have : (claimsO o).length ≤ o.msgs.length := by unfold claimsO; rw [List.length_map]; exact List.length_filter_le _ _
    omega
/-- Where a message of an object is behind its claims. -/
theorem freed_where {s : Stt} (h : SR s) {o : Ob} (ho : o ∈ s.objs) {m : Msg} (hm : m ∈ o.msgs) :
    (m.claimed = true → o.limit ≤ m.tried.retry → ∃ i : Nat, findM (freedO o).dead m.id = (i : Int) ∧ (freedO o).dead[i]? = some m.tried) ∧
    (m.claimed = true → ¬ o.limit ≤ m.tried.retry → ∃ i : Nat, findM (freedO o).msgs m.id = (i : Int) ∧ (freedO o).msgs[i]? = some m.tried) ∧
    (¬ m.claimed = true → ∃ i : Nat, findM (freedO o).msgs m.id = (i : Int) ∧ (freedO o).msgs[i]? = some m) := by
  have hids := h.ids_obj ho
  unfold Ob.ids at hids
  rw [List.map_append, List.nodup_append] at hids
  obtain ⟨n1, n2, n3⟩ := hids
  have f1 : ((freedO o).msgs.map (·.id)).Nodup := n1.sublist (freed_sub o.limit o.msgs)
  have f2 : ((freedO o).dead.map (·.id)).Nodup := by
    show ((o.dead ++ gone o.limit o.msgs).map (·.id)).Nodup
    rw [List.map_append, List.nodup_append]
    exact ⟨n2, n1.sublist (gone_sub o.limit o.msgs), fun a ha b hb => fun e => n3 b ((gone_sub o.limit o.msgs).subset hb) a ha e.symm⟩
  obtain ⟨w1, w2, w3⟩ := freed_mem (lim := o.limit) hm
  exact ⟨fun a b => idx_mem (m := m.tried) f2 (List.mem_append_right _ (w1 a b)), fun a b => idx_mem (m := m.tried) f1 (w2 a b), fun a => idx_mem f1 (w3 a)⟩
theorem freedO_len (o : Ob) : (freedO o).msgs.length + (freedO o).dead.length = o.msgs.length + o.dead.length := by
  have := freed_len o.limit o.msgs
  show (freed o.limit o.msgs).length + (o.dead ++ gone o.limit o.msgs).length = _
  rw [List.length_append]
  omega
end Go.Proofs.YthnmoiilaaoooaaGreat.L
