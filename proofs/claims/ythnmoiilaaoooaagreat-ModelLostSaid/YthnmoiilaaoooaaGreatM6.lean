/- Transactions done again, one behind the other. -/
import Derived.Test.YthnmoiilaaoooaaGreatM5
import Derived.Test.YthnmoiilaaoooaaGreatLS
namespace Go.Proofs.YthnmoiilaaoooaaGreat.L
open Go Go.Proofs
attribute [local irreducible] pv fv pt fz RowF RowO rowP old pure_ elA
set_option maxRecDepth 100000
set_option linter.unusedSimpArgs false
set_option linter.unusedVariables false

/-- The first j turned. -/
def mapTo {α : Type} (f : α → α) (l : List α) (j : Nat) : List α := (l.take j).map f ++ l.drop j
theorem mapTo_len {α : Type} (f : α → α) (l : List α) (j : Nat) : (mapTo f l j).length = l.length := by
  unfold mapTo; rw [List.length_append, List.length_map, ← List.length_append, List.take_append_drop]
theorem mapTo_at {α : Type} {f : α → α} {l : List α} {j : Nat} {x : α} (h : l[j]? = some x) : (mapTo f l j)[j]? = some x := by
  obtain ⟨h1, h2⟩ := List.getElem?_eq_some_iff.1 h
  unfold mapTo
  rw [List.getElem?_append_right (by rw [List.length_map, List.length_take]; omega), List.length_map, List.length_take, Nat.min_eq_left (by omega), Nat.sub_self, List.getElem?_drop, Nat.add_zero, h]
theorem mapTo_set {α : Type} {f : α → α} {l : List α} {j : Nat} {x : α} (h : l[j]? = some x) : (mapTo f l j).set j (f x) = mapTo f l (j + 1) := by
  obtain ⟨h1, h2⟩ := List.getElem?_eq_some_iff.1 h
  unfold mapTo
  rw [List.set_append_right _ _ (by rw [List.length_map, List.length_take]; omega), List.length_map, List.length_take, Nat.min_eq_left (by omega), Nat.sub_self, List.drop_eq_getElem_cons h1, List.take_add_one, h, List.set_cons_zero, List.map_append, List.append_assoc]
  rfl
theorem mapTo_zero {α : Type} (f : α → α) (l : List α) : mapTo f l 0 = l := rfl
theorem mapTo_all {α : Type} (f : α → α) (l : List α) : mapTo f l l.length = l.map f := by
  unfold mapTo; rw [List.take_length, List.drop_length, List.append_nil]
theorem mapTo_erase {α : Type} {f : α → α} {l : List α} {j : Nat} {x : α} (h : l[j]? = some x) : (mapTo f l (j + 1)).eraseIdx j = (mapTo f l j).eraseIdx j := by
  rw [← mapTo_set h, List.eraseIdx_set_eq]
def unclM (m : Msg) : Msg := { m with claimed := false }
def unclO (o : Ob) : Ob := { o with msgs := o.msgs.map unclM }
def unclZ (o : Oz) : Oz := ⟨unclO o.x, o.z⟩
def unclS (s : Stt) : Stt := ⟨s.next, s.objs.map unclO⟩
theorem unclZ_cells (o : Oz) : (unclZ o).cells = o.cells := by
  unfold unclZ unclO Oz.cells
  simp
theorem unclO_small {o : Ob} {n : Nat} (h : o.small n) : (unclO o).small n := by
  obtain ⟨⟨a1, a2, a3, a4, a5, a6, a7, a8, a9⟩, b, c, d⟩ := h
  have hlen : (o.msgs.map unclM).length = o.msgs.length := List.length_map _
  refine ⟨⟨a1, a2, a3, a4, fun m hm => ?_, a6, a7, by show (o.msgs.map unclM).length ≤ _; omega, a9⟩, b, by show (o.msgs.map unclM).length ≤ _; omega, d⟩
  obtain ⟨m', hm', rfl⟩ := List.mem_map.1 (show m ∈ o.msgs.map unclM from hm)
  exact Msg.sm_claim (a5 m' hm') false
theorem unclS_small {s : Stt} {n : Nat} (h : s.small n) : (unclS s).small n := ⟨h.nx, by show (s.objs.map unclO).length ≤ _; rw [List.length_map]; exact h.len, fun o ho => by
  obtain ⟨o', ho', rfl⟩ := List.mem_map.1 ho
  exact unclO_small (h.obs o' ho')⟩
theorem allO_uncl {l : List Oz} {i : Nat} {o : Oz} {ρ : World} {L : List HP} {w : World} (ho : l[i]? = some o) (h : St ρ (RowO Kd.rw 29 o.z.q1 o.z.c1 o.x.rows :: RowO Kd.msg 39 o.z.q2 o.z.c2 (o.x.msgs.map unclM) :: RowO Kd.msg 39 o.z.q3 o.z.c3 o.x.dead :: AllO ObE ((mapTo unclZ l i).eraseIdx i) :: L) w) : St ρ (AllO ObE (mapTo unclZ l (i + 1)) :: L) w := by
  have hat : (mapTo unclZ l (i + 1))[i]? = some (unclZ o) := by
    rw [← mapTo_set ho, List.getElem?_set_self (by rw [mapTo_len]; exact (List.getElem?_eq_some_iff.1 ho).1)]
  have hp := pick_map ObE hat
  rw [mapTo_erase ho] at hp
  exact allO_put hp (St.exI (f := fun _ : Unit => ObO (unclZ o)) () h)
def serS : Stt → List (List Deed) → Stt × Bool
  | s, [] => (s, true)
  | s, l :: ls => if (runS s l).2 = true then serS (runS s l).1 ls else (s, false)
theorem runR_fold {s : Stt} : ∀ {l h h' : List Deed}, runR s h l = some h' → h' = l.foldl doD h
  | [], h, h', e => by cases e; rfl
  | d :: l, h, h', e => by
    rw [runR] at e
    split at e
    · exact runR_fold (l := l) e
    · cases e
theorem doS_next {s : Stt} {e : Eff} (hk : e.kind = 2) (h : (doS s e).2 = 0) : (doS s e).1.next = s.next := by
  unfold doS at h ⊢
  rw [if_neg (by omega : ¬ e.kind = 1), if_neg (by omega : ¬ e.kind = 8)] at h ⊢
  split
  · rfl
  · split
    · rfl
    · split
      · rfl
      · split <;> rfl
theorem doAll_next : ∀ {l : List Eff} {s : Stt}, (∀ e ∈ l, e.kind = 2) → (doAll s l).2 = 0 → (doAll s l).1.next = s.next
  | [], _, _, _ => rfl
  | e :: l, s, hk, h => by
    by_cases h1 : (doS s e).2 = 0
    · rw [doAll_step h1] at h ⊢
      rw [doAll_next (fun x hx => hk x (List.mem_cons_of_mem _ hx)) h, doS_next (hk e (List.mem_cons_self ..)) h1]
    · rw [doAll_stop h1] at h
      exact absurd h h1
theorem foldl_doD_sub : ∀ {l h : List Deed} {d : Deed}, d ∈ l.foldl doD h → d ∈ h ∨ d ∈ l
  | [], _, _, hd => .inl hd
  | a :: l, h, d, hd => by
    rcases foldl_doD_sub (l := l) hd with h1 | h1
    · rcases doD_sub h1 with h2 | h2
      · exact .inl h2
      · exact .inr (h2 ▸ List.mem_cons_self ..)
    · exact .inr (List.mem_cons_of_mem _ h1)
theorem runS_next {s : Stt} {l : List Deed} (hok : ∀ d ∈ l, d.ok) (h : (runS s l).2 = true) : (runS s l).1.next = s.next := by
  unfold runS at h ⊢
  cases hr : runR s [] l with
  | none => rw [hr] at h; cases h
  | some g =>
    rw [hr] at h
    have hg : ∀ d ∈ g, d.ok := fun d hd => by
      rw [runR_fold hr] at hd
      rcases foldl_doD_sub hd with h1 | h1
      · cases h1
      · exact hok d h1
    have h2 : (applyS s (effsD g)).2 = 0 := by simpa using h
    show (applyS s (effsD g)).1.next = s.next
    unfold applyS at h2 ⊢
    split
    · rename_i hr2; rw [if_pos hr2] at h2; cases h2
    · rename_i hr2; rw [if_neg hr2] at h2; exact doAll_next (effs_put hg) h2
def okL (x : Sl Deed) : Prop := (∀ d ∈ x.l, d.ok) ∧ (∀ d ∈ x.l, d.req.kind ≠ 5) ∧ ((effsD (x.l.foldl doD [])).map plOf).Nodup
def totL (ls : List (Sl Deed)) : Nat := (ls.map (fun x => x.l.length)).sum
theorem totL_succ {ls : List (Sl Deed)} {i : Nat} {x : Sl Deed} (h : ls[i]? = some x) : totL (ls.take (i + 1)) = totL (ls.take i) + x.l.length := by
  unfold totL
  rw [List.take_add_one, h, List.map_append, List.sum_append]
  simp
theorem totL_le (ls : List (Sl Deed)) (i : Nat) : totL (ls.take i) ≤ totL ls := by
  unfold totL
  conv => rhs; rw [← List.take_append_drop i ls, List.map_append, List.sum_append]
  omega
theorem pv_eq {b t : Nat} {cs ds : List Value} {ρ : World} {L : List HP} {w : World} (e : cs = ds) (h : St ρ (pv b t cs :: L) w) : St ρ (pv b t ds :: L) w := by rw [← e]; exact h
set_option maxHeartbeats 6400000 in
theorem mo_Serial (s : Sz) (n : Nat) (q : Option Addr) (c : Nat) (ls : List (Sl Deed)) (hs : s.good n) (hn : n + totL ls ≤ 1000000) (hll : ls.length ≤ 1000000) (hnx : 1 ≤ s.next ∨ ls = []) (hok : ∀ x ∈ ls, okL x) : Fn Tryz.prog 10 [.agg s.cells.toArray, .slice q ls.length c].toArray (RowF Kd.sl q ls :: NestSl Kd.deed ls :: StL s)
    (fun r post => ∃ s' : Sz, r = .tuple #[.agg s'.cells.toArray, .bool (serS (unclS s.st) (ls.map (·.l))).2] ∧ s'.st = (serS (unclS s.st) (ls.map (·.l))).1 ∧ post = RowF Kd.sl q ls :: NestSl Kd.deed ls :: (StL s ++ StL s') ∧ s'.good (n + totL ls)) := by
  have hlen := Sz.len_of hs.sm
  have hle : ∀ o ∈ s.l, o.le 1000000000 := fun o ho => Oz.le_of (hs.sm.oz ho) (by omega)
  refine Fn.enter (N := 60) Tryz.func10 rfl Tryz.ntmps10 (by kernel_rfl) rfl (fun ρ L => ?_)
  refine K.seq ?_
  refine K.region ?_
  refine KO.loud rfl (l_box rfl rfl) ?_
  rintro _ _ ⟨b2, rfl, rfl⟩
  refine KO.loud rfl (l_alloc zo_24) ?_
  rintro _ _ ⟨b4, rfl, rfl⟩
  refine KO.q rfl (q_assign rfl) ?_
  refine KO.done ?_
  refine K.seq ?_
  refine K.region ?_
  refine KO.q rfl (q_loadN ck_24 rfl rfl (by first | (apply cells_pv; (repeat (first | exact List.Mem.head _ | apply List.Mem.tail))) | (apply cells_fv; (repeat (first | exact List.Mem.head _ | apply List.Mem.tail))))) ?_
  refine KO.loud rfl (OpL.callD rfl (h := st_CloneO s hlen hle)) ?_
  rintro _ _ ⟨_, ⟨q', c', l', rfl, rfl, hm, hlc, hcap⟩, rfl⟩
  refine KO.loud rfl (l_alloc zo_24) ?_
  rintro _ _ ⟨b6, rfl, rfl⟩
  refine KO.loudN rfl (l_storeAll ck_24 rfl rfl ⟨rfl, rfl⟩ (sz_one _) (by repeat (first | exact Pick.here | apply Pick.there))) ?_
  rintro _ _ ⟨rfl, rfl⟩
  refine KO.done ?_
  refine K.seq <| K.seq ?_
  have hlm : l'.length = s.l.length := by have := congrArg List.length hm; simpa using this
  have hosm : ∀ o ∈ l', o.x.small n := fun o ho => by
    have : o.x ∈ s.l.map (·.x) := by rw [← hm]; exact List.mem_map_of_mem ho
    obtain ⟨p, hp1, hp2⟩ := List.mem_map.1 this
    rw [← hp2]; exact hs.sm.oz hp1
  refine K.region ?_
  refine KO.q rfl (q_field fo_24_1 rfl) ?_
  refine KO.q rfl (q_load1D ck_22 rfl) ?_
  refine KO.q rfl (q_len Tryz.underlying22 rfl) ?_
  refine KO.q rfl (q_move rfl) ?_
  refine KO.done ?_
  refine K.block ?_
  refine K.rounds2 (ι := { x : Nat // x ≤ l'.length }) (fun x => [(18, .int .i64 x.1), (17, .int .i64 l'.length), (1, .slice q ls.length c), (6, .pointer (some ⟨b6, 0, none⟩)), (4, .pointer (some ⟨b4, 0, none⟩))]) (fun x => AllO ObE (mapTo unclZ l' x.1) :: RowO Kd.oz 33 q' c' l' :: pv b6 24 [.int .i64 s.next, .slice q' l'.length c'] :: pv b4 24 [.int .i64 0, .slice none 0 0] :: RowF Kd.sl q ls :: NestSl Kd.deed ls :: StL s ++ L) (fun x => l'.length - x.1) ⟨0, Nat.zero_le _⟩ (by repeat (first | exact Env.sub_nil _ | refine Env.sub_cons rfl ?_)) (fun w h => by rw [show mapTo unclZ l' 0 = l' from rfl]; exact h.fitD) (fun x ih => ?_)
  obtain ⟨i, hi⟩ := x
  dsimp only at hi ⊢
  refine K.seq ?_
  refine K.region ?_
  refine KO.q rfl (q_lt rfl rfl) ?_
  refine KO.done ?_
  refine K.seq ?_
  refine K.dcond (s := 19) rfl (fun g19 => ?_) (fun g19 => ?_)
  · obtain ⟨o, ho⟩ : ∃ o, l'[i]? = some o := ⟨_, List.getElem?_eq_getElem (by omega)⟩
    have hoi := (List.getElem?_eq_some_iff.1 ho).1
    obtain ⟨ho1, ho2, ho3⟩ := Oz.le_of (m := 1000000000) (hosm o (List.mem_of_getElem? ho)) (by omega)
    refine K.st (fun w h => (St.exO (f := fun _ : Unit => ObO o) (allO_out (f := ObE) (mapTo_at ho) h)).elim fun _ h => h) ?_
    refine K.skip <| K.seq <| K.block <| K.seq ?_
    refine K.region ?_
    refine KO.q rfl (q_move rfl) ?_
    refine KO.q rfl (q_assign rfl) ?_
    refine KO.done ?_
    refine K.seq ?_
    refine K.region ?_
    refine KO.q rfl (q_field fo_24_1 rfl) ?_
    refine KO.q rfl (q_load1D ck_22 rfl) ?_
    refine KO.q rfl (q_move rfl) ?_
    refine KO.q rfl (q_ix (xs := l') i se_22 rfl rfl rfl isO (by repeat (first | exact List.Mem.head _ | apply List.Mem.tail)) rfl hoi) ?_
    refine KO.q rfl (q_fieldE fo_33_4 rfl) ?_
    refine KO.q rfl (q_ldE (xs := l') ck_31 rfl isO (by repeat (first | exact List.Mem.head _ | apply List.Mem.tail)) ho rfl) ?_
    refine KO.q rfl (q_len Tryz.underlying31 rfl) ?_
    refine KO.q rfl (q_move rfl) ?_
    refine KO.done ?_
    refine K.block ?_
    refine K.rounds2 (ι := { x : Nat // x ≤ o.x.msgs.length }) (fun x => [(28, .int .i64 x.1), (27, .int .i64 o.x.msgs.length), (7, .int .i64 i), (18, .int .i64 i), (17, .int .i64 l'.length), (1, .slice q ls.length c), (6, .pointer (some ⟨b6, 0, none⟩)), (4, .pointer (some ⟨b4, 0, none⟩))]) (fun x => RowO Kd.rw 29 o.z.q1 o.z.c1 o.x.rows :: RowO Kd.msg 39 o.z.q2 o.z.c2 (mapTo unclM o.x.msgs x.1) :: RowO Kd.msg 39 o.z.q3 o.z.c3 o.x.dead :: AllO ObE ((mapTo unclZ l' i).eraseIdx i) :: RowO Kd.oz 33 q' c' l' :: pv b6 24 [.int .i64 s.next, .slice q' l'.length c'] :: pv b4 24 [.int .i64 0, .slice none 0 0] :: RowF Kd.sl q ls :: NestSl Kd.deed ls :: StL s ++ L) (fun x => o.x.msgs.length - x.1) ⟨0, Nat.zero_le _⟩ (by repeat (first | exact Env.sub_nil _ | refine Env.sub_cons rfl ?_)) (fun w h => by rw [show mapTo unclM o.x.msgs 0 = o.x.msgs from rfl]; exact h.fitD) (fun x ih2 => ?_)
    obtain ⟨j, hj⟩ := x
    dsimp only at hj ⊢
    have hml := mapTo_len unclM o.x.msgs j
    refine K.seq ?_
    refine K.region ?_
    refine KO.q rfl (q_lt rfl rfl) ?_
    refine KO.done ?_
    refine K.seq ?_
    refine K.dcond (s := 29) rfl (fun g29 => ?_) (fun g29 => ?_)
    · obtain ⟨m, hme⟩ : ∃ m, o.x.msgs[j]? = some m := ⟨_, List.getElem?_eq_getElem (by omega)⟩
      have hmat := mapTo_at (f := unclM) hme
      have hmset := mapTo_set (f := unclM) hme
      refine K.skip <| K.seq <| K.block <| K.seq ?_
      refine K.region ?_
      refine KO.q rfl (q_move rfl) ?_
      refine KO.q rfl (q_assign rfl) ?_
      refine KO.done ?_
      refine K.region ?_
      refine KO.q rfl (q_field fo_24_1 rfl) ?_
      refine KO.q rfl (q_load1D ck_22 rfl) ?_
      refine KO.q rfl (q_move rfl) ?_
      refine KO.q rfl (q_ix (xs := l') i se_22 rfl rfl rfl isO (by repeat (first | exact List.Mem.head _ | apply List.Mem.tail)) rfl hoi) ?_
      refine KO.q rfl (q_fieldE fo_33_4 rfl) ?_
      refine KO.q rfl (q_ldE (xs := l') ck_31 rfl isO (by repeat (first | exact List.Mem.head _ | apply List.Mem.tail)) ho rfl) ?_
      refine KO.q rfl (q_move rfl) ?_
      refine KO.q rfl (q_ix (xs := mapTo unclM o.x.msgs j) j se_31 rfl rfl rfl isO (by repeat (first | exact List.Mem.head _ | apply List.Mem.tail)) hml.symm (by omega)) ?_
      refine KO.q rfl (q_fieldE fo_39_3 rfl) ?_
      refine KO.loudN rfl (l_storeE (xs := mapTo unclM o.x.msgs j) (el := m) (unclM m) ck_4 rfl rfl rfl (by repeat (first | exact Pick.here | apply Pick.there)) hmat (by decide) rfl) ?_
      rintro _ _ ⟨rfl, rfl⟩
      refine KO.done ?_
      refine K.inBlock ?_
      refine K.region ?_
      refine KO.q rfl (q_add rfl rfl (by first | omega | (simp; omega)) (by first | omega | (simp; omega))) ?_
      refine KO.q rfl (q_move rfl) ?_
      refine KO.done ?_
      exact K.weak (by repeat (first | exact Env.sub_nil _ | refine Env.sub_cons rfl ?_)) (fun w h => by rw [hmset] at h; exact h.fitD) (ih2 ⟨j + 1, by omega⟩ (by show o.x.msgs.length - (j + 1) < o.x.msgs.length - j; omega))
    · obtain rfl : j = o.x.msgs.length := by omega
      clear ih2
      rw [mapTo_all]
      refine K.exit rfl ?_
      refine K.inBlock ?_
      refine K.region ?_
      refine KO.q rfl (q_add rfl rfl (by first | omega | (simp; omega)) (by first | omega | (simp; omega))) ?_
      refine KO.q rfl (q_move rfl) ?_
      refine KO.done ?_
      exact K.weak (by repeat (first | exact Env.sub_nil _ | refine Env.sub_cons rfl ?_)) (fun w h => (allO_uncl ho (h.fit (M := RowO Kd.rw 29 o.z.q1 o.z.c1 o.x.rows :: RowO Kd.msg 39 o.z.q2 o.z.c2 (o.x.msgs.map unclM) :: RowO Kd.msg 39 o.z.q3 o.z.c3 o.x.dead :: AllO ObE ((mapTo unclZ l' i).eraseIdx i) :: RowO Kd.oz 33 q' c' l' :: pv b6 24 [.int .i64 s.next, .slice q' l'.length c'] :: pv b4 24 [.int .i64 0, .slice none 0 0] :: RowF Kd.sl q ls :: NestSl Kd.deed ls :: StL s) (by repeat (first | exact Give.nil | (apply Give.perI; (repeat (first | exact List.Mem.head _ | apply List.Mem.tail))) | (apply Give.own; (repeat (first | exact Pick.here | apply Pick.there))))) (by repeat (first | exact Drop.refl | apply Drop.skip)))).fitD) (ih ⟨i + 1, by omega⟩ (by show l'.length - (i + 1) < l'.length - i; omega))
  · obtain rfl : i = l'.length := by omega
    clear ih
    rw [mapTo_all]
    obtain ⟨sx, hsx⟩ : ∃ sx : Sz, sx = ⟨s.next, q', c', l'.map unclZ⟩ := ⟨_, rfl⟩
    have hsxs : sx.st = unclS s.st := by
      rw [hsx]
      unfold Sz.st unclS
      dsimp only
      rw [← hm, List.map_map, List.map_map]
      rfl
    have hsxg : sx.good n := by
      refine ⟨by rw [hsxs]; exact unclS_small hs.sm, by rw [hsx]; show (l'.map unclZ).length ≤ c'; rw [List.length_map]; exact hlc, ?_⟩
      rw [hsx]
      intro o ho
      obtain ⟨o', ho', rfl⟩ := List.mem_map.1 (show o ∈ l'.map unclZ from ho)
      obtain ⟨k1, k2, k3⟩ := hcap o' ho'
      exact ⟨k1, by show (o'.x.msgs.map unclM).length ≤ _; rw [List.length_map]; exact k2, k3⟩
    have hsxn : 1 ≤ sx.next ∨ ls = [] := by rw [hsx]; exact hnx
    have hcell : ([.int .i64 s.next, .slice q' l'.length c'] : List Value) = sx.cells := by rw [hsx]; simp [Sz.cells]
    have hst : ∀ w, St ρ (AllO ObE (l'.map unclZ) :: RowO Kd.oz 33 q' c' l' :: pv b6 24 [.int .i64 s.next, .slice q' l'.length c'] :: pv b4 24 [.int .i64 0, .slice none 0 0] :: RowF Kd.sl q ls :: NestSl Kd.deed ls :: StL s ++ L) w → St ρ (pv b6 24 sx.cells :: pv b4 24 [.int .i64 0, .slice none 0 0] :: RowF Kd.sl q ls :: NestSl Kd.deed ls :: RowF Kd.oz sx.q sx.l :: NestF sx.l :: StL s ++ L) w := fun w h => by
      have h1 := allO_freeze h
      have h2 := rowO_re (f := unclZ) (fun g x cs hr => (show cs = (unclZ x).cells by rw [unclZ_cells]; exact hr)) (h1.pick (.there .here))
      have h3 := rowO_freeze h2
      rw [← hcell, hsx]
      exact h3.fitD
    refine K.st hst ?_
    refine K.exit rfl ?_
    refine K.seq <| K.seq ?_
    refine K.region ?_
    refine KO.q rfl (q_move rfl) ?_
    refine KO.q rfl (q_len Tryz.underlying57 rfl) ?_
    refine KO.q rfl (q_move rfl) ?_
    refine KO.done ?_
    refine K.block ?_
    refine K.rounds2 (ι := { x : Nat × Sz // x.1 ≤ ls.length ∧ serS (unclS s.st) (ls.map (·.l)) = serS x.2.st ((ls.drop x.1).map (·.l)) ∧ x.2.good (n + totL (ls.take x.1)) ∧ (1 ≤ x.2.next ∨ ls = []) }) (fun x => [(44, .int .i64 x.1.1), (43, .int .i64 ls.length), (42, .slice q ls.length c), (6, .pointer (some ⟨b6, 0, none⟩)), (4, .pointer (some ⟨b4, 0, none⟩))]) (fun x => pv b6 24 x.1.2.cells :: pv b4 24 [.int .i64 0, .slice none 0 0] :: RowF Kd.sl q ls :: NestSl Kd.deed ls :: RowF Kd.oz x.1.2.q x.1.2.l :: NestF x.1.2.l :: StL s ++ L) (fun x => ls.length - x.1.1) ⟨(0, sx), Nat.zero_le _, by rw [hsxs]; rfl, hsxg, hsxn⟩ (by repeat (first | exact Env.sub_nil _ | refine Env.sub_cons rfl ?_)) (fun w h => h.fitD) (fun x ih => ?_)
    obtain ⟨⟨i, sy⟩, hi, hser, hg, hny⟩ := x
    dsimp only at hi hser hg hny ⊢
    have htl := totL_le ls i
    refine K.seq ?_
    refine K.region ?_
    refine KO.q rfl (q_lt rfl rfl) ?_
    refine KO.done ?_
    refine K.seq ?_
    refine K.dcond (s := 45) rfl (fun g45 => ?_) (fun g45 => ?_)
    · obtain ⟨x, hx⟩ : ∃ x, ls[i]? = some x := ⟨_, List.getElem?_eq_getElem (by omega)⟩
      have hxm := List.mem_of_getElem? hx
      obtain ⟨hx1, hx2, hx3⟩ := hok x hxm
      have hts := totL_succ hx
      have htl2 := totL_le ls (i + 1)
      have hny1 : 1 ≤ sy.next := hny.elim id (fun e => by rw [e] at hxm; cases hxm)
      have hdr : (ls.drop i).map (·.l) = x.l :: (ls.drop (i + 1)).map (·.l) := by
        obtain ⟨h1, h2⟩ := List.getElem?_eq_some_iff.1 hx
        rw [List.drop_eq_getElem_cons h1, h2, List.map_cons]
      refine K.st (fun w h => nestSl_at (l := ls) (by repeat (first | exact List.Mem.head _ | apply List.Mem.tail)) hxm h) ?_
      refine K.skip <| K.seq <| K.block <| K.seq ?_
      refine K.region ?_
      refine KO.q rfl (q_ix (xs := ls) i se_57 rfl rfl rfl isF (by repeat (first | exact List.Mem.head _ | apply List.Mem.tail)) rfl (by omega)) ?_
      refine KO.q rfl (q_ldE (xs := ls) ck_46 rfl isF (by repeat (first | exact List.Mem.head _ | apply List.Mem.tail)) hx rfl) ?_
      refine KO.q rfl (q_assign rfl) ?_
      refine KO.done ?_
      refine K.seq ?_
      refine K.region ?_
      refine KO.q rfl (q_loadN ck_24 rfl rfl (by first | (apply cells_pv; (repeat (first | exact List.Mem.head _ | apply List.Mem.tail))) | (apply cells_fv; (repeat (first | exact List.Mem.head _ | apply List.Mem.tail))))) ?_
      refine KO.q rfl (q_move rfl) ?_
      refine KO.loud rfl (OpL.callD rfl (h := mo_run (RowF Kd.deed x.q x.l) sy (n + totL (ls.take i)) x.q x.c x.l isF hg (by omega) hny1 hx1 hx2 (fun h hr => by rw [runR_fold hr]; exact hx3))) ?_
      rintro _ _ ⟨_, ⟨s', rfl, hs1, rfl, hs2⟩, rfl⟩
      refine KO.q rfl (q_move rfl) ?_
      refine KO.q rfl (q_extract rfl rfl) ?_
      refine KO.q rfl (q_extract rfl rfl) ?_
      refine KO.loud rfl (l_alloc zo_24) ?_
      rintro _ _ ⟨b11, rfl, rfl⟩
      refine KO.loudN rfl (l_storeAll ck_24 rfl rfl ⟨rfl, rfl⟩ (sz_one _) (by repeat (first | exact Pick.here | apply Pick.there))) ?_
      rintro _ _ ⟨rfl, rfl⟩
      refine KO.q rfl (q_assign rfl) ?_
      refine KO.done ?_
      refine K.seq <| K.seq ?_
      refine K.region ?_
      refine KO.q rfl (q_move rfl) ?_
      refine KO.q rfl (q_not rfl) ?_
      refine KO.done ?_
      refine K.bcond (s := 55) rfl (fun g55 => ?_) (fun g55 => ?_)
      · have hrb : (runS sy.st x.l).2 = false := by simpa using g55
        have hfin : serS (unclS s.st) (ls.map (·.l)) = (sy.st, false) := by rw [hser, hdr]; unfold serS; rw [if_neg (by rw [hrb]; decide)]
        refine K.seq ?_
        refine K.region ?_
        refine KO.q rfl (q_loadN ck_24 rfl rfl (by first | (apply cells_pv; (repeat (first | exact List.Mem.head _ | apply List.Mem.tail))) | (apply cells_fv; (repeat (first | exact List.Mem.head _ | apply List.Mem.tail))))) ?_
        refine KO.loudN rfl (l_storeAll ck_24 rfl rfl ⟨rfl, rfl⟩ (sz_one _) (by repeat (first | exact Pick.here | apply Pick.there))) ?_
        rintro _ _ ⟨rfl, rfl⟩
        refine KO.q rfl (q_assign rfl) ?_
        refine KO.done ?_
        refine K.ret (fn := Tryz.f10) Tryz.func10 (fun a w hk hs => resCT Tryz.results10 hk rfl ck_24 rfl (cells_pv (by repeat (first | exact List.Mem.head _ | apply List.Mem.tail)) w hs) rfl) (fun w hs => ?_)
        rw [hfin]
        exact ⟨_, RowF Kd.sl q ls :: NestSl Kd.deed ls :: (StL s ++ StL sy), rfl, ⟨sy, rfl, rfl, rfl, ⟨hg.sm.more (by omega), hg.room, hg.cap⟩⟩, hs.fitD⟩
      · have hrb : (runS sy.st x.l).2 = true := by simpa using g55
        have hstep : serS (unclS s.st) (ls.map (·.l)) = serS s'.st ((ls.drop (i + 1)).map (·.l)) := by rw [hser, hdr, hs1]; show (if (runS sy.st x.l).2 = true then _ else _) = _; rw [if_pos hrb]
        have hn' : 1 ≤ s'.next := by
          have h1 : s'.st.next = sy.st.next := by rw [hs1]; exact runS_next hx1 hrb
          have h2 : s'.next = sy.next := h1
          omega
        refine K.skip ?_
        refine K.region ?_
        refine KO.q rfl (q_loadN ck_24 rfl rfl (by first | (apply cells_pv; (repeat (first | exact List.Mem.head _ | apply List.Mem.tail))) | (apply cells_fv; (repeat (first | exact List.Mem.head _ | apply List.Mem.tail))))) ?_
        refine KO.loudN rfl (l_storeAll ck_24 rfl rfl ⟨rfl, rfl⟩ (sz_one _) (by repeat (first | exact Pick.here | apply Pick.there))) ?_
        rintro _ _ ⟨rfl, rfl⟩
        refine KO.done ?_
        refine K.inBlock ?_
        refine K.region ?_
        refine KO.q rfl (q_add rfl rfl (by first | omega | (simp; omega)) (by first | omega | (simp; omega))) ?_
        refine KO.q rfl (q_move rfl) ?_
        refine KO.done ?_
        exact K.weak (by repeat (first | exact Env.sub_nil _ | refine Env.sub_cons rfl ?_)) (fun w h => h.fitD) (ih ⟨(i + 1, s'), by show i + 1 ≤ _; omega, hstep, by show s'.good (n + totL (ls.take (i + 1))); rw [hts, ← Nat.add_assoc]; exact hs2, .inl hn'⟩ (by show ls.length - (i + 1) < ls.length - i; omega))
    · obtain rfl : i = ls.length := by omega
      have hfin : serS (unclS s.st) (ls.map (·.l)) = (sy.st, true) := by rw [hser, List.drop_length]; rfl
      clear ih
      refine K.exit rfl ?_
      refine K.seq ?_
      refine K.region ?_
      refine KO.q rfl (q_loadN ck_24 rfl rfl (by first | (apply cells_pv; (repeat (first | exact List.Mem.head _ | apply List.Mem.tail))) | (apply cells_fv; (repeat (first | exact List.Mem.head _ | apply List.Mem.tail))))) ?_
      refine KO.loudN rfl (l_storeAll ck_24 rfl rfl ⟨rfl, rfl⟩ (sz_one _) (by repeat (first | exact Pick.here | apply Pick.there))) ?_
      rintro _ _ ⟨rfl, rfl⟩
      refine KO.q rfl (q_assign rfl) ?_
      refine KO.done ?_
      refine K.ret (fn := Tryz.f10) Tryz.func10 (fun a w hk hs => resCT Tryz.results10 hk rfl ck_24 rfl (cells_pv (by repeat (first | exact List.Mem.head _ | apply List.Mem.tail)) w hs) rfl) (fun w hs => ?_)
      rw [hfin]
      exact ⟨_, RowF Kd.sl q ls :: NestSl Kd.deed ls :: (StL s ++ StL sy), rfl, ⟨sy, rfl, rfl, rfl, ⟨hg.sm.more (by omega), hg.room, hg.cap⟩⟩, hs.fitD⟩
end Go.Proofs.YthnmoiilaaoooaaGreat.L
