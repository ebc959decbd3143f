/- Walks: which messages there are, and which were taken. -/
import Derived.Test.YthnmoiilaaoooaaGreatN1
import Derived.Test.YthnmoiilaaoooaaGreatLM
namespace Go.Proofs.YthnmoiilaaoooaaGreat.L
open Go Go.Proofs
attribute [local irreducible] pv fv pt fz RowF RowO rowP old pure_ elA
set_option maxRecDepth 100000
set_option linter.unusedSimpArgs false
set_option linter.unusedVariables false

abbrev encN (n : Int) : Value := Value.int .i64 n
theorem mapGet_mem {es : List (Int × Value)} {k : Int} {v : Value} (h : (k, v) ∈ es) : ∃ u, mapGet es k = some u := by
  induction es with
  | nil => cases h
  | cons p l ih =>
    obtain ⟨a, x⟩ := p
    unfold mapGet
    by_cases e : k = a
    · exact ⟨x, if_pos e⟩
    · rw [if_neg e]
      rcases List.mem_cons.1 h with h | h
      · cases h; exact absurd rfl e
      · exact ih h
theorem mapGet_some {es : List (Int × Value)} {k : Int} {u : Value} (h : mapGet es k = some u) : (k, u) ∈ es := by
  induction es with
  | nil => cases h
  | cons p l ih =>
    obtain ⟨a, x⟩ := p
    unfold mapGet at h
    by_cases e : k = a
    · rw [if_pos e] at h; cases h; rw [e]; exact List.mem_cons_self ..
    · rw [if_neg e] at h; exact List.mem_cons_of_mem _ (ih h)
set_option maxHeartbeats 1600000 in
theorem mo_ids (s : Sz) (hl : s.l.length ≤ 1000000000) (hle : ∀ o ∈ s.l, o.le 1000000) : Fn Tryz.prog 21 [.agg s.cells.toArray].toArray (StL s) (fun v post => ∃ b es, v = .map (some b) ∧ Seen s.st.ids es ∧ post = [mpO (fun n : Int => Value.int .i64 n) b es]) := by
  refine Fn.enter (N := 33) Tryz.func21 rfl Tryz.ntmps21 (by kernel_rfl) rfl (fun ρ L => ?_)
  refine K.seq ?_
  refine K.region ?_
  refine KO.loud rfl (l_box rfl rfl) ?_
  rintro _ _ ⟨b1, rfl, rfl⟩
  refine KO.q rfl (q_assign rfl) ?_
  refine KO.done ?_
  refine K.seq ?_
  refine K.region ?_
  refine KO.loud rfl (l_makeMap (fun n : Int => Value.int .i64 n)) ?_
  rintro _ _ ⟨b8, rfl, rfl⟩
  refine KO.q rfl (q_assign rfl) ?_
  refine KO.done ?_
  refine K.seq <| K.seq ?_
  refine K.region ?_
  refine KO.q rfl (q_field fo_24_1 rfl) ?_
  refine KO.q rfl (q_load1D ck_22 rfl) ?_
  refine KO.q rfl (q_len Tryz.underlying22 rfl) ?_
  refine KO.q rfl (q_move rfl) ?_
  refine KO.done ?_
  refine K.block ?_
  refine K.rounds2 (ι := { x : Nat × List (Int × Value) // x.1 ≤ s.l.length ∧ Seen (idsTo s x.1) x.2 }) (fun x => [(12, .int .i64 x.1.1), (11, .int .i64 s.l.length), (10, .slice s.q s.l.length s.c), (3, .map (some b8)), (1, .pointer (some ⟨b1, 0, none⟩))]) (fun x => [mpO (fun n : Int => Value.int .i64 n) b8 x.1.2, pv b1 24 s.cells, RowF Kd.oz s.q s.l, NestF s.l] ++ L) (fun x => s.l.length - x.1.1) ⟨(0, []), Nat.zero_le _, Seen.nil⟩ (by repeat (first | exact Env.sub_nil _ | refine Env.sub_cons rfl ?_)) (fun w h => h.fitD) (fun x ih => ?_)
  obtain ⟨⟨i, es⟩, hi, hse⟩ := x
  dsimp only at hi hse ⊢
  refine K.seq ?_
  refine K.region ?_
  refine KO.q rfl (q_lt rfl rfl) ?_
  refine KO.done ?_
  refine K.seq ?_
  refine K.dcond (s := 13) rfl (fun g13 => ?_) (fun g13 => ?_)
  · obtain ⟨o, ho⟩ : ∃ e, s.l[i]? = some e := ⟨_, List.getElem?_eq_getElem (by omega)⟩
    have hmo := List.mem_of_getElem? ho
    obtain ⟨hfo1, hfo2, hfo3⟩ := hle o hmo
    refine K.st (fun w h => nestF_at (l := s.l) (by repeat (first | exact List.Mem.head _ | apply List.Mem.tail)) hmo h) ?_
    refine K.skip <| K.seq <| K.block <| K.seq ?_
    refine K.region ?_
    first | refine KO.q rfl (q_ix _ se_22 rfl rfl rfl isF (by repeat (first | exact List.Mem.head _ | apply List.Mem.tail)) rfl (by first | assumption | omega | exact (List.getElem?_eq_some_iff.1 (by assumption)).1 | (simp; omega))) ?_ | refine KO.q rfl (q_ix _ se_22 rfl rfl rfl isO (by repeat (first | exact List.Mem.head _ | apply List.Mem.tail)) rfl (by first | assumption | omega | exact (List.getElem?_eq_some_iff.1 (by assumption)).1 | (simp; omega))) ?_
    first | refine KO.q rfl (q_ldEN ck_33 rfl isF (by repeat (first | exact List.Mem.head _ | apply List.Mem.tail)) (by first | assumption | exact List.getElem?_eq_getElem (by first | assumption | omega | (simp; omega)))) ?_ | refine KO.q rfl (q_ldEN ck_33 rfl isO (by repeat (first | exact List.Mem.head _ | apply List.Mem.tail)) (by first | assumption | exact List.getElem?_eq_getElem (by first | assumption | omega | (simp; omega)))) ?_
    refine KO.loud rfl (l_alloc zo_33) ?_
    rintro _ _ ⟨b5, rfl, rfl⟩
    refine KO.loudN rfl (l_storeAll ck_33 rfl rfl ⟨rfl, rfl⟩ (oz_one _) (by repeat (first | exact Pick.here | apply Pick.there))) ?_
    rintro _ _ ⟨rfl, rfl⟩
    refine KO.done ?_
    refine K.seq ?_
    refine K.region ?_
    refine KO.q rfl (q_field fo_33_4 rfl) ?_
    refine KO.q rfl (q_load1D ck_31 rfl) ?_
    refine KO.q rfl (q_field fo_33_5 rfl) ?_
    refine KO.q rfl (q_load1D ck_31 rfl) ?_
    refine KO.loud rfl (l_slice sz_98_2 rfl (by repeat (first | exact Fill.nil | (apply Fill.cons; rfl; rfl; rfl) | exact SetN.nil | apply SetN.cons | exact SetAt.here | apply SetAt.there))) ?_
    rintro _ _ ⟨b20, rfl, rfl⟩
    refine KO.st (fun w h => pv_flat (n := 1) (enc := Sl.cells) (hl := fun _ => rfl) (h1 := fun _ v h => by simp [Sl.cells] at h; subst h; rfl) [⟨o.z.q2, o.z.c2, o.x.msgs⟩, ⟨o.z.q3, o.z.c3, o.x.dead⟩] rfl h) ?_
    refine KO.st (fun w h => nestSl_nil (k := Kd.msg) h) ?_
    refine KO.st (fun w h => nestSl_cons (k := Kd.msg) (l := []) ⟨o.z.q3, o.z.c3, o.x.dead⟩ (by repeat (first | exact List.Mem.head _ | apply List.Mem.tail)) (by repeat (first | exact List.Mem.head _ | apply List.Mem.tail)) h) ?_
    refine KO.st (fun w h => nestSl_cons (k := Kd.msg) (l := [⟨o.z.q3, o.z.c3, o.x.dead⟩]) ⟨o.z.q2, o.z.c2, o.x.msgs⟩ (by repeat (first | exact List.Mem.head _ | apply List.Mem.tail)) (by repeat (first | exact List.Mem.head _ | apply List.Mem.tail)) h) ?_
    refine KO.loud rfl (OpL.callE rfl (cc_msg (some ⟨b20, 0, none⟩) 2 [⟨o.z.q2, o.z.c2, o.x.msgs⟩, ⟨o.z.q3, o.z.c3, o.x.dead⟩] (by simp) (by simp; omega))) ?_
    rintro _ _ ⟨_, ⟨q9, c9, rfl, rfl⟩, rfl⟩
    rw [show [(⟨o.z.q2, o.z.c2, o.x.msgs⟩ : Sl Msg), ⟨o.z.q3, o.z.c3, o.x.dead⟩].flatMap (·.l) = o.x.msgs ++ o.x.dead by simp]
    have hcl : (o.x.msgs ++ o.x.dead).length ≤ 1099511627776 := by rw [List.length_append]; omega
    refine KO.q rfl (q_len Tryz.underlying31 rfl) ?_
    refine KO.q rfl (q_move rfl) ?_
    refine KO.done ?_
    refine K.block ?_
    refine K.rounds2 (ι := { x : Nat × List (Int × Value) // x.1 ≤ (o.x.msgs ++ o.x.dead).length ∧ Seen (idsTo s i ++ ((o.x.msgs ++ o.x.dead).take x.1).map (·.id)) x.2 }) (fun x => [(23, .int .i64 x.1.1), (22, .int .i64 (o.x.msgs ++ o.x.dead).length), (21, .slice q9 (o.x.msgs ++ o.x.dead).length c9), (12, .int .i64 i), (11, .int .i64 s.l.length), (10, .slice s.q s.l.length s.c), (3, .map (some b8)), (1, .pointer (some ⟨b1, 0, none⟩))]) (fun x => [mpO (fun n : Int => Value.int .i64 n) b8 x.1.2, RowF Kd.msg q9 (o.x.msgs ++ o.x.dead), pv b1 24 s.cells, RowF Kd.oz s.q s.l, NestF s.l] ++ L) (fun x => (o.x.msgs ++ o.x.dead).length - x.1.1) ⟨(0, es), Nat.zero_le _, by simpa using hse⟩ (by repeat (first | exact Env.sub_nil _ | refine Env.sub_cons rfl ?_)) (fun w h => h.fitD) (fun x ih2 => ?_)
    obtain ⟨⟨k, es2⟩, hk, hse2⟩ := x
    dsimp only at hk hse2 ⊢
    refine K.seq ?_
    refine K.region ?_
    refine KO.q rfl (q_lt rfl rfl) ?_
    refine KO.done ?_
    refine K.seq ?_
    refine K.dcond (s := 24) rfl (fun g24 => ?_) (fun g24 => ?_)
    · obtain ⟨m, hm⟩ : ∃ e, (o.x.msgs ++ o.x.dead)[k]? = some e := ⟨_, List.getElem?_eq_getElem (by omega)⟩
      refine K.skip <| K.seq <| K.block <| K.seq ?_
      refine K.region ?_
      first | refine KO.q rfl (q_ix _ se_31 rfl rfl rfl isF (by repeat (first | exact List.Mem.head _ | apply List.Mem.tail)) rfl (by first | assumption | omega | exact (List.getElem?_eq_some_iff.1 (by assumption)).1 | (simp; omega))) ?_ | refine KO.q rfl (q_ix _ se_31 rfl rfl rfl isO (by repeat (first | exact List.Mem.head _ | apply List.Mem.tail)) rfl (by first | assumption | omega | exact (List.getElem?_eq_some_iff.1 (by assumption)).1 | (simp; omega))) ?_
      first | refine KO.q rfl (q_ldEN ck_39 rfl isF (by repeat (first | exact List.Mem.head _ | apply List.Mem.tail)) (by first | assumption | exact List.getElem?_eq_getElem (by first | assumption | omega | (simp; omega)))) ?_ | refine KO.q rfl (q_ldEN ck_39 rfl isO (by repeat (first | exact List.Mem.head _ | apply List.Mem.tail)) (by first | assumption | exact List.getElem?_eq_getElem (by first | assumption | omega | (simp; omega)))) ?_
      refine KO.loud rfl (l_alloc zo_39) ?_
      rintro _ _ ⟨b7, rfl, rfl⟩
      refine KO.loudN rfl (l_storeAll ck_39 rfl rfl ⟨rfl, rfl⟩ (msg_one _) (by repeat (first | exact Pick.here | apply Pick.there))) ?_
      rintro _ _ ⟨rfl, rfl⟩
      refine KO.done ?_
      refine K.region ?_
      refine KO.q rfl (q_move rfl) ?_
      refine KO.q rfl (q_field fo_39_0 rfl) ?_
      refine KO.q rfl (q_load1D ck_3 rfl) ?_
      refine KO.loudN rfl (l_mapUpdate Tryz.underlying60 (mkey_int Tryz.underlying3) rfl rfl rfl (by repeat (first | exact Pick.here | apply Pick.there))) ?_
      rintro _ _ ⟨rfl, rfl⟩
      refine KO.done ?_
      refine K.inBlock ?_
      refine K.region ?_
      refine KO.q rfl (q_add rfl rfl (by first | omega | (simp; omega)) (by first | omega | (simp; omega))) ?_
      refine KO.q rfl (q_move rfl) ?_
      refine KO.done ?_
      have hst := ids_step hm (idsTo s i)
      exact K.weak (by repeat (first | exact Env.sub_nil _ | refine Env.sub_cons rfl ?_)) (fun w h => h.fitD) (ih2 ⟨(k + 1, mapPut es2 m.id (.bool true)), by show k + 1 ≤ _; omega, by show Seen (idsTo s i ++ ((o.x.msgs ++ o.x.dead).take (k + 1)).map (·.id)) _; rw [hst]; exact hse2.put m.id⟩ (by show (o.x.msgs ++ o.x.dead).length - (k + 1) < (o.x.msgs ++ o.x.dead).length - k; omega))
    · obtain rfl : k = (o.x.msgs ++ o.x.dead).length := by omega
      have hids : idsTo s i ++ ((o.x.msgs ++ o.x.dead).take (o.x.msgs ++ o.x.dead).length).map (·.id) = idsTo s (i + 1) := by rw [List.take_length, idsTo_succ ho]; rfl
      rw [hids] at hse2
      refine K.exit rfl ?_
      refine K.inBlock ?_
      refine K.region ?_
      refine KO.q rfl (q_add rfl rfl (by first | omega | (simp; omega)) (by first | omega | (simp; omega))) ?_
      refine KO.q rfl (q_move rfl) ?_
      refine KO.done ?_
      exact K.weak (by repeat (first | exact Env.sub_nil _ | refine Env.sub_cons rfl ?_)) (fun w h => h.fitD) (ih ⟨(i + 1, es2), by show i + 1 ≤ s.l.length; omega, hse2⟩ (by show s.l.length - (i + 1) < s.l.length - i; omega))
  · obtain rfl : i = s.l.length := by omega
    rw [idsTo_all] at hse
    clear ih
    refine K.exit rfl ?_
    refine K.seq ?_
    refine K.region ?_
    refine KO.q rfl (q_move rfl) ?_
    refine KO.q rfl (q_assign rfl) ?_
    refine KO.done ?_
    refine K.ret (fn := Tryz.f21) Tryz.func21 (fun a w hk hs => res1 Tryz.results21 hk rfl) (fun w hs => ?_)
    exact ⟨_, [mpO (fun n : Int => Value.int .i64 n) b8 es], rfl, ⟨b8, es, rfl, hse, rfl⟩, hs.fitD⟩
def deqE (d : Deed) : Eff := ⟨5, d.req.name, ⟨#[]⟩, ⟨#[]⟩, d.msg.id, 0, false, mz0⟩
theorem effs_deq {l : List Deed} (h : ∀ d ∈ l, d.req.kind = 12) : effsD l = l.map deqE := by
  unfold effsD
  induction l with
  | nil => rfl
  | cons d l ih =>
    have hd := h d (List.mem_cons_self ..)
    rw [List.filterMap_cons_some (b := deqE d) (by simp [Deed.eff, deqE, hd]), ih (fun x hx => h x (List.mem_cons_of_mem _ hx)), List.map_cons]
def Cnt (T : List Int) (es : List (Int × Value)) : Prop := ∀ n, (mapGet es n).getD (.int .i64 0) = .int .i64 (T.count n)
theorem Cnt.nil : Cnt [] [] := fun n => rfl
theorem Cnt.put {T : List Int} {es : List (Int × Value)} (h : Cnt T es) (k : Int) : Cnt (T ++ [k]) (mapPut es k (.int .i64 ((T.count k : Nat) + 1))) := fun n => by
  rw [mapGet_put, List.count_append, List.count_singleton]
  by_cases hn : n = k
  · subst hn; simp
  · have hk : (k == n) = false := by simpa using fun e => hn e.symm
    rw [if_neg hn, h n]
    simp [hk]
def takes (ls : List (Sl Deed)) : List Int := ls.flatMap (fun x => x.l.map (·.msg.id))
theorem takes_succ {ls : List (Sl Deed)} {i : Nat} {x : Sl Deed} (h : ls[i]? = some x) : takes (ls.take (i + 1)) = takes (ls.take i) ++ x.l.map (·.msg.id) := by
  unfold takes
  rw [List.take_add_one, h, List.flatMap_append]
  simp
theorem takes_len (ls : List (Sl Deed)) : (takes ls).length = totL ls := by
  unfold takes totL
  rw [List.length_flatMap]
  simp
theorem zv_int : zeroV Tryz.prog 3 = some (.int .i64 0) := by kernel_rfl
set_option maxHeartbeats 3200000 in
theorem mo_moves (q : Option Addr) (c : Nat) (ls : List (Sl Deed)) (hll : ls.length ≤ 1000) (htot : totL ls ≤ 1000) (hok : ∀ x ∈ ls, ∀ d ∈ x.l, d.err = 0 ∧ d.req.kind = 12) : Fn Tryz.prog 22 [.slice q ls.length c].toArray [RowF Kd.sl q ls, NestSl Kd.deed ls]
    (fun r post => ∃ b1 b2 es, r = .tuple #[.map (some b1), .map (some b2)] ∧ Cnt (takes ls) es ∧ post = [mpO encN b1 es, mpO encN b2 [], RowF Kd.sl q ls, NestSl Kd.deed ls]) := by
  refine Fn.enter (N := 65) Tryz.func22 rfl Tryz.ntmps22 (by kernel_rfl) rfl (fun ρ L => ?_)
  refine K.seq ?_
  refine K.region ?_
  refine KO.q rfl (q_assign rfl) ?_
  refine KO.q rfl (q_assign rfl) ?_
  refine KO.done ?_
  refine K.seq ?_
  refine K.region ?_
  refine KO.loud rfl (l_makeMap encN) ?_
  rintro _ _ ⟨b13, rfl, rfl⟩
  refine KO.loud rfl (l_makeMap encN) ?_
  rintro _ _ ⟨b14, rfl, rfl⟩
  refine KO.q rfl (q_assign rfl) ?_
  refine KO.q rfl (q_assign rfl) ?_
  refine KO.done ?_
  refine K.seq <| K.seq ?_
  refine K.region ?_
  refine KO.q rfl (q_move rfl) ?_
  refine KO.q rfl (q_len Tryz.underlying57 rfl) ?_
  refine KO.q rfl (q_move rfl) ?_
  refine KO.done ?_
  refine K.block ?_
  refine K.rounds2 (ι := { x : Nat × List (Int × Value) // x.1 ≤ ls.length ∧ Cnt (takes (ls.take x.1)) x.2 }) (fun x => [(17, .int .i64 x.1.1), (16, .int .i64 ls.length), (15, .slice q ls.length c), (4, .map (some b13)), (5, .map (some b14))]) (fun x => [mpO encN b13 x.1.2, mpO encN b14 [], RowF Kd.sl q ls, NestSl Kd.deed ls] ++ L) (fun x => ls.length - x.1.1) ⟨(0, []), Nat.zero_le _, Cnt.nil⟩ (by repeat (first | exact Env.sub_nil _ | refine Env.sub_cons rfl ?_)) (fun w h => h.fitD) (fun x ih => ?_)
  obtain ⟨⟨i, es⟩, hi, hc⟩ := x
  dsimp only at hi hc ⊢
  have htl := totL_le ls i
  refine K.seq ?_
  refine K.region ?_
  refine KO.q rfl (q_lt rfl rfl) ?_
  refine KO.done ?_
  refine K.seq ?_
  refine K.dcond (s := 18) rfl (fun g18 => ?_) (fun g18 => ?_)
  · obtain ⟨x, hx⟩ : ∃ x, ls[i]? = some x := ⟨_, List.getElem?_eq_getElem (by omega)⟩
    have hxm := List.mem_of_getElem? hx
    have hxk := hok x hxm
    have hts := totL_succ hx
    have htl2 := totL_le ls (i + 1)
    have htk := takes_succ hx
    have hxl : (takes (ls.take i)).length = totL (ls.take i) := takes_len _
    refine K.st (fun w h => nestSl_at (l := ls) (by repeat (first | exact List.Mem.head _ | apply List.Mem.tail)) hxm h) ?_
    refine K.skip <| K.seq <| K.block <| K.seq ?_
    refine K.region ?_
    refine KO.q rfl (q_ix (xs := ls) i se_57 rfl rfl rfl isF (by repeat (first | exact List.Mem.head _ | apply List.Mem.tail)) rfl (by omega)) ?_
    refine KO.q rfl (q_ldE (xs := ls) ck_46 rfl isF (by repeat (first | exact List.Mem.head _ | apply List.Mem.tail)) hx rfl) ?_
    refine KO.q rfl (q_assign rfl) ?_
    refine KO.done ?_
    refine K.seq ?_
    refine K.region ?_
    refine KO.q rfl (q_build st_74 rfl (by repeat (first | exact Fill.nil | (apply Fill.cons; rfl; rfl; rfl) | exact SetN.nil | apply SetN.cons | exact SetAt.here | apply SetAt.there))) ?_
    refine KO.loud rfl (l_box rfl rfl) ?_
    rintro _ _ ⟨b22, rfl, rfl⟩
    refine KO.q rfl (q_assign rfl) ?_
    refine KO.done ?_
    refine K.seq <| K.seq ?_
    refine K.region ?_
    refine KO.q rfl (q_move rfl) ?_
    refine KO.q rfl (q_len Tryz.underlying46 rfl) ?_
    refine KO.q rfl (q_move rfl) ?_
    refine KO.done ?_
    refine K.block ?_
    refine K.rounds2 (ι := { y : Nat × Option Addr × Nat // y.1 ≤ x.l.length }) (fun y => [(25, .int .i64 y.1.1), (24, .int .i64 x.l.length), (23, .slice x.q x.l.length x.c), (8, .pointer (some ⟨b22, 0, none⟩)), (17, .int .i64 i), (16, .int .i64 ls.length), (15, .slice q ls.length c), (4, .map (some b13)), (5, .map (some b14))]) (fun y => pv b22 74 [.slice y.1.2.1 (x.l.take y.1.1).length y.1.2.2, .int .i64 0] :: RowO Kd.deed 43 y.1.2.1 y.1.2.2 (x.l.take y.1.1) :: RowF Kd.deed x.q x.l :: [mpO encN b13 es, mpO encN b14 [], RowF Kd.sl q ls, NestSl Kd.deed ls] ++ L) (fun y => x.l.length - y.1.1) ⟨(0, none, 0), Nat.zero_le _⟩ (by repeat (first | exact Env.sub_nil _ | refine Env.sub_cons rfl ?_)) (fun w h => (rowO_nil (k := Kd.deed) 43 (h.fit (M := pv b22 74 [.slice none 0 0, .int .i64 0] :: RowF Kd.deed x.q x.l :: [mpO encN b13 es, mpO encN b14 [], RowF Kd.sl q ls, NestSl Kd.deed ls]) (by repeat (first | exact Give.nil | (apply Give.perI; (repeat (first | exact List.Mem.head _ | apply List.Mem.tail))) | (apply Give.own; (repeat (first | exact Pick.here | apply Pick.there))))) (by repeat (first | exact Drop.refl | apply Drop.skip)))).fitD) (fun y ih2 => ?_)
    obtain ⟨⟨j, qh, ch⟩, hj⟩ := y
    dsimp only at hj ⊢
    have hjl := List.length_take_le j x.l
    refine K.seq ?_
    refine K.region ?_
    refine KO.q rfl (q_lt rfl rfl) ?_
    refine KO.done ?_
    refine K.seq ?_
    refine K.dcond (s := 26) rfl (fun g26 => ?_) (fun g26 => ?_)
    · obtain ⟨d, hd⟩ : ∃ d, x.l[j]? = some d := ⟨_, List.getElem?_eq_getElem (by omega)⟩
      obtain ⟨hd1, hd2⟩ := hxk d (List.mem_of_getElem? hd)
      have htd : x.l.take (j + 1) = x.l.take j ++ [d] := by rw [List.take_add_one, hd]; rfl
      refine K.skip <| K.seq <| K.block <| K.seq ?_
      refine K.region ?_
      refine KO.q rfl (q_ix (xs := x.l) j se_46 rfl rfl rfl isF (by repeat (first | exact List.Mem.head _ | apply List.Mem.tail)) rfl (by omega)) ?_
      refine KO.q rfl (q_ldEN (xs := x.l) (enc := Deed.cells) ck_43 rfl isF (by repeat (first | exact List.Mem.head _ | apply List.Mem.tail)) hd) ?_
      refine KO.loud rfl (l_alloc zo_43) ?_
      rintro _ _ ⟨b10, rfl, rfl⟩
      refine KO.loudN rfl (l_storeAll ck_43 rfl rfl ⟨rfl, rfl⟩ (deed_one _) (by repeat (first | exact Pick.here | apply Pick.there))) ?_
      rintro _ _ ⟨rfl, rfl⟩
      refine KO.done ?_
      refine K.seq ?_
      refine K.region ?_
      refine KO.q rfl (q_field fo_43_1 rfl) ?_
      refine KO.q rfl (q_field fo_41_0 rfl) ?_
      refine KO.q rfl (q_load1D ck_37 rfl) ?_
      refine KO.q rfl (q_eqT rfl rfl (hd1)) ?_
      refine KO.done ?_
      refine K.yes rfl ?_
      refine K.region ?_
      refine KO.q rfl (q_move rfl) ?_
      refine KO.q rfl (q_loadN ck_43 rfl rfl (by first | (apply cells_pv; (repeat (first | exact List.Mem.head _ | apply List.Mem.tail))) | (apply cells_fv; (repeat (first | exact List.Mem.head _ | apply List.Mem.tail))))) ?_
      refine KO.loud rfl (OpL.callD rfl (h := mo_do b22 qh ch (x.l.take j) 0 d (by omega) (by omega) (by omega))) ?_
      rintro _ _ ⟨_, ⟨qn, cn, rfl, rfl⟩, rfl⟩
      refine KO.done ?_
      refine K.inBlock ?_
      refine K.region ?_
      refine KO.q rfl (q_add rfl rfl (by first | omega | (simp; omega)) (by first | omega | (simp; omega))) ?_
      refine KO.q rfl (q_move rfl) ?_
      refine KO.done ?_
      exact K.weak (by repeat (first | exact Env.sub_nil _ | refine Env.sub_cons rfl ?_)) (fun w h => by rw [htd]; exact h.fitD) (ih2 ⟨(j + 1, qn, cn), by show j + 1 ≤ _; omega⟩ (by show x.l.length - (j + 1) < x.l.length - j; omega))
    · obtain rfl : j = x.l.length := by omega
      rw [List.take_length]
      clear ih2
      have hE : effsD x.l = x.l.map deqE := effs_deq (fun d hd => (hxk d hd).2)
      refine K.exit rfl ?_
      refine K.seq ?_
      refine K.region ?_
      refine KO.q rfl (q_move rfl) ?_
      refine KO.loud rfl (OpL.callD rfl (h := mo_effects (RowO Kd.deed 43 qh ch x.l) b22 qh ch x.l 0 isO (by omega))) ?_
      rintro _ _ ⟨_, ⟨qe, ce, rfl, rfl⟩, rfl⟩
      rw [hE, List.length_map]
      refine KO.q rfl (q_len Tryz.underlying81 rfl) ?_
      refine KO.q rfl (q_move rfl) ?_
      refine KO.done ?_
      refine K.block ?_
      refine K.rounds2 (ι := { y : Nat × List (Int × Value) // y.1 ≤ x.l.length ∧ Cnt (takes (ls.take i) ++ (x.l.take y.1).map (·.msg.id)) y.2 }) (fun y => [(40, .int .i64 y.1.1), (39, .int .i64 x.l.length), (38, .slice qe x.l.length ce), (17, .int .i64 i), (16, .int .i64 ls.length), (15, .slice q ls.length c), (4, .map (some b13)), (5, .map (some b14))]) (fun y => RowO Kd.eff 80 qe ce (x.l.map deqE) :: [mpO encN b13 y.1.2, mpO encN b14 [], RowF Kd.sl q ls, NestSl Kd.deed ls] ++ L) (fun y => x.l.length - y.1.1) ⟨(0, es), Nat.zero_le _, by simpa using hc⟩ (by repeat (first | exact Env.sub_nil _ | refine Env.sub_cons rfl ?_)) (fun w h => h.fitD) (fun y ih2 => ?_)
      obtain ⟨⟨j, es2⟩, hj, hc2⟩ := y
      dsimp only at hj hc2 ⊢
      refine K.seq ?_
      refine K.region ?_
      refine KO.q rfl (q_lt rfl rfl) ?_
      refine KO.done ?_
      refine K.seq ?_
      refine K.dcond (s := 41) rfl (fun g41 => ?_) (fun g41 => ?_)
      · obtain ⟨d, hd⟩ : ∃ d, x.l[j]? = some d := ⟨_, List.getElem?_eq_getElem (by omega)⟩
        have hde : (x.l.map deqE)[j]? = some (deqE d) := by rw [List.getElem?_map, hd]; rfl
        have hst : takes (ls.take i) ++ (x.l.take (j + 1)).map (·.msg.id) = (takes (ls.take i) ++ (x.l.take j).map (·.msg.id)) ++ [d.msg.id] := by
          rw [List.take_add_one, hd, List.map_append, List.append_assoc]; rfl
        have hcc := List.count_le_length (a := d.msg.id) (l := takes (ls.take i) ++ (x.l.take j).map (·.msg.id))
        rw [List.length_append, List.length_map, hxl] at hcc
        have hjl := List.length_take_le j x.l
        have hlk := hc2 d.msg.id
        refine K.skip <| K.seq <| K.block <| K.seq ?_
        refine K.region ?_
        refine KO.q rfl (q_ix (xs := x.l.map deqE) j se_81 rfl rfl rfl isO (by repeat (first | exact List.Mem.head _ | apply List.Mem.tail)) (by rw [List.length_map]) (by rw [List.length_map]; omega)) ?_
        refine KO.q rfl (q_ldEN (xs := x.l.map deqE) (enc := Eff.cells) ck_80 rfl isO (by repeat (first | exact List.Mem.head _ | apply List.Mem.tail)) hde) ?_
        refine KO.loud rfl (l_alloc zo_80) ?_
        rintro _ _ ⟨b12, rfl, rfl⟩
        refine KO.loudN rfl (l_storeAll ck_80 rfl rfl ⟨rfl, rfl⟩ (eff_one _) (by repeat (first | exact Pick.here | apply Pick.there))) ?_
        rintro _ _ ⟨rfl, rfl⟩
        refine KO.done ?_
        refine K.seq ?_
        refine K.region ?_
        refine KO.q rfl (q_field fo_80_0 rfl) ?_
        refine KO.q rfl (q_load1D ck_3 rfl) ?_
        refine KO.done ?_
        refine K.block <| K.seq ?_
        refine K.region ?_
        refine KO.q rfl (q_eqT rfl rfl (rfl)) ?_
        refine KO.q rfl (q_assign rfl) ?_
        refine KO.done ?_
        refine K.yes rfl ?_
        refine K.region ?_
        refine KO.q rfl (q_move rfl) ?_
        refine KO.q rfl (q_field fo_80_4 rfl) ?_
        refine KO.q rfl (q_load1D ck_3 rfl) ?_
        refine KO.q rfl (q_is (q_lookup (n := d.msg.id) Tryz.underlying62 (mkey_int Tryz.underlying3) zv_int rfl rfl (by repeat (first | exact List.Mem.head _ | apply List.Mem.tail))) hlk) ?_
        refine KO.q rfl (q_add rfl rfl (by first | omega | (simp; omega)) (by first | omega | (simp; omega))) ?_
        refine KO.loudN rfl (l_mapUpdate (n := d.msg.id) Tryz.underlying62 (mkey_int Tryz.underlying3) rfl rfl rfl (by repeat (first | exact Pick.here | apply Pick.there))) ?_
        rintro _ _ ⟨rfl, rfl⟩
        refine KO.done ?_
        refine K.inBlock <| K.inBlock ?_
        refine K.region ?_
        refine KO.q rfl (q_add rfl rfl (by first | omega | (simp; omega)) (by first | omega | (simp; omega))) ?_
        refine KO.q rfl (q_move rfl) ?_
        refine KO.done ?_
        exact K.weak (by repeat (first | exact Env.sub_nil _ | refine Env.sub_cons rfl ?_)) (fun w h => h.fitD) (ih2 ⟨(j + 1, _), by show j + 1 ≤ _; omega, by show Cnt (takes (ls.take i) ++ (x.l.take (j + 1)).map (·.msg.id)) _; rw [hst]; exact hc2.put d.msg.id⟩ (by show x.l.length - (j + 1) < x.l.length - j; omega))
      · obtain rfl : j = x.l.length := by omega
        rw [List.take_length, ← htk] at hc2
        clear ih2
        refine K.exit rfl ?_
        refine K.inBlock ?_
        refine K.region ?_
        refine KO.q rfl (q_add rfl rfl (by first | omega | (simp; omega)) (by first | omega | (simp; omega))) ?_
        refine KO.q rfl (q_move rfl) ?_
        refine KO.done ?_
        exact K.weak (by repeat (first | exact Env.sub_nil _ | refine Env.sub_cons rfl ?_)) (fun w h => h.fitD) (ih ⟨(i + 1, es2), by show i + 1 ≤ _; omega, hc2⟩ (by show ls.length - (i + 1) < ls.length - i; omega))
  · obtain rfl : i = ls.length := by omega
    rw [List.take_length] at hc
    clear ih
    refine K.exit rfl ?_
    refine K.seq ?_
    refine K.region ?_
    refine KO.q rfl (q_move rfl) ?_
    refine KO.q rfl (q_move rfl) ?_
    refine KO.q rfl (q_assign rfl) ?_
    refine KO.q rfl (q_assign rfl) ?_
    refine KO.done ?_
    refine K.ret (fn := Tryz.f22) Tryz.func22 (fun a w hk hs => res2 Tryz.results22 hk rfl rfl) (fun w hs => ?_)
    exact ⟨_, [mpO encN b13 es, mpO encN b14 [], RowF Kd.sl q ls, NestSl Kd.deed ls], rfl, ⟨b13, b14, es, rfl, hc, rfl⟩, hs.fitD⟩
end Go.Proofs.YthnmoiilaaoooaaGreat.L
