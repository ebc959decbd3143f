/- Walks: which states may be, by the program. -/
import Derived.Test.YthnmoiilaaoooaaGreatC3
namespace Go.Proofs.YthnmoiilaaoooaaGreat.L
open Go Go.Proofs
attribute [local irreducible] pv fv pt fz RowF RowO rowP old pure_ elA
set_option maxRecDepth 100000
set_option linter.unusedSimpArgs false
set_option linter.unusedVariables false

/-- No object has more messages than can be put side by side. -/
def Sz.few (s : Sz) : Prop := ∀ o ∈ s.l, o.x.msgs.length + o.x.dead.length ≤ 1099511627776
def idsTo (s : Sz) (i : Nat) : List Int := (s.l.take i).flatMap (fun o => o.x.ids)
theorem idsTo_succ {s : Sz} {i : Nat} {o : Oz} (h : s.l[i]? = some o) : idsTo s (i + 1) = idsTo s i ++ o.x.ids := by
  unfold idsTo
  rw [List.take_add_one, h]; simp
theorem idsTo_all (s : Sz) : idsTo s s.l.length = s.st.ids := by
  unfold idsTo Stt.ids Sz.st
  rw [List.take_length, List.flatMap_map]
theorem ids_pre {s : Sz} {i : Nat} {o : Oz} (h : s.l[i]? = some o) : ∃ r, s.st.ids = idsTo s i ++ o.x.ids ++ r := by
  rw [← idsTo_succ h]
  refine ⟨((s.l.drop (i + 1)).flatMap (fun o => o.x.ids)), ?_⟩
  rw [← idsTo_all, idsTo, List.take_length, idsTo, ← List.flatMap_append, List.take_append_drop]
theorem once_dup {s : Sz} {i k : Nat} {o : Oz} {m : Msg} (h : s.l[i]? = some o) (hm : (o.x.msgs ++ o.x.dead)[k]? = some m) (hd : m.id ∈ idsTo s i ++ ((o.x.msgs ++ o.x.dead).take k).map (·.id)) : s.st.once = false := by
  unfold Stt.once
  rw [decide_eq_false, Bool.false_and]
  intro hn
  obtain ⟨r, hr⟩ := ids_pre h
  rw [hr] at hn
  have h1 := (List.nodup_append.1 hn).1
  have e : o.x.ids = ((o.x.msgs ++ o.x.dead).take k).map (·.id) ++ m.id :: ((o.x.msgs ++ o.x.dead).drop (k + 1)).map (·.id) := by
    obtain ⟨hk, e⟩ := List.getElem?_eq_some_iff.1 hm
    have : o.x.msgs ++ o.x.dead = (o.x.msgs ++ o.x.dead).take k ++ m :: (o.x.msgs ++ o.x.dead).drop (k + 1) := by
      rw [← e, List.getElem_cons_drop hk, List.take_append_drop]
    unfold Ob.ids
    conv => lhs; rw [this]
    simp
  rw [e, ← List.append_assoc] at h1
  exact (List.nodup_append.1 h1).2.2 _ hd _ List.mem_cons_self rfl
theorem once_big {s : Sz} {i k : Nat} {o : Oz} {m : Msg} (h : s.l[i]? = some o) (hm : (o.x.msgs ++ o.x.dead)[k]? = some m) (hd : ¬ m.id < s.next) : s.st.once = false := by
  have hin : m.id ∈ s.st.ids := by
    obtain ⟨r, hr⟩ := ids_pre h
    rw [hr]
    exact List.mem_append_left _ (List.mem_append_right _ (List.mem_map.2 ⟨m, List.mem_of_getElem? hm, rfl⟩))
  have : s.st.ids.all (fun n => decide (n < s.st.next)) = false := by
    rw [List.all_eq_false]
    exact ⟨m.id, hin, by rw [decide_eq_true_eq]; exact hd⟩
  unfold Stt.once
  rw [this, Bool.and_false]
theorem ids_step {l : List Msg} {k : Nat} {m : Msg} (h : l[k]? = some m) (A : List Int) : A ++ (l.take (k + 1)).map (·.id) = (A ++ (l.take k).map (·.id)) ++ [m.id] := by
  rw [ids_snoc h, List.append_assoc]
--%call poste/state.once := st_once _ (by assumption) (by assumption)
set_option maxHeartbeats 1600000 in
theorem st_once (s : Sz) (hok : s.ok) (hfew : s.few) : Fn Tryz.prog 49 [.agg s.cells.toArray].toArray (StL s) (fun v post => v = .bool s.st.once ∧ post = []) := by
  obtain ⟨hn0, hl, hlc, hall⟩ := hok
  refine Fn.enter (N := 43) Tryz.func49 rfl Tryz.ntmps49 (by kernel_rfl) rfl (fun ρ L => ?_)
  refine K.seq ?_
  refine K.region ?_
  refine KO.loud rfl (l_box rfl rfl) ?_
  rintro _ _ ⟨b1, rfl, rfl⟩
  refine KO.q rfl (q_assign rfl) ?_
  refine KO.done ?_
  refine K.seq ?_
  refine K.region ?_
  refine KO.loud rfl (l_makeMap (fun n : Int => Value.int .i64 n)) ?_
  rintro _ _ ⟨b8, rfl, rfl⟩
  refine KO.q rfl (q_assign rfl) ?_
  refine KO.done ?_
  refine K.seq <| K.seq ?_
  refine K.region ?_
  refine KO.q rfl (q_field fo_24_1 rfl) ?_
  refine KO.q rfl (q_load1D ck_22 rfl) ?_
  refine KO.q rfl (q_len Tryz.underlying22 rfl) ?_
  refine KO.q rfl (q_move rfl) ?_
  refine KO.done ?_
  refine K.block ?_
  refine K.rounds2 (ι := { x : Nat × List (Int × Value) // x.1 ≤ s.l.length ∧ (idsTo s x.1).Nodup ∧ (∀ n ∈ idsTo s x.1, n < s.next) ∧ Seen (idsTo s x.1) x.2 }) (fun x => [(12, .int .i64 x.1.1), (11, .int .i64 s.l.length), (10, .slice s.q s.l.length s.c), (3, .map (some b8)), (1, .pointer (some ⟨b1, 0, none⟩))]) (fun x => [mpO (fun n : Int => Value.int .i64 n) b8 x.1.2, pv b1 24 s.cells, RowF Kd.oz s.q s.l, NestF s.l] ++ L) (fun x => s.l.length - x.1.1) ⟨(0, []), Nat.zero_le _, by simp [idsTo], by simp [idsTo], Seen.nil⟩ (by repeat (first | exact Env.sub_nil _ | refine Env.sub_cons rfl ?_)) (fun w h => h.fitD) (fun x ih => ?_)
  obtain ⟨⟨i, es⟩, hi, hnd, hlt, hse⟩ := x
  dsimp only at hi hnd hlt hse ⊢
  refine K.seq ?_
  refine K.region ?_
  refine KO.q rfl (q_lt rfl rfl) ?_
  refine KO.done ?_
  refine K.seq ?_
  refine K.dcond (s := 13) rfl (fun g13 => ?_) (fun g13 => ?_)
  · obtain ⟨o, ho⟩ : ∃ e, s.l[i]? = some e := ⟨_, List.getElem?_eq_getElem (by omega)⟩
    have hmo := List.mem_of_getElem? ho
    have hfo := hfew o hmo
    refine K.st (fun w h => nestF_at (l := s.l) (by repeat (first | exact List.Mem.head _ | apply List.Mem.tail)) hmo h) ?_
    refine K.skip <| K.seq <| K.block <| K.seq ?_
    refine K.region ?_
    first | refine KO.q rfl (q_ix _ se_22 rfl rfl rfl isF (by repeat (first | exact List.Mem.head _ | apply List.Mem.tail)) rfl (by first | assumption | omega | exact (List.getElem?_eq_some_iff.1 (by assumption)).1 | (simp; omega))) ?_ | refine KO.q rfl (q_ix _ se_22 rfl rfl rfl isO (by repeat (first | exact List.Mem.head _ | apply List.Mem.tail)) rfl (by first | assumption | omega | exact (List.getElem?_eq_some_iff.1 (by assumption)).1 | (simp; omega))) ?_
    first | refine KO.q rfl (q_ldEN ck_33 rfl isF (by repeat (first | exact List.Mem.head _ | apply List.Mem.tail)) (by first | assumption | exact List.getElem?_eq_getElem (by first | assumption | omega | (simp; omega)))) ?_ | refine KO.q rfl (q_ldEN ck_33 rfl isO (by repeat (first | exact List.Mem.head _ | apply List.Mem.tail)) (by first | assumption | exact List.getElem?_eq_getElem (by first | assumption | omega | (simp; omega)))) ?_
    refine KO.loud rfl (l_alloc zo_33) ?_
    rintro _ _ ⟨b5, rfl, rfl⟩
    refine KO.loudN rfl (l_storeAll ck_33 rfl rfl ⟨rfl, rfl⟩ (oz_one _) (by repeat (first | exact Pick.here | apply Pick.there))) ?_
    rintro _ _ ⟨rfl, rfl⟩
    refine KO.done ?_
    refine K.seq ?_
    refine K.region ?_
    refine KO.q rfl (q_field fo_33_4 rfl) ?_
    refine KO.q rfl (q_load1D ck_31 rfl) ?_
    refine KO.q rfl (q_field fo_33_5 rfl) ?_
    refine KO.q rfl (q_load1D ck_31 rfl) ?_
    refine KO.loud rfl (l_slice sz_98_2 rfl (by repeat (first | exact Fill.nil | (apply Fill.cons; rfl; rfl; rfl) | exact SetN.nil | apply SetN.cons | exact SetAt.here | apply SetAt.there))) ?_
    rintro _ _ ⟨b20, rfl, rfl⟩
    refine KO.st (fun w h => pv_flat (n := 1) (enc := Sl.cells) (hl := fun _ => rfl) (h1 := fun _ v h => by simp [Sl.cells] at h; subst h; rfl) [⟨o.z.q2, o.z.c2, o.x.msgs⟩, ⟨o.z.q3, o.z.c3, o.x.dead⟩] rfl h) ?_
    refine KO.st (fun w h => nestSl_nil (k := Kd.msg) h) ?_
    refine KO.st (fun w h => nestSl_cons (k := Kd.msg) (l := []) ⟨o.z.q3, o.z.c3, o.x.dead⟩ (by repeat (first | exact List.Mem.head _ | apply List.Mem.tail)) (by repeat (first | exact List.Mem.head _ | apply List.Mem.tail)) h) ?_
    refine KO.st (fun w h => nestSl_cons (k := Kd.msg) (l := [⟨o.z.q3, o.z.c3, o.x.dead⟩]) ⟨o.z.q2, o.z.c2, o.x.msgs⟩ (by repeat (first | exact List.Mem.head _ | apply List.Mem.tail)) (by repeat (first | exact List.Mem.head _ | apply List.Mem.tail)) h) ?_
    refine KO.loud rfl (OpL.callE rfl (cc_msg (some ⟨b20, 0, none⟩) 2 [⟨o.z.q2, o.z.c2, o.x.msgs⟩, ⟨o.z.q3, o.z.c3, o.x.dead⟩] (by simp) (by simp; omega))) ?_
    rintro _ _ ⟨_, ⟨q9, c9, rfl, rfl⟩, rfl⟩
    rw [show [(⟨o.z.q2, o.z.c2, o.x.msgs⟩ : Sl Msg), ⟨o.z.q3, o.z.c3, o.x.dead⟩].flatMap (·.l) = o.x.msgs ++ o.x.dead by simp]
    have hcl : (o.x.msgs ++ o.x.dead).length ≤ 1099511627776 := by rw [List.length_append]; exact hfo
    refine KO.q rfl (q_len Tryz.underlying31 rfl) ?_
    refine KO.q rfl (q_move rfl) ?_
    refine KO.done ?_
    refine K.block ?_
    refine K.rounds2 (ι := { x : Nat × List (Int × Value) // x.1 ≤ (o.x.msgs ++ o.x.dead).length ∧ (idsTo s i ++ ((o.x.msgs ++ o.x.dead).take x.1).map (·.id)).Nodup ∧ (∀ n ∈ idsTo s i ++ ((o.x.msgs ++ o.x.dead).take x.1).map (·.id), n < s.next) ∧ Seen (idsTo s i ++ ((o.x.msgs ++ o.x.dead).take x.1).map (·.id)) x.2 }) (fun x => [(23, .int .i64 x.1.1), (22, .int .i64 (o.x.msgs ++ o.x.dead).length), (21, .slice q9 (o.x.msgs ++ o.x.dead).length c9), (12, .int .i64 i), (11, .int .i64 s.l.length), (10, .slice s.q s.l.length s.c), (3, .map (some b8)), (1, .pointer (some ⟨b1, 0, none⟩))]) (fun x => [mpO (fun n : Int => Value.int .i64 n) b8 x.1.2, RowF Kd.msg q9 (o.x.msgs ++ o.x.dead), pv b1 24 s.cells, RowF Kd.oz s.q s.l, NestF s.l] ++ L) (fun x => (o.x.msgs ++ o.x.dead).length - x.1.1) ⟨(0, es), Nat.zero_le _, by simpa using hnd, by simpa using hlt, by simpa using hse⟩ (by repeat (first | exact Env.sub_nil _ | refine Env.sub_cons rfl ?_)) (fun w h => h.fitD) (fun x ih2 => ?_)
    obtain ⟨⟨k, es2⟩, hk, hnd2, hlt2, hse2⟩ := x
    dsimp only at hk hnd2 hlt2 hse2 ⊢
    refine K.seq ?_
    refine K.region ?_
    refine KO.q rfl (q_lt rfl rfl) ?_
    refine KO.done ?_
    refine K.seq ?_
    refine K.dcond (s := 24) rfl (fun g24 => ?_) (fun g24 => ?_)
    · obtain ⟨m, hm⟩ : ∃ e, (o.x.msgs ++ o.x.dead)[k]? = some e := ⟨_, List.getElem?_eq_getElem (by omega)⟩
      have hlk := hse2.get m.id
      refine K.skip <| K.seq <| K.block <| K.seq ?_
      refine K.region ?_
      first | refine KO.q rfl (q_ix _ se_31 rfl rfl rfl isF (by repeat (first | exact List.Mem.head _ | apply List.Mem.tail)) rfl (by first | assumption | omega | exact (List.getElem?_eq_some_iff.1 (by assumption)).1 | (simp; omega))) ?_ | refine KO.q rfl (q_ix _ se_31 rfl rfl rfl isO (by repeat (first | exact List.Mem.head _ | apply List.Mem.tail)) rfl (by first | assumption | omega | exact (List.getElem?_eq_some_iff.1 (by assumption)).1 | (simp; omega))) ?_
      first | refine KO.q rfl (q_ldEN ck_39 rfl isF (by repeat (first | exact List.Mem.head _ | apply List.Mem.tail)) (by first | assumption | exact List.getElem?_eq_getElem (by first | assumption | omega | (simp; omega)))) ?_ | refine KO.q rfl (q_ldEN ck_39 rfl isO (by repeat (first | exact List.Mem.head _ | apply List.Mem.tail)) (by first | assumption | exact List.getElem?_eq_getElem (by first | assumption | omega | (simp; omega)))) ?_
      refine KO.loud rfl (l_alloc zo_39) ?_
      rintro _ _ ⟨b7, rfl, rfl⟩
      refine KO.loudN rfl (l_storeAll ck_39 rfl rfl ⟨rfl, rfl⟩ (msg_one _) (by repeat (first | exact Pick.here | apply Pick.there))) ?_
      rintro _ _ ⟨rfl, rfl⟩
      refine KO.done ?_
      refine K.seq <| K.seq ?_
      refine K.region ?_
      refine KO.q rfl (q_move rfl) ?_
      refine KO.q rfl (q_field fo_39_0 rfl) ?_
      refine KO.q rfl (q_load1D ck_3 rfl) ?_
      refine KO.q rfl (q_is (q_lookup Tryz.underlying60 (mkey_int Tryz.underlying3) zv_bool rfl rfl (by repeat (first | exact List.Mem.head _ | apply List.Mem.tail))) hlk) ?_
      refine KO.q rfl (q_move rfl) ?_
      first | refine KO.dsplit 31 rfl (fun g31 => ?_) (fun g31 => ?_) | refine KO.split 31 rfl (fun g31 => ?_) (fun g31 => ?_)
      · refine KO.skip rfl ?_
        refine KO.skip rfl ?_
        refine KO.skip rfl ?_
        refine KO.skip rfl ?_
        refine KO.skip rfl ?_
        refine KO.q rfl (q_pickT rfl rfl) ?_
        refine KO.done ?_
        refine K.yes rfl ?_
        refine K.seq ?_
        have hr : s.st.once = false := by
          first
            | exact once_dup ho hm g31
            | exact once_big ho hm (by omega)
        refine K.region ?_
        refine KO.q rfl (q_assign rfl) ?_
        refine KO.done ?_
        refine K.ret (fn := Tryz.f49) Tryz.func49 (fun a w hk hs => res1 Tryz.results49 hk rfl) (fun w hs => ?_)
        rw [hr]
        exact ⟨_, [], rfl, ⟨rfl, rfl⟩, hs.fitD⟩
      · refine KO.q rfl (q_field fo_39_0 rfl) ?_
        refine KO.q rfl (q_load1D ck_3 rfl) ?_
        refine KO.q rfl (q_field fo_24_0 rfl) ?_
        refine KO.q rfl (q_load1D ck_3 rfl) ?_
        refine KO.q rfl (q_ge rfl rfl) ?_
        refine KO.q rfl (q_pickF rfl rfl) ?_
        refine KO.done ?_
        refine K.dcond (s := 37) rfl (fun g37 => ?_) (fun g37 => ?_)
        · refine K.seq ?_
          have hr : s.st.once = false := by
            first
              | exact once_dup ho hm g31
              | exact once_big ho hm (by omega)
          refine K.region ?_
          refine KO.q rfl (q_assign rfl) ?_
          refine KO.done ?_
          refine K.ret (fn := Tryz.f49) Tryz.func49 (fun a w hk hs => res1 Tryz.results49 hk rfl) (fun w hs => ?_)
          rw [hr]
          exact ⟨_, [], rfl, ⟨rfl, rfl⟩, hs.fitD⟩
        · refine K.skip ?_
          refine K.region ?_
          refine KO.q rfl (q_move rfl) ?_
          refine KO.q rfl (q_field fo_39_0 rfl) ?_
          refine KO.q rfl (q_load1D ck_3 rfl) ?_
          refine KO.loudN rfl (l_mapUpdate Tryz.underlying60 (mkey_int Tryz.underlying3) rfl rfl rfl (by repeat (first | exact Pick.here | apply Pick.there))) ?_
          rintro _ _ ⟨rfl, rfl⟩
          refine KO.done ?_
          refine K.inBlock ?_
          refine K.region ?_
          refine KO.q rfl (q_add rfl rfl (by first | omega | (simp; omega)) (by first | omega | (simp; omega))) ?_
          refine KO.q rfl (q_move rfl) ?_
          refine KO.done ?_
          have hst := ids_step hm (idsTo s i)
          refine K.weak (by repeat (first | exact Env.sub_nil _ | refine Env.sub_cons rfl ?_)) (fun w h => ?_) (ih2 ⟨(k + 1, mapPut es2 m.id (.bool true)), by show k + 1 ≤ _; omega, by show (idsTo s i ++ ((o.x.msgs ++ o.x.dead).take (k + 1)).map (·.id)).Nodup; rw [hst, nodup_snoc]; exact ⟨hnd2, g31⟩, ?_, by show Seen (idsTo s i ++ ((o.x.msgs ++ o.x.dead).take (k + 1)).map (·.id)) _; rw [hst]; exact hse2.put m.id⟩ (by show (o.x.msgs ++ o.x.dead).length - (k + 1) < (o.x.msgs ++ o.x.dead).length - k; omega))
          · dsimp only
            exact h.fitD
          · show ∀ n ∈ idsTo s i ++ ((o.x.msgs ++ o.x.dead).take (k + 1)).map (·.id), n < s.next
            rw [hst]
            intro n hn
            rcases List.mem_append.1 hn with h | h
            · exact hlt2 n h
            · rw [List.mem_singleton.1 h]; omega
    · obtain rfl : k = (o.x.msgs ++ o.x.dead).length := by omega
      have hids : idsTo s i ++ ((o.x.msgs ++ o.x.dead).take (o.x.msgs ++ o.x.dead).length).map (·.id) = idsTo s (i + 1) := by rw [List.take_length, idsTo_succ ho]; rfl
      rw [hids] at hnd2 hlt2 hse2
      refine K.exit rfl ?_
      refine K.inBlock ?_
      refine K.region ?_
      refine KO.q rfl (q_add rfl rfl (by first | omega | (simp; omega)) (by first | omega | (simp; omega))) ?_
      refine KO.q rfl (q_move rfl) ?_
      refine KO.done ?_
      refine K.weak (by repeat (first | exact Env.sub_nil _ | refine Env.sub_cons rfl ?_)) (fun w h => ?_) (ih ⟨(i + 1, es2), by show i + 1 ≤ s.l.length; omega, hnd2, hlt2, hse2⟩ (by show s.l.length - (i + 1) < s.l.length - i; omega))
      dsimp only
      exact h.fitD
  · refine K.exit rfl ?_
    refine K.seq ?_
    have hr : s.st.once = true := by
      obtain rfl : i = s.l.length := by omega
      rw [idsTo_all] at hnd hlt
      unfold Stt.once
      rw [decide_eq_true hnd, Bool.true_and, List.all_eq_true]
      exact fun n hn => decide_eq_true (hlt n hn)
    refine K.region ?_
    refine KO.q rfl (q_assign rfl) ?_
    refine KO.done ?_
    refine K.ret (fn := Tryz.f49) Tryz.func49 (fun a w hk hs => res1 Tryz.results49 hk rfl) (fun w hs => ?_)
    rw [hr]
    exact ⟨_, [], rfl, ⟨rfl, rfl⟩, hs.fitD⟩
end Go.Proofs.YthnmoiilaaoooaaGreat.L
