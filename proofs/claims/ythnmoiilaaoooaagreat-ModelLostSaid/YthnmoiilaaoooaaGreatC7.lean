/- Walks: how often a number is borne; which states may be, by the document. -/
import Derived.Test.YthnmoiilaaoooaaGreatC6
namespace Go.Proofs.YthnmoiilaaoooaaGreat.L
open Go Go.Proofs
attribute [local irreducible] pv fv pt fz RowF RowO rowP old pure_ elA
set_option maxRecDepth 100000
set_option linter.unusedSimpArgs false
set_option linter.unusedVariables false

theorem idsTo_len (s : Sz) : ∀ i, (idsTo s i).length ≤ s.cnt i := by
  intro i
  have key : ∀ l : List Oz, (l.flatMap (fun o => o.x.ids)).length ≤ (l.map (fun o => o.x.cnt)).sum := fun l => by
    induction l with
    | nil => simp
    | cons o l ih =>
      have h1 : o.x.ids.length ≤ o.x.cnt := by
        unfold Ob.ids Ob.cnt
        rw [List.length_map, List.length_append]
        omega
      simp only [List.flatMap_cons, List.length_append, List.map_cons, List.sum_cons]
      omega
  exact key _
theorem count_step {A : List Int} {l : List Msg} {k : Nat} {m : Msg} (n : Int) (h : l[k]? = some m) : (A ++ (l.take (k + 1)).map (·.id)).count n = (A ++ (l.take k).map (·.id)).count n + (if m.id = n then 1 else 0) := by
  rw [ids_step h, List.count_append, List.count_singleton]
  by_cases e : m.id = n <;> simp [e]
--%call poste/posteref14.total := ref_total _ _ (by assumption) (by assumption)
set_option maxHeartbeats 1600000 in
theorem ref_total (s : Sz) (n : Int) (hok : s.ok) (hN : s.cnt s.l.length ≤ 9000000000000000000) : Fn Tryz.prog 18 [.agg s.cells.toArray, .int .i64 n].toArray (StL s) (fun v post => v = .int .i64 (s.st.ids.count n : Nat) ∧ post = []) := by
  have hlen := idsTo_len s
  have hcm := cnt_mono s
  obtain ⟨hn0, hl, hlc, hall⟩ := hok
  refine Fn.enter (N := 67) Tryz.func18 rfl Tryz.ntmps18 (by kernel_rfl) rfl (fun ρ L => ?_)
  refine K.seq ?_
  refine K.region ?_
  refine KO.loud rfl (l_box rfl rfl) ?_
  rintro _ _ ⟨b2, rfl, rfl⟩
  refine KO.q rfl (q_assign rfl) ?_
  refine KO.done ?_
  refine K.seq ?_
  refine K.region ?_
  refine KO.q rfl (q_assign rfl) ?_
  refine KO.done ?_
  refine K.seq <| K.seq ?_
  refine K.region ?_
  refine KO.q rfl (q_assign rfl) ?_
  refine KO.done ?_
  refine K.block ?_
  refine K.rounds2 (ι := { x : Nat // x ≤ s.l.length }) (fun x => [(6, .int .i64 x.1), (5, .int .i64 (((idsTo s x.1).count n : Nat) : Int)), (2, .pointer (some ⟨b2, 0, none⟩)), (1, .int .i64 n)]) (fun x => [pv b2 24 s.cells, RowF Kd.oz s.q s.l, NestF s.l] ++ L) (fun x => s.l.length - x.1) ⟨0, Nat.zero_le _⟩ (by repeat (first | exact Env.sub_nil _ | refine Env.sub_cons rfl ?_)) (fun w h => h.fitD) (fun x ih => ?_)
  obtain ⟨i, hi⟩ := x
  dsimp only at hi ⊢
  refine K.seq <| K.seq ?_
  refine K.region ?_
  refine KO.q rfl (q_move rfl) ?_
  refine KO.q rfl (q_field fo_24_1 rfl) ?_
  refine KO.q rfl (q_load1D ck_22 rfl) ?_
  refine KO.q rfl (q_len Tryz.underlying22 rfl) ?_
  refine KO.q rfl (q_lt rfl rfl) ?_
  refine KO.done ?_
  refine K.dcond (s := 13) rfl (fun g13 => ?_) (fun g13 => ?_)
  · obtain ⟨o, ho⟩ : ∃ e, s.l[i]? = some e := ⟨_, List.getElem?_eq_getElem (by omega)⟩
    have hmo := List.mem_of_getElem? ho
    obtain ⟨⟨_, _, _, _, _, _, ha, hb, hd⟩, _⟩ := hall o hmo
    have hcs := cnt_succ ho
    have hc1 := hcm (i + 1)
    have hl0 := hlen i
    unfold Ob.cnt at hcs
    refine K.st (fun w h => nestF_at (l := s.l) (by repeat (first | exact List.Mem.head _ | apply List.Mem.tail)) hmo h) ?_
    generalize hA : idsTo s i = A at hl0 ⊢
    refine K.skip <| K.seq <| K.block <| K.seq <| K.seq ?_
    refine K.region ?_
    refine KO.q rfl (q_assign rfl) ?_
    refine KO.done ?_
    refine K.block ?_
    refine K.rounds2 (ι := { x : Nat // x ≤ o.x.msgs.length }) (fun x => [(7, .int .i64 x.1), (6, .int .i64 i), (5, .int .i64 (((A ++ (o.x.msgs.take x.1).map (·.id)).count n : Nat) : Int)), (2, .pointer (some ⟨b2, 0, none⟩)), (1, .int .i64 n)]) (fun x => ObL o ++ [pv b2 24 s.cells, RowF Kd.oz s.q s.l, NestF s.l] ++ L) (fun x => o.x.msgs.length - x.1) ⟨0, Nat.zero_le _⟩ (Env.sub_cons rfl (Env.sub_cons rfl (Env.sub_cons (by refine congrArg (fun z => some (Value.int .i64 z)) ?_; simp) (Env.sub_cons rfl (Env.sub_cons rfl (Env.sub_nil _)))))) (fun w h => h.fitD) (fun x ih2 => ?_)
    obtain ⟨k, hk⟩ := x
    dsimp only at hk ⊢
    have hle : (A ++ (o.x.msgs.take k).map (·.id)).count n ≤ 9000000000000000000 - 1 - o.x.msgs.length + k := by
      refine Nat.le_trans List.count_le_length ?_
      rw [List.length_append, List.length_map, List.length_take]
      omega
    refine K.seq <| K.seq ?_
    refine K.region ?_
    refine KO.q rfl (q_move rfl) ?_
    refine KO.q rfl (q_field fo_24_1 rfl) ?_
    refine KO.q rfl (q_load1D ck_22 rfl) ?_
    refine KO.q rfl (q_move rfl) ?_
    first | refine KO.q rfl (q_ix _ se_22 rfl rfl rfl isF (by repeat (first | exact List.Mem.head _ | apply List.Mem.tail)) rfl (by first | assumption | omega | exact (List.getElem?_eq_some_iff.1 (by assumption)).1 | (simp; omega))) ?_ | refine KO.q rfl (q_ix _ se_22 rfl rfl rfl isO (by repeat (first | exact List.Mem.head _ | apply List.Mem.tail)) rfl (by first | assumption | omega | exact (List.getElem?_eq_some_iff.1 (by assumption)).1 | (simp; omega))) ?_
    refine KO.q rfl (q_fieldE fo_33_4 rfl) ?_
    first | refine KO.q rfl (q_ldE ck_31 rfl isF (by repeat (first | exact List.Mem.head _ | apply List.Mem.tail)) (by first | assumption | exact List.getElem?_eq_getElem (by first | assumption | omega | (simp; omega))) rfl) ?_ | refine KO.q rfl (q_ldE ck_31 rfl isO (by repeat (first | exact List.Mem.head _ | apply List.Mem.tail)) (by first | assumption | exact List.getElem?_eq_getElem (by first | assumption | omega | (simp; omega))) rfl) ?_
    refine KO.q rfl (q_len Tryz.underlying31 rfl) ?_
    refine KO.q rfl (q_lt rfl rfl) ?_
    refine KO.done ?_
    refine K.dcond (s := 24) rfl (fun g24 => ?_) (fun g24 => ?_)
    · obtain ⟨m, hm⟩ : ∃ e, o.x.msgs[k]? = some e := ⟨_, List.getElem?_eq_getElem (by omega)⟩
      have hst := count_step (A := A) n hm
      refine K.skip <| K.seq <| K.block <| K.seq ?_
      refine K.region ?_
      refine KO.q rfl (q_field fo_24_1 rfl) ?_
      refine KO.q rfl (q_load1D ck_22 rfl) ?_
      refine KO.q rfl (q_move rfl) ?_
      first | refine KO.q rfl (q_ix _ se_22 rfl rfl rfl isF (by repeat (first | exact List.Mem.head _ | apply List.Mem.tail)) rfl (by first | assumption | omega | exact (List.getElem?_eq_some_iff.1 (by assumption)).1 | (simp; omega))) ?_ | refine KO.q rfl (q_ix _ se_22 rfl rfl rfl isO (by repeat (first | exact List.Mem.head _ | apply List.Mem.tail)) rfl (by first | assumption | omega | exact (List.getElem?_eq_some_iff.1 (by assumption)).1 | (simp; omega))) ?_
      refine KO.q rfl (q_fieldE fo_33_4 rfl) ?_
      first | refine KO.q rfl (q_ldE ck_31 rfl isF (by repeat (first | exact List.Mem.head _ | apply List.Mem.tail)) (by first | assumption | exact List.getElem?_eq_getElem (by first | assumption | omega | (simp; omega))) rfl) ?_ | refine KO.q rfl (q_ldE ck_31 rfl isO (by repeat (first | exact List.Mem.head _ | apply List.Mem.tail)) (by first | assumption | exact List.getElem?_eq_getElem (by first | assumption | omega | (simp; omega))) rfl) ?_
      refine KO.q rfl (q_move rfl) ?_
      first | refine KO.q rfl (q_ix _ se_31 rfl rfl rfl isF (by repeat (first | exact List.Mem.head _ | apply List.Mem.tail)) rfl (by first | assumption | omega | exact (List.getElem?_eq_some_iff.1 (by assumption)).1 | (simp; omega))) ?_ | refine KO.q rfl (q_ix _ se_31 rfl rfl rfl isO (by repeat (first | exact List.Mem.head _ | apply List.Mem.tail)) rfl (by first | assumption | omega | exact (List.getElem?_eq_some_iff.1 (by assumption)).1 | (simp; omega))) ?_
      refine KO.q rfl (q_fieldE fo_39_0 rfl) ?_
      first | refine KO.q rfl (q_ldE ck_3 rfl isF (by repeat (first | exact List.Mem.head _ | apply List.Mem.tail)) (by first | assumption | exact List.getElem?_eq_getElem (by first | assumption | omega | (simp; omega))) rfl) ?_ | refine KO.q rfl (q_ldE ck_3 rfl isO (by repeat (first | exact List.Mem.head _ | apply List.Mem.tail)) (by first | assumption | exact List.getElem?_eq_getElem (by first | assumption | omega | (simp; omega))) rfl) ?_
      refine KO.q rfl (q_move rfl) ?_
      refine KO.q rfl (q_eq rfl rfl) ?_
      refine KO.done ?_
      refine K.dcond (s := 38) rfl (fun g38 => ?_) (fun g38 => ?_)
      · refine K.region ?_
        refine KO.q rfl (q_move rfl) ?_
        refine KO.q rfl (q_add rfl rfl (by first | omega | (simp; omega)) (by first | omega | (simp; omega))) ?_
        refine KO.q rfl (q_assign rfl) ?_
        refine KO.done ?_
        refine K.inBlock ?_
        refine K.region ?_
        refine KO.q rfl (q_move rfl) ?_
        refine KO.q rfl (q_add rfl rfl (by first | omega | (simp; omega)) (by first | omega | (simp; omega))) ?_
        refine KO.q rfl (q_assign rfl) ?_
        refine KO.done ?_
        refine K.weak (Env.sub_cons rfl (Env.sub_cons rfl (Env.sub_cons ?_ (Env.sub_cons rfl (Env.sub_cons rfl (Env.sub_nil _)))))) (fun w h => h.fitD) (ih2 ⟨k + 1, by omega⟩ (by show o.x.msgs.length - (k + 1) < o.x.msgs.length - k; omega))
        show _ = some (Value.int .i64 (((A ++ (o.x.msgs.take (k + 1)).map (·.id)).count n : Nat) : Int))
        refine congrArg (fun z => some (Value.int .i64 z)) ?_
        first
          | rw [if_pos g38] at hst
          | rw [if_neg g38] at hst
        omega
      · refine K.skip <| K.inBlock ?_
        refine K.region ?_
        refine KO.q rfl (q_move rfl) ?_
        refine KO.q rfl (q_add rfl rfl (by first | omega | (simp; omega)) (by first | omega | (simp; omega))) ?_
        refine KO.q rfl (q_assign rfl) ?_
        refine KO.done ?_
        refine K.weak (Env.sub_cons rfl (Env.sub_cons rfl (Env.sub_cons ?_ (Env.sub_cons rfl (Env.sub_cons rfl (Env.sub_nil _)))))) (fun w h => h.fitD) (ih2 ⟨k + 1, by omega⟩ (by show o.x.msgs.length - (k + 1) < o.x.msgs.length - k; omega))
        show _ = some (Value.int .i64 (((A ++ (o.x.msgs.take (k + 1)).map (·.id)).count n : Nat) : Int))
        refine congrArg (fun z => some (Value.int .i64 z)) ?_
        first
          | rw [if_pos g38] at hst
          | rw [if_neg g38] at hst
        omega
    · obtain rfl : k = o.x.msgs.length := by omega
      rw [List.take_length]
      refine K.exit rfl ?_
      refine K.seq ?_
      refine K.region ?_
      refine KO.q rfl (q_assign rfl) ?_
      refine KO.done ?_
      refine K.block ?_
      refine K.rounds2 (ι := { x : Nat // x ≤ o.x.dead.length }) (fun x => [(8, .int .i64 x.1), (6, .int .i64 i), (5, .int .i64 (((A ++ o.x.msgs.map (·.id) ++ (o.x.dead.take x.1).map (·.id)).count n : Nat) : Int)), (2, .pointer (some ⟨b2, 0, none⟩)), (1, .int .i64 n)]) (fun x => ObL o ++ [pv b2 24 s.cells, RowF Kd.oz s.q s.l, NestF s.l] ++ L) (fun x => o.x.dead.length - x.1) ⟨0, Nat.zero_le _⟩ (Env.sub_cons rfl (Env.sub_cons rfl (Env.sub_cons (by refine congrArg (fun z => some (Value.int .i64 z)) ?_; simp) (Env.sub_cons rfl (Env.sub_cons rfl (Env.sub_nil _)))))) (fun w h => h.fitD) (fun x ih3 => ?_)
      obtain ⟨k2, hk2⟩ := x
      dsimp only at hk2 ⊢
      have hle2 : (A ++ o.x.msgs.map (·.id) ++ (o.x.dead.take k2).map (·.id)).count n ≤ 9000000000000000000 - 1 - o.x.dead.length + k2 := by
        refine Nat.le_trans List.count_le_length ?_
        rw [List.length_append, List.length_append, List.length_map, List.length_map, List.length_take]
        omega
      refine K.seq <| K.seq ?_
      refine K.region ?_
      refine KO.q rfl (q_move rfl) ?_
      refine KO.q rfl (q_field fo_24_1 rfl) ?_
      refine KO.q rfl (q_load1D ck_22 rfl) ?_
      refine KO.q rfl (q_move rfl) ?_
      first | refine KO.q rfl (q_ix _ se_22 rfl rfl rfl isF (by repeat (first | exact List.Mem.head _ | apply List.Mem.tail)) rfl (by first | assumption | omega | exact (List.getElem?_eq_some_iff.1 (by assumption)).1 | (simp; omega))) ?_ | refine KO.q rfl (q_ix _ se_22 rfl rfl rfl isO (by repeat (first | exact List.Mem.head _ | apply List.Mem.tail)) rfl (by first | assumption | omega | exact (List.getElem?_eq_some_iff.1 (by assumption)).1 | (simp; omega))) ?_
      refine KO.q rfl (q_fieldE fo_33_5 rfl) ?_
      first | refine KO.q rfl (q_ldE ck_31 rfl isF (by repeat (first | exact List.Mem.head _ | apply List.Mem.tail)) (by first | assumption | exact List.getElem?_eq_getElem (by first | assumption | omega | (simp; omega))) rfl) ?_ | refine KO.q rfl (q_ldE ck_31 rfl isO (by repeat (first | exact List.Mem.head _ | apply List.Mem.tail)) (by first | assumption | exact List.getElem?_eq_getElem (by first | assumption | omega | (simp; omega))) rfl) ?_
      refine KO.q rfl (q_len Tryz.underlying31 rfl) ?_
      refine KO.q rfl (q_lt rfl rfl) ?_
      refine KO.done ?_
      refine K.dcond (s := 49) rfl (fun g49 => ?_) (fun g49 => ?_)
      · obtain ⟨m, hm⟩ : ∃ e, o.x.dead[k2]? = some e := ⟨_, List.getElem?_eq_getElem (by omega)⟩
        have hst := count_step (A := A ++ o.x.msgs.map (·.id)) n hm
        refine K.skip <| K.seq <| K.block <| K.seq ?_
        refine K.region ?_
        refine KO.q rfl (q_field fo_24_1 rfl) ?_
        refine KO.q rfl (q_load1D ck_22 rfl) ?_
        refine KO.q rfl (q_move rfl) ?_
        first | refine KO.q rfl (q_ix _ se_22 rfl rfl rfl isF (by repeat (first | exact List.Mem.head _ | apply List.Mem.tail)) rfl (by first | assumption | omega | exact (List.getElem?_eq_some_iff.1 (by assumption)).1 | (simp; omega))) ?_ | refine KO.q rfl (q_ix _ se_22 rfl rfl rfl isO (by repeat (first | exact List.Mem.head _ | apply List.Mem.tail)) rfl (by first | assumption | omega | exact (List.getElem?_eq_some_iff.1 (by assumption)).1 | (simp; omega))) ?_
        refine KO.q rfl (q_fieldE fo_33_5 rfl) ?_
        first | refine KO.q rfl (q_ldE ck_31 rfl isF (by repeat (first | exact List.Mem.head _ | apply List.Mem.tail)) (by first | assumption | exact List.getElem?_eq_getElem (by first | assumption | omega | (simp; omega))) rfl) ?_ | refine KO.q rfl (q_ldE ck_31 rfl isO (by repeat (first | exact List.Mem.head _ | apply List.Mem.tail)) (by first | assumption | exact List.getElem?_eq_getElem (by first | assumption | omega | (simp; omega))) rfl) ?_
        refine KO.q rfl (q_move rfl) ?_
        first | refine KO.q rfl (q_ix _ se_31 rfl rfl rfl isF (by repeat (first | exact List.Mem.head _ | apply List.Mem.tail)) rfl (by first | assumption | omega | exact (List.getElem?_eq_some_iff.1 (by assumption)).1 | (simp; omega))) ?_ | refine KO.q rfl (q_ix _ se_31 rfl rfl rfl isO (by repeat (first | exact List.Mem.head _ | apply List.Mem.tail)) rfl (by first | assumption | omega | exact (List.getElem?_eq_some_iff.1 (by assumption)).1 | (simp; omega))) ?_
        refine KO.q rfl (q_fieldE fo_39_0 rfl) ?_
        first | refine KO.q rfl (q_ldE ck_3 rfl isF (by repeat (first | exact List.Mem.head _ | apply List.Mem.tail)) (by first | assumption | exact List.getElem?_eq_getElem (by first | assumption | omega | (simp; omega))) rfl) ?_ | refine KO.q rfl (q_ldE ck_3 rfl isO (by repeat (first | exact List.Mem.head _ | apply List.Mem.tail)) (by first | assumption | exact List.getElem?_eq_getElem (by first | assumption | omega | (simp; omega))) rfl) ?_
        refine KO.q rfl (q_move rfl) ?_
        refine KO.q rfl (q_eq rfl rfl) ?_
        refine KO.done ?_
        refine K.dcond (s := 63) rfl (fun g63 => ?_) (fun g63 => ?_)
        · refine K.region ?_
          refine KO.q rfl (q_move rfl) ?_
          refine KO.q rfl (q_add rfl rfl (by first | omega | (simp; omega)) (by first | omega | (simp; omega))) ?_
          refine KO.q rfl (q_assign rfl) ?_
          refine KO.done ?_
          refine K.inBlock ?_
          refine K.region ?_
          refine KO.q rfl (q_move rfl) ?_
          refine KO.q rfl (q_add rfl rfl (by first | omega | (simp; omega)) (by first | omega | (simp; omega))) ?_
          refine KO.q rfl (q_assign rfl) ?_
          refine KO.done ?_
          refine K.weak (Env.sub_cons rfl (Env.sub_cons rfl (Env.sub_cons ?_ (Env.sub_cons rfl (Env.sub_cons rfl (Env.sub_nil _)))))) (fun w h => h.fitD) (ih3 ⟨k2 + 1, by omega⟩ (by show o.x.dead.length - (k2 + 1) < o.x.dead.length - k2; omega))
          show _ = some (Value.int .i64 (((A ++ o.x.msgs.map (·.id) ++ (o.x.dead.take (k2 + 1)).map (·.id)).count n : Nat) : Int))
          refine congrArg (fun z => some (Value.int .i64 z)) ?_
          first
            | rw [if_pos g63] at hst
            | rw [if_neg g63] at hst
          omega
        · refine K.skip <| K.inBlock ?_
          refine K.region ?_
          refine KO.q rfl (q_move rfl) ?_
          refine KO.q rfl (q_add rfl rfl (by first | omega | (simp; omega)) (by first | omega | (simp; omega))) ?_
          refine KO.q rfl (q_assign rfl) ?_
          refine KO.done ?_
          refine K.weak (Env.sub_cons rfl (Env.sub_cons rfl (Env.sub_cons ?_ (Env.sub_cons rfl (Env.sub_cons rfl (Env.sub_nil _)))))) (fun w h => h.fitD) (ih3 ⟨k2 + 1, by omega⟩ (by show o.x.dead.length - (k2 + 1) < o.x.dead.length - k2; omega))
          show _ = some (Value.int .i64 (((A ++ o.x.msgs.map (·.id) ++ (o.x.dead.take (k2 + 1)).map (·.id)).count n : Nat) : Int))
          refine congrArg (fun z => some (Value.int .i64 z)) ?_
          first
            | rw [if_pos g63] at hst
            | rw [if_neg g63] at hst
          omega
      · obtain rfl : k2 = o.x.dead.length := by omega
        rw [List.take_length]
        have hfin : A ++ o.x.msgs.map (·.id) ++ o.x.dead.map (·.id) = idsTo s (i + 1) := by rw [idsTo_succ ho, hA]; unfold Ob.ids; rw [List.map_append, List.append_assoc]
        rw [hfin]
        refine K.exit rfl ?_
        refine K.inBlock ?_
        refine K.region ?_
        refine KO.q rfl (q_move rfl) ?_
        refine KO.q rfl (q_add rfl rfl (by first | omega | (simp; omega)) (by first | omega | (simp; omega))) ?_
        refine KO.q rfl (q_assign rfl) ?_
        refine KO.done ?_
        refine K.weak (by repeat (first | exact Env.sub_nil _ | refine Env.sub_cons rfl ?_)) (fun w h => h.fitD) (ih ⟨i + 1, by omega⟩ (by show s.l.length - (i + 1) < s.l.length - i; omega))
  · obtain rfl : i = s.l.length := by omega
    rw [idsTo_all]
    refine K.exit rfl ?_
    refine K.seq ?_
    refine K.region ?_
    refine KO.q rfl (q_move rfl) ?_
    refine KO.q rfl (q_assign rfl) ?_
    refine KO.done ?_
    refine K.ret (fn := Tryz.f18) Tryz.func18 (fun a w hk hs => res1 Tryz.results18 hk rfl) (fun w hs => ?_)
    exact ⟨_, [], rfl, ⟨rfl, rfl⟩, hs.fitD⟩
/-! ### The document's words for one object -/
theorem adj_at {α : Type} {f : α → α → Bool} : ∀ {l : List α}, adj f l = true ↔ ∀ (i : Nat) (x y : α), l[i]? = some x → l[i + 1]? = some y → f x y = true
  | [] => ⟨fun _ i x y h => by simp at h, fun _ => rfl⟩
  | [_] => ⟨fun _ i x y _ h => by simp at h, fun _ => rfl⟩
  | a :: b :: l => by
    unfold adj
    rw [Bool.and_eq_true, adj_at (l := b :: l)]
    constructor
    · rintro ⟨h1, h2⟩ i x y hx hy
      cases i with
      | zero => simp at hx hy; subst hx; subst hy; exact h1
      | succ i => exact h2 i x y (by simpa using hx) (by simpa using hy)
    · intro h
      exact ⟨h 0 a b rfl rfl, fun i x y hx hy => h (i + 1) x y (by simpa using hx) (by simpa using hy)⟩
def headB (i : Nat) (p o : Ob) : Bool := effName o.name && effKind o.kind o.limit && (decide ((i : Int) ≤ 0) || decide (cmpB p.name o.name < 0))
def objB (o : Ob) (next : Int) : Bool := !(decide (o.kind = 1) && decide (0 < (o.msgs.length : Int) + o.dead.length)) && !(decide (o.kind = 2) && decide (0 < (o.rows.length : Int))) && risesR o.rows && risesM o.msgs && msgsOk o.msgs next false && msgsOk o.dead next true
structure RF (s : Sz) (i : Nat) (o : Oz) : Prop where
  h1 : ∀ p, s.l[i - 1]? = some p → headB i p.x o.x = true
  h2 : objB o.x s.next = true
  rows : o.x.rows.all Rw.right = true
  c1 : ∀ m ∈ o.x.msgs, s.st.ids.count m.id = 1
  c2 : ∀ m ∈ o.x.dead, s.st.ids.count m.id = 1
theorem ids_at {s : Sz} {n : Int} : n ∈ s.st.ids ↔ ∃ (i : Nat) (o : Oz), s.l[i]? = some o ∧ ∃ m, (m ∈ o.x.msgs ∨ m ∈ o.x.dead) ∧ m.id = n := by
  unfold Stt.ids Sz.st Ob.ids
  simp only [List.flatMap_map, List.mem_flatMap, List.mem_map, List.mem_append]
  constructor
  · rintro ⟨o, ho, m, hm, e⟩
    obtain ⟨i, hi⟩ := List.mem_iff_getElem?.1 ho
    exact ⟨i, o, hi, m, hm, e⟩
  · rintro ⟨i, o, hi, m, hm, e⟩
    exact ⟨o, List.mem_of_getElem? hi, m, hm, e⟩
theorem effKind_or {k l : Int} (h : effKind k l = true) : k = 1 ∨ k = 2 := by
  unfold effKind at h
  split at h
  · exact .inl (by assumption)
  · split at h
    · exact .inr (by assumption)
    · cases h
theorem msgsOk_iff {l : List Msg} {next : Int} {d : Bool} : msgsOk l next d = true ↔ ∀ m ∈ l, m.right = true ∧ m.id < next ∧ (d = true → m.claimed = false) := by
  unfold msgsOk
  rw [List.all_eq_true]
  refine forall_congr' fun m => forall_congr' fun _ => ?_
  cases d <;> simp [Bool.and_eq_true, and_assoc]
theorem once_iff {s : Sz} : s.st.once = true ↔ (∀ (i : Nat) (o : Oz), s.l[i]? = some o → ∀ m, (m ∈ o.x.msgs ∨ m ∈ o.x.dead) → s.st.ids.count m.id = 1 ∧ m.id < s.next) := by
  unfold Stt.once
  rw [Bool.and_eq_true, decide_eq_true_eq, List.nodup_iff_count, List.all_eq_true]
  constructor
  · rintro ⟨h1, h2⟩ i o ho m hm
    have hin := ids_at.2 ⟨i, o, ho, m, hm, rfl⟩
    have a := h1 m.id
    have b := List.count_pos_iff.2 hin
    exact ⟨by omega, of_decide_eq_true (h2 m.id hin)⟩
  · intro h
    refine ⟨fun n => ?_, fun n hn => ?_⟩
    · by_cases hn : n ∈ s.st.ids
      · obtain ⟨i, o, ho, m, hm, rfl⟩ := ids_at.1 hn
        exact Nat.le_of_eq (h i o ho m hm).1
      · rw [List.count_eq_zero_of_not_mem hn]; omega
    · obtain ⟨i, o, ho, m, hm, rfl⟩ := ids_at.1 hn
      exact decide_eq_true (h i o ho m hm).2
theorem ob_right_iff {o : Ob} {next : Int} : (o.right = true ∧ ∀ m, (m ∈ o.msgs ∨ m ∈ o.dead) → m.id < next) ↔ effName o.name = true ∧ effKind o.kind o.limit = true ∧ objB o next = true ∧ o.rows.all Rw.right = true := by
  unfold Ob.right objB
  by_cases hk : o.kind = 1
  · rw [if_pos hk]
    have h2 : ¬ o.kind = 2 := by omega
    simp only [Bool.and_eq_true, decide_eq_true_eq, Bool.not_eq_true', Bool.and_eq_false_iff, decide_eq_false_iff_not, hk, msgsOk_iff]
    constructor
    · rintro ⟨⟨⟨a, b⟩, ⟨⟨c, d⟩, e⟩, f⟩, g⟩
      have hm : o.msgs = [] := List.length_eq_zero_iff.1 (by omega)
      have hd : o.dead = [] := List.length_eq_zero_iff.1 (by omega)
      simp [hm, hd, a, e, f, risesM, adj, b]
    · rintro ⟨a, b, ⟨⟨⟨⟨⟨c, d⟩, e⟩, f⟩, g⟩, h⟩, i⟩
      have hm : o.msgs = [] := List.length_eq_zero_iff.1 (by simp at c; omega)
      have hd : o.dead = [] := List.length_eq_zero_iff.1 (by simp at c; omega)
      simp [hm, hd, a, e, i, b]
  · rw [if_neg hk]
    constructor
    · rintro ⟨h, g⟩
      simp only [Bool.and_eq_true, decide_eq_true_eq, List.all_eq_true] at h
      obtain ⟨⟨a, b⟩, ⟨⟨c, d⟩, e⟩, f⟩ := h
      have hr : o.rows = [] := List.length_eq_zero_iff.1 (by omega)
      refine ⟨a, b, ?_, by simp [hr]⟩
      simp only [Bool.and_eq_true, msgsOk_iff]
      refine ⟨⟨⟨⟨⟨by simp [hk], by simp [hr]⟩, by simp [hr, risesR, adj]⟩, d⟩, fun m hm => ⟨e m hm, g m (.inl hm), by simp⟩⟩, fun m hm => ?_⟩
      have := f m hm
      simp only [Bool.and_eq_true, Bool.not_eq_true'] at this
      exact ⟨this.2, g m (.inr hm), fun _ => this.1⟩
    · rintro ⟨a, b, c, d⟩
      have h2 : o.kind = 2 := (effKind_or b).resolve_left hk
      simp only [Bool.and_eq_true, msgsOk_iff] at c
      obtain ⟨⟨⟨⟨⟨_, c2⟩, _⟩, d⟩, e⟩, f⟩ := c
      have hr : o.rows = [] := List.length_eq_zero_iff.1 (by simp [h2] at c2; simpa using c2)
      refine ⟨?_, fun m hm => hm.elim (fun h => (e m h).2.1) (fun h => (f m h).2.1)⟩
      simp only [Bool.and_eq_true, decide_eq_true_eq, List.all_eq_true]
      refine ⟨⟨a, b⟩, ⟨⟨by simp [hr], d⟩, fun m hm => (e m hm).1⟩, fun m hm => ?_⟩
      simp [(f m hm).1, (f m hm).2.2 (by simp)]
theorem right_iff {s : Sz} : s.st.right = true ↔ (1 ≤ s.next ∧ s.next ≤ 1099511627776 ∧ (s.l.length : Int) ≤ 20) ∧ ∀ (i : Nat) (o : Oz), s.l[i]? = some o → RF s i o := by
  rw [sz_right]
  simp only [Bool.and_eq_true, decide_eq_true_eq, List.all_eq_true, adj_at, once_iff]
  constructor
  · rintro ⟨⟨⟨⟨⟨a, b⟩, c⟩, d⟩, e⟩, f⟩
    refine ⟨⟨a, b, c⟩, fun i o ho => ?_⟩
    have hr := (ob_right_iff (next := s.next)).1 ⟨d o (List.mem_of_getElem? ho), fun m hm => (f i o ho m hm).2⟩
    refine ⟨fun p hp => ?_, hr.2.2.1, hr.2.2.2, fun m hm => (f i o ho m (.inl hm)).1, fun m hm => (f i o ho m (.inr hm)).1⟩
    unfold headB
    rw [hr.1, hr.2.1]
    cases i with
    | zero => rfl
    | succ i =>
      have := e i p o hp ho
      simp [this]
  · rintro ⟨⟨a, b, c⟩, h⟩
    have hr : ∀ (i : Nat) (o : Oz), s.l[i]? = some o → (o.x.right = true ∧ ∀ m, (m ∈ o.x.msgs ∨ m ∈ o.x.dead) → m.id < s.next) := fun i o ho => (ob_right_iff (next := s.next)).2 (by
      have hf := h i o ho
      obtain ⟨hi, _⟩ := List.getElem?_eq_some_iff.1 ho
      have h1 := hf.h1 _ (List.getElem?_eq_getElem (show i - 1 < s.l.length by omega))
      unfold headB at h1
      simp only [Bool.and_eq_true] at h1
      exact ⟨h1.1.1, h1.1.2, hf.h2, hf.rows⟩)
    refine ⟨⟨⟨⟨⟨a, b⟩, c⟩, fun o ho => ?_⟩, fun i x y hx hy => ?_⟩, fun i o ho m hm => ⟨hm.elim (fun hm => (h i o ho).c1 m hm) (fun hm => (h i o ho).c2 m hm), (hr i o ho).2 m hm⟩⟩
    · obtain ⟨i, hi⟩ := List.mem_iff_getElem?.1 ho
      exact (hr i o hi).1
    · have h1 := (h (i + 1) y hy).h1 x hx
      unfold headB at h1
      simp only [Bool.and_eq_true, Bool.or_eq_true, decide_eq_true_eq] at h1
      exact h1.2.resolve_left (by omega)
theorem not_right {s : Sz} {i : Nat} {o : Oz} (ho : s.l[i]? = some o) (h : ¬ RF s i o) : s.st.right = false := by
  cases h' : s.st.right with
  | false => rfl
  | true => exact absurd ((right_iff.1 h').2 i o ho) h
--%call poste/posteref14.RightState := ref_RightState _ (by assumption) (by assumption)
set_option maxHeartbeats 3200000 in
theorem ref_RightState (s : Sz) (hok : s.ok) (hN : s.cnt s.l.length ≤ 9000000000000000000) : Fn Tryz.prog 7 [.agg s.cells.toArray].toArray (StL s) (fun v post => v = .bool s.st.right ∧ post = []) := by
  have hok' := hok
  obtain ⟨hn0, hl, hlc, hall⟩ := hok'
  refine Fn.enter (N := 161) Tryz.func7 rfl Tryz.ntmps7 (by kernel_rfl) rfl (fun ρ L => ?_)
  refine K.seq ?_
  refine K.region ?_
  refine KO.loud rfl (l_box rfl rfl) ?_
  rintro _ _ ⟨b1, rfl, rfl⟩
  refine KO.q rfl (q_assign rfl) ?_
  refine KO.done ?_
  refine K.seq <| K.seq ?_
  refine K.region ?_
  refine KO.q rfl (q_field fo_24_0 rfl) ?_
  refine KO.q rfl (q_load1D ck_3 rfl) ?_
  refine KO.q rfl (q_lt rfl rfl) ?_
  refine KO.q rfl (q_move rfl) ?_
  refine KO.dsplit 11 rfl (fun g11 => ?_) (fun g11 => ?_)
  · refine KO.skip rfl ?_
    refine KO.skip rfl ?_
    refine KO.skip rfl ?_
    refine KO.q rfl (q_pickT rfl rfl) ?_
    refine KO.q rfl (q_move rfl) ?_
    refine KO.skip rfl ?_
    refine KO.skip rfl ?_
    refine KO.skip rfl ?_
    refine KO.skip rfl ?_
    refine KO.q rfl (q_pickT rfl rfl) ?_
    refine KO.done ?_
    refine K.yes rfl ?_
    refine K.seq ?_
    have hr : s.st.right = false := right_range (by omega)
    rw [hr]
    refine K.region ?_
    refine KO.q rfl (q_assign rfl) ?_
    refine KO.done ?_
    refine K.ret (fn := Tryz.f7) Tryz.func7 (fun a w hk hs => res1 Tryz.results7 hk rfl) (fun w hs => ?_)
    exact ⟨_, [], rfl, ⟨rfl, rfl⟩, hs.fitD⟩
  · refine KO.q rfl (q_field fo_24_0 rfl) ?_
    refine KO.q rfl (q_load1D ck_3 rfl) ?_
    refine KO.q rfl (q_gt rfl rfl) ?_
    refine KO.q rfl (q_pickF rfl rfl) ?_
    refine KO.q rfl (q_move rfl) ?_
    refine KO.dsplit 16 rfl (fun g16 => ?_) (fun g16 => ?_)
    · refine KO.skip rfl ?_
      refine KO.skip rfl ?_
      refine KO.skip rfl ?_
      refine KO.skip rfl ?_
      refine KO.q rfl (q_pickT rfl rfl) ?_
      refine KO.done ?_
      refine K.yes rfl ?_
      refine K.seq ?_
      have hr : s.st.right = false := right_range (by omega)
      rw [hr]
      refine K.region ?_
      refine KO.q rfl (q_assign rfl) ?_
      refine KO.done ?_
      refine K.ret (fn := Tryz.f7) Tryz.func7 (fun a w hk hs => res1 Tryz.results7 hk rfl) (fun w hs => ?_)
      exact ⟨_, [], rfl, ⟨rfl, rfl⟩, hs.fitD⟩
    · refine KO.q rfl (q_field fo_24_1 rfl) ?_
      refine KO.q rfl (q_load1D ck_22 rfl) ?_
      refine KO.q rfl (q_len Tryz.underlying22 rfl) ?_
      refine KO.q rfl (q_gt rfl rfl) ?_
      refine KO.q rfl (q_pickF rfl rfl) ?_
      refine KO.done ?_
      refine K.dcond (s := 21) rfl (fun g21 => ?_) (fun g21 => ?_)
      · refine K.seq ?_
        have hr : s.st.right = false := right_range (by omega)
        rw [hr]
        refine K.region ?_
        refine KO.q rfl (q_assign rfl) ?_
        refine KO.done ?_
        refine K.ret (fn := Tryz.f7) Tryz.func7 (fun a w hk hs => res1 Tryz.results7 hk rfl) (fun w hs => ?_)
        exact ⟨_, [], rfl, ⟨rfl, rfl⟩, hs.fitD⟩
      · refine K.skip <| K.seq <| K.seq ?_
        have hrange : 1 ≤ s.next ∧ s.next ≤ 1099511627776 ∧ (s.l.length : Int) ≤ 20 := by omega
        refine K.region ?_
        refine KO.q rfl (q_assign rfl) ?_
        refine KO.done ?_
        refine K.block ?_
        refine K.rounds2 (ι := { x : Nat // x ≤ s.l.length ∧ ∀ j : Nat, j < x → ∀ o : Oz, s.l[j]? = some o → RF s j o }) (fun x => [(3, .int .i64 x.1), (1, .pointer (some ⟨b1, 0, none⟩))]) (fun x => [pv b1 24 s.cells, RowF Kd.oz s.q s.l, NestF s.l] ++ L) (fun x => s.l.length - x.1) ⟨0, Nat.zero_le _, fun j hj => absurd hj (Nat.not_lt_zero _)⟩ (by repeat (first | exact Env.sub_nil _ | refine Env.sub_cons rfl ?_)) (fun w h => h.fitD) (fun x ih => ?_)
        obtain ⟨i, hi, hrf⟩ := x
        dsimp only at hi hrf ⊢
        refine K.seq <| K.seq ?_
        refine K.region ?_
        refine KO.q rfl (q_move rfl) ?_
        refine KO.q rfl (q_field fo_24_1 rfl) ?_
        refine KO.q rfl (q_load1D ck_22 rfl) ?_
        refine KO.q rfl (q_len Tryz.underlying22 rfl) ?_
        refine KO.q rfl (q_lt rfl rfl) ?_
        refine KO.done ?_
        refine K.dcond (s := 26) rfl (fun g26 => ?_) (fun g26 => ?_)
        · obtain ⟨o, ho⟩ : ∃ e, s.l[i]? = some e := ⟨_, List.getElem?_eq_getElem (by omega)⟩
          have hmo := List.mem_of_getElem? ho
          have hoo := hall o hmo
          refine K.st (fun w h => nestF_at (l := s.l) (by repeat (first | exact List.Mem.head _ | apply List.Mem.tail)) hmo h) ?_
          obtain ⟨p, hp⟩ : ∃ e, s.l[i - 1]? = some e := ⟨_, List.getElem?_eq_getElem (by omega)⟩
          have hpo := hall p (List.mem_of_getElem? hp)
          obtain ⟨⟨hz1, hz2, hz3, hz4, hz5, hz6, hz7, hz8, hz9⟩, _⟩ := hoo
          obtain ⟨⟨hy1, _⟩, _⟩ := hpo
          have hz : ∀ r ∈ o.x.rows, (r.key.size : Int) ≤ 9223372036854775807 := fun r hr => by have := (hz4 r hr).1; omega
          refine K.skip <| K.seq <| K.block <| K.seq ?_
          refine K.region ?_
          refine KO.q rfl (q_field fo_24_1 rfl) ?_
          refine KO.q rfl (q_load1D ck_22 rfl) ?_
          refine KO.q rfl (q_move rfl) ?_
          first | refine KO.q rfl (q_ix _ se_22 rfl rfl rfl isF (by repeat (first | exact List.Mem.head _ | apply List.Mem.tail)) rfl (by first | assumption | omega | exact (List.getElem?_eq_some_iff.1 (by assumption)).1 | (simp; omega))) ?_ | refine KO.q rfl (q_ix _ se_22 rfl rfl rfl isO (by repeat (first | exact List.Mem.head _ | apply List.Mem.tail)) rfl (by first | assumption | omega | exact (List.getElem?_eq_some_iff.1 (by assumption)).1 | (simp; omega))) ?_
          first | refine KO.q rfl (q_ldEN ck_33 rfl isF (by repeat (first | exact List.Mem.head _ | apply List.Mem.tail)) (by first | assumption | exact List.getElem?_eq_getElem (by first | assumption | omega | (simp; omega)))) ?_ | refine KO.q rfl (q_ldEN ck_33 rfl isO (by repeat (first | exact List.Mem.head _ | apply List.Mem.tail)) (by first | assumption | exact List.getElem?_eq_getElem (by first | assumption | omega | (simp; omega)))) ?_
          refine KO.loud rfl (l_alloc zo_33) ?_
          rintro _ _ ⟨b4, rfl, rfl⟩
          refine KO.loudN rfl (l_storeAll ck_33 rfl rfl ⟨rfl, rfl⟩ (oz_one _) (by repeat (first | exact Pick.here | apply Pick.there))) ?_
          rintro _ _ ⟨rfl, rfl⟩
          refine KO.done ?_
          refine K.seq <| K.seq ?_
          refine K.subE (E' := [(4, .pointer (some ⟨b4, 0, none⟩)), (3, .int .i64 i), (1, .pointer (some ⟨b1, 0, none⟩))]) (by repeat (first | exact Env.sub_nil _ | refine Env.sub_cons rfl ?_)) ?_
          refine K.joinB 62 (!headB i p.x o.x) (fun cont => ?_) (fun y62 hy62 => ?_)
          · refine K.drawU (by repeat (first | apply SubL.pers | apply SubL.own (b := b4) | apply SubL.own (b := b1) | apply SubL.drop | exact SubL.none)) mixed ?_
            refine D.q 0 rfl (by kernel_rfl) (by kernel_rfl) (q_field fo_33_0 rfl) (fun _ h => h.subD) ?_
            refine D.q 1 rfl (by kernel_rfl) (by kernel_rfl) (q_load1D ck_9 rfl) (fun _ h => h.subD) ?_
            refine D.all (rs := [2]) (by kernel_rfl) rfl (DAll.cons rfl (by kernel_rfl) (OpL.callD rfl (h := ref_name _)) (.inr (by rintro _ _ ⟨_, ⟨rfl, rfl⟩, rfl⟩ w h; exact h.subD)) rfl ?_ DAll.nil)
            rintro _ _ ⟨_, ⟨rfl, rfl⟩, rfl⟩
            refine D.q 3 rfl (by kernel_rfl) (by kernel_rfl) (q_not rfl) (fun _ h => h.subD) ?_
            refine D.q 4 rfl (by kernel_rfl) (by kernel_rfl) (q_move rfl) (fun _ h => h.subD) ?_
            refine D.split 38 rfl (fun g38 => ?_) (fun g38 => ?_)
            · refine D.skip 5 rfl (by kernel_rfl) (by kernel_rfl) (fun _ h => h.subD) ?_
              refine D.skip 6 rfl (by kernel_rfl) (by kernel_rfl) (fun _ h => h.subD) ?_
              refine D.skip 7 rfl (by kernel_rfl) (by kernel_rfl) (fun _ h => h.subD) ?_
              refine D.skip 8 rfl (by kernel_rfl) (by kernel_rfl) (fun _ h => h.subD) ?_
              refine D.skip 9 rfl (by kernel_rfl) (by kernel_rfl) (fun _ h => h.subD) ?_
              refine D.skip 10 rfl (by kernel_rfl) (by kernel_rfl) (fun _ h => h.subD) ?_
              refine D.q 11 rfl (by kernel_rfl) (by kernel_rfl) (q_pickT rfl rfl) (fun _ h => h.subD) ?_
              refine D.q 12 rfl (by kernel_rfl) (by kernel_rfl) (q_move rfl) (fun _ h => h.subD) ?_
              refine D.skip 13 rfl (by kernel_rfl) (by kernel_rfl) (fun _ h => h.subD) ?_
              refine D.skip 14 rfl (by kernel_rfl) (by kernel_rfl) (fun _ h => h.subD) ?_
              refine D.skip 15 rfl (by kernel_rfl) (by kernel_rfl) (fun _ h => h.subD) ?_
              refine D.gone 16 rfl (by kernel_rfl) (by kernel_rfl) (fun _ h => h.subD) ?_
              refine D.gone 17 rfl (by kernel_rfl) (by kernel_rfl) (fun _ h => h.subD) ?_
              refine D.gone 18 rfl (by kernel_rfl) (by kernel_rfl) (fun _ h => h.subD) ?_
              refine D.gone 19 rfl (by kernel_rfl) (by kernel_rfl) (fun _ h => h.subD) ?_
              refine D.gone 20 rfl (by kernel_rfl) (by kernel_rfl) (fun _ h => h.subD) ?_
              refine D.gone 21 rfl (by kernel_rfl) (by kernel_rfl) (fun _ h => h.subD) ?_
              refine D.gone 22 rfl (by kernel_rfl) (by kernel_rfl) (fun _ h => h.subD) ?_
              refine D.gone 23 rfl (by kernel_rfl) (by kernel_rfl) (fun _ h => h.subD) ?_
              refine D.gone 24 rfl (by kernel_rfl) (by kernel_rfl) (fun _ h => h.subD) ?_
              refine D.gone 25 rfl (by kernel_rfl) (by kernel_rfl) (fun _ h => h.subD) ?_
              refine D.gone 26 rfl (by kernel_rfl) (by kernel_rfl) (fun _ h => h.subD) ?_
              refine D.skip 27 rfl (by kernel_rfl) (by kernel_rfl) (fun _ h => h.subD) ?_
              refine D.q 28 rfl (by kernel_rfl) (by kernel_rfl) (q_pickT rfl rfl) (fun _ h => h.subD) ?_
              refine D.done (by kernel_rfl) ?_
              exact K.subE (by repeat (first | exact Env.sub_nil _ | refine Env.sub_cons rfl ?_)) (cont _ (by clear ih; rw [Bool.eq_iff_iff]; simp_all [headB] <;> first | omega | (intros; omega)))
            · refine D.q 5 rfl (by kernel_rfl) (by kernel_rfl) (q_field fo_33_1 rfl) (fun _ h => h.subD) ?_
              refine D.q 6 rfl (by kernel_rfl) (by kernel_rfl) (q_load1D ck_3 rfl) (fun _ h => h.subD) ?_
              refine D.q 7 rfl (by kernel_rfl) (by kernel_rfl) (q_field fo_33_2 rfl) (fun _ h => h.subD) ?_
              refine D.q 8 rfl (by kernel_rfl) (by kernel_rfl) (q_load1D ck_3 rfl) (fun _ h => h.subD) ?_
              refine D.all (rs := [9]) (by kernel_rfl) rfl (DAll.cons rfl (by kernel_rfl) (OpL.callD rfl (h := ref_kind _ _)) (.inr (by rintro _ _ ⟨_, ⟨rfl, rfl⟩, rfl⟩ w h; exact h.subD)) rfl ?_ DAll.nil)
              rintro _ _ ⟨_, ⟨rfl, rfl⟩, rfl⟩
              refine D.q 10 rfl (by kernel_rfl) (by kernel_rfl) (q_not rfl) (fun _ h => h.subD) ?_
              refine D.q 11 rfl (by kernel_rfl) (by kernel_rfl) (q_pickF rfl rfl) (fun _ h => h.subD) ?_
              refine D.q 12 rfl (by kernel_rfl) (by kernel_rfl) (q_move rfl) (fun _ h => h.subD) ?_
              refine D.split 46 rfl (fun g46 => ?_) (fun g46 => ?_)
              · refine D.skip 13 rfl (by kernel_rfl) (by kernel_rfl) (fun _ h => h.subD) ?_
                refine D.skip 14 rfl (by kernel_rfl) (by kernel_rfl) (fun _ h => h.subD) ?_
                refine D.skip 15 rfl (by kernel_rfl) (by kernel_rfl) (fun _ h => h.subD) ?_
                refine D.gone 16 rfl (by kernel_rfl) (by kernel_rfl) (fun _ h => h.subD) ?_
                refine D.gone 17 rfl (by kernel_rfl) (by kernel_rfl) (fun _ h => h.subD) ?_
                refine D.gone 18 rfl (by kernel_rfl) (by kernel_rfl) (fun _ h => h.subD) ?_
                refine D.gone 19 rfl (by kernel_rfl) (by kernel_rfl) (fun _ h => h.subD) ?_
                refine D.gone 20 rfl (by kernel_rfl) (by kernel_rfl) (fun _ h => h.subD) ?_
                refine D.gone 21 rfl (by kernel_rfl) (by kernel_rfl) (fun _ h => h.subD) ?_
                refine D.gone 22 rfl (by kernel_rfl) (by kernel_rfl) (fun _ h => h.subD) ?_
                refine D.gone 23 rfl (by kernel_rfl) (by kernel_rfl) (fun _ h => h.subD) ?_
                refine D.gone 24 rfl (by kernel_rfl) (by kernel_rfl) (fun _ h => h.subD) ?_
                refine D.gone 25 rfl (by kernel_rfl) (by kernel_rfl) (fun _ h => h.subD) ?_
                refine D.gone 26 rfl (by kernel_rfl) (by kernel_rfl) (fun _ h => h.subD) ?_
                refine D.skip 27 rfl (by kernel_rfl) (by kernel_rfl) (fun _ h => h.subD) ?_
                refine D.q 28 rfl (by kernel_rfl) (by kernel_rfl) (q_pickT rfl rfl) (fun _ h => h.subD) ?_
                refine D.done (by kernel_rfl) ?_
                exact K.subE (by repeat (first | exact Env.sub_nil _ | refine Env.sub_cons rfl ?_)) (cont _ (by clear ih; rw [Bool.eq_iff_iff]; simp_all [headB] <;> first | omega | (intros; omega)))
              · refine D.q 13 rfl (by kernel_rfl) (by kernel_rfl) (q_move rfl) (fun _ h => h.subD) ?_
                refine D.q 14 rfl (by kernel_rfl) (by kernel_rfl) (q_gt rfl rfl) (fun _ h => h.subD) ?_
                refine D.q 15 rfl (by kernel_rfl) (by kernel_rfl) (q_move rfl) (fun _ h => h.subD) ?_
                refine D.dsplit 49 rfl (fun g49 => ?_) (fun g49 => ?_)
                · have hsub : (i : Int) - 1 = ((i - 1 : Nat) : Int) := by omega
                  refine D.q 16 rfl (by kernel_rfl) (by kernel_rfl) (q_field fo_24_1 rfl) (fun _ h => h.subD) ?_
                  refine D.q 17 rfl (by kernel_rfl) (by kernel_rfl) (q_load1D ck_22 rfl) (fun _ h => h.subD) ?_
                  refine D.q 18 rfl (by kernel_rfl) (by kernel_rfl) (q_move rfl) (fun _ h => h.subD) ?_
                  refine D.q 19 rfl (by kernel_rfl) (by kernel_rfl) (q_sub rfl rfl (by first | omega | (simp; omega)) (by first | omega | (simp; omega))) (fun _ h => h.subD) ?_
                  refine D.q 20 rfl (by kernel_rfl) (by kernel_rfl) (q_ix (i - 1) se_22 rfl rfl hsub isF (by repeat (first | exact List.Mem.head _ | apply List.Mem.tail)) rfl (by omega)) (fun _ h => h.subD) ?_
                  refine D.q 21 rfl (by kernel_rfl) (by kernel_rfl) (q_fieldE fo_33_0 rfl) (fun _ h => h.subD) ?_
                  first | refine D.q 22 rfl (by kernel_rfl) (by kernel_rfl) (q_ldE ck_9 rfl isF (by repeat (first | exact List.Mem.head _ | apply List.Mem.tail)) (by first | assumption | exact List.getElem?_eq_getElem (by first | assumption | omega | (simp; omega))) rfl) (fun _ h => h.subD) ?_ | refine D.q 22 rfl (by kernel_rfl) (by kernel_rfl) (q_ldE ck_9 rfl isO (by repeat (first | exact List.Mem.head _ | apply List.Mem.tail)) (by first | assumption | exact List.getElem?_eq_getElem (by first | assumption | omega | (simp; omega))) rfl) (fun _ h => h.subD) ?_
                  refine D.q 23 rfl (by kernel_rfl) (by kernel_rfl) (q_field fo_33_0 rfl) (fun _ h => h.subD) ?_
                  refine D.q 24 rfl (by kernel_rfl) (by kernel_rfl) (q_load1D ck_9 rfl) (fun _ h => h.subD) ?_
                  refine D.all (rs := [25]) (by kernel_rfl) rfl (DAll.cons rfl (by kernel_rfl) (OpL.callD rfl (h := ref_Keys _ _ (by first | assumption | omega) (by first | assumption | omega))) (.inr (by rintro _ _ ⟨_, ⟨rfl, rfl⟩, rfl⟩ w h; exact h.subD)) rfl ?_ DAll.nil)
                  rintro _ _ ⟨_, ⟨rfl, rfl⟩, rfl⟩
                  refine D.q 26 rfl (by kernel_rfl) (by kernel_rfl) (q_ge rfl rfl) (fun _ h => h.subD) ?_
                  refine D.q 27 rfl (by kernel_rfl) (by kernel_rfl) (q_pickT rfl rfl) (fun _ h => h.subD) ?_
                  refine D.q 28 rfl (by kernel_rfl) (by kernel_rfl) (q_pickF rfl rfl) (fun _ h => h.subD) ?_
                  refine D.done (by kernel_rfl) ?_
                  exact K.subE (by repeat (first | exact Env.sub_nil _ | refine Env.sub_cons rfl ?_)) (cont _ (by clear ih; rw [Bool.eq_iff_iff]; simp_all [headB] <;> first | omega | (intros; omega)))
                · refine D.skip 16 rfl (by kernel_rfl) (by kernel_rfl) (fun _ h => h.subD) ?_
                  refine D.skip 17 rfl (by kernel_rfl) (by kernel_rfl) (fun _ h => h.subD) ?_
                  refine D.skip 18 rfl (by kernel_rfl) (by kernel_rfl) (fun _ h => h.subD) ?_
                  refine D.skip 19 rfl (by kernel_rfl) (by kernel_rfl) (fun _ h => h.subD) ?_
                  refine D.skip 20 rfl (by kernel_rfl) (by kernel_rfl) (fun _ h => h.subD) ?_
                  refine D.skip 21 rfl (by kernel_rfl) (by kernel_rfl) (fun _ h => h.subD) ?_
                  refine D.skip 22 rfl (by kernel_rfl) (by kernel_rfl) (fun _ h => h.subD) ?_
                  refine D.skip 23 rfl (by kernel_rfl) (by kernel_rfl) (fun _ h => h.subD) ?_
                  refine D.skip 24 rfl (by kernel_rfl) (by kernel_rfl) (fun _ h => h.subD) ?_
                  refine D.skip 25 rfl (by kernel_rfl) (by kernel_rfl) (fun _ h => h.subD) ?_
                  refine D.skip 26 rfl (by kernel_rfl) (by kernel_rfl) (fun _ h => h.subD) ?_
                  refine D.q 27 rfl (by kernel_rfl) (by kernel_rfl) (q_pickF rfl rfl) (fun _ h => h.subD) ?_
                  refine D.q 28 rfl (by kernel_rfl) (by kernel_rfl) (q_pickF rfl rfl) (fun _ h => h.subD) ?_
                  refine D.done (by kernel_rfl) ?_
                  exact K.subE (by repeat (first | exact Env.sub_nil _ | refine Env.sub_cons rfl ?_)) (cont _ (by clear ih; rw [Bool.eq_iff_iff]; simp_all [headB] <;> first | omega | (intros; omega)))
          · refine K.bcond (s := 62) rfl (fun g62 => ?_) (fun g62 => ?_)
            · refine K.seq ?_
              have hr : s.st.right = false := not_right ho (fun hf => by rw [hy62, hf.h1 p hp] at g62; cases g62)
              rw [hr]
              refine K.region ?_
              refine KO.q rfl (q_assign rfl) ?_
              refine KO.done ?_
              refine K.ret (fn := Tryz.f7) Tryz.func7 (fun a w hk hs => res1 Tryz.results7 hk rfl) (fun w hs => ?_)
              exact ⟨_, [], rfl, ⟨rfl, rfl⟩, hs.fitD⟩
            · refine K.skip <| K.seq <| K.seq ?_
              refine K.subE (E' := [(4, .pointer (some ⟨b4, 0, none⟩)), (3, .int .i64 i), (1, .pointer (some ⟨b1, 0, none⟩))]) (by repeat (first | exact Env.sub_nil _ | refine Env.sub_cons rfl ?_)) ?_
              refine K.joinB 114 (!objB o.x s.next) (fun cont => ?_) (fun y114 hy114 => ?_)
              · refine K.region ?_
                refine KO.q rfl (q_field fo_33_1 rfl) ?_
                refine KO.q rfl (q_load1D ck_3 rfl) ?_
                refine KO.q rfl (q_eq rfl rfl) ?_
                refine KO.q rfl (q_move rfl) ?_
                refine KO.dsplit 66 rfl (fun g66 => ?_) (fun g66 => ?_)
                · refine KO.q rfl (q_field fo_33_4 rfl) ?_
                  refine KO.q rfl (q_load1D ck_31 rfl) ?_
                  refine KO.q rfl (q_len Tryz.underlying31 rfl) ?_
                  refine KO.q rfl (q_field fo_33_5 rfl) ?_
                  refine KO.q rfl (q_load1D ck_31 rfl) ?_
                  refine KO.q rfl (q_len Tryz.underlying31 rfl) ?_
                  refine KO.q rfl (q_add rfl rfl (by first | omega | (simp; omega)) (by first | omega | (simp; omega))) ?_
                  refine KO.q rfl (q_gt rfl rfl) ?_
                  refine KO.q rfl (q_pickT rfl rfl) ?_
                  refine KO.q rfl (q_move rfl) ?_
                  refine KO.dsplit 76 rfl (fun g76 => ?_) (fun g76 => ?_)
                  · refine KO.skip rfl ?_
                    refine KO.skip rfl ?_
                    refine KO.skip rfl ?_
                    refine KO.skip rfl ?_
                    refine KO.gone rfl ?_
                    refine KO.gone rfl ?_
                    refine KO.gone rfl ?_
                    refine KO.gone rfl ?_
                    refine KO.skip rfl ?_
                    refine KO.q rfl (q_pickT rfl rfl) ?_
                    refine KO.q rfl (q_move rfl) ?_
                    refine KO.skip rfl ?_
                    refine KO.skip rfl ?_
                    refine KO.skip rfl ?_
                    refine KO.skip rfl ?_
                    refine KO.q rfl (q_pickT rfl rfl) ?_
                    refine KO.q rfl (q_move rfl) ?_
                    refine KO.skip rfl ?_
                    refine KO.skip rfl ?_
                    refine KO.skip rfl ?_
                    refine KO.skip rfl ?_
                    refine KO.q rfl (q_pickT rfl rfl) ?_
                    refine KO.q rfl (q_move rfl) ?_
                    refine KO.skip rfl ?_
                    refine KO.skip rfl ?_
                    refine KO.skip rfl ?_
                    refine KO.skip rfl ?_
                    refine KO.skip rfl ?_
                    refine KO.skip rfl ?_
                    refine KO.q rfl (q_pickT rfl rfl) ?_
                    refine KO.q rfl (q_move rfl) ?_
                    refine KO.skip rfl ?_
                    refine KO.skip rfl ?_
                    refine KO.skip rfl ?_
                    refine KO.skip rfl ?_
                    refine KO.skip rfl ?_
                    refine KO.skip rfl ?_
                    refine KO.q rfl (q_pickT rfl rfl) ?_
                    refine KO.done ?_
                    exact K.subE (by repeat (first | exact Env.sub_nil _ | refine Env.sub_cons rfl ?_)) (cont _ (by clear ih; rw [Bool.eq_iff_iff]; simp_all [objB] <;> first | omega | (intros; omega)))
                  · refine KO.q rfl (q_field fo_33_1 rfl) ?_
                    refine KO.q rfl (q_load1D ck_3 rfl) ?_
                    refine KO.q rfl (q_eq rfl rfl) ?_
                    refine KO.q rfl (q_move rfl) ?_
                    refine KO.dsplit 80 rfl (fun g80 => ?_) (fun g80 => ?_)
                    · refine KO.q rfl (q_field fo_33_3 rfl) ?_
                      refine KO.q rfl (q_load1D ck_30 rfl) ?_
                      refine KO.q rfl (q_len Tryz.underlying30 rfl) ?_
                      refine KO.q rfl (q_gt rfl rfl) ?_
                      refine KO.q rfl (q_pickT rfl rfl) ?_
                      refine KO.q rfl (q_pickF rfl rfl) ?_
                      refine KO.q rfl (q_move rfl) ?_
                      refine KO.dsplit 87 rfl (fun g87 => ?_) (fun g87 => ?_)
                      · refine KO.skip rfl ?_
                        refine KO.skip rfl ?_
                        refine KO.skip rfl ?_
                        refine KO.skip rfl ?_
                        refine KO.q rfl (q_pickT rfl rfl) ?_
                        refine KO.q rfl (q_move rfl) ?_
                        refine KO.skip rfl ?_
                        refine KO.skip rfl ?_
                        refine KO.skip rfl ?_
                        refine KO.skip rfl ?_
                        refine KO.q rfl (q_pickT rfl rfl) ?_
                        refine KO.q rfl (q_move rfl) ?_
                        refine KO.skip rfl ?_
                        refine KO.skip rfl ?_
                        refine KO.skip rfl ?_
                        refine KO.skip rfl ?_
                        refine KO.skip rfl ?_
                        refine KO.skip rfl ?_
                        refine KO.q rfl (q_pickT rfl rfl) ?_
                        refine KO.q rfl (q_move rfl) ?_
                        refine KO.skip rfl ?_
                        refine KO.skip rfl ?_
                        refine KO.skip rfl ?_
                        refine KO.skip rfl ?_
                        refine KO.skip rfl ?_
                        refine KO.skip rfl ?_
                        refine KO.q rfl (q_pickT rfl rfl) ?_
                        refine KO.done ?_
                        exact K.subE (by repeat (first | exact Env.sub_nil _ | refine Env.sub_cons rfl ?_)) (cont _ (by clear ih; rw [Bool.eq_iff_iff]; simp_all [objB] <;> first | omega | (intros; omega)))
                      · refine KO.q rfl (q_field fo_33_3 rfl) ?_
                        refine KO.q rfl (q_load1D ck_30 rfl) ?_
                        refine KO.loud rfl (OpL.callD rfl (h := ref_Rises _ _ _ (by first | omega | (simp; omega)) (by assumption))) ?_
                        rintro _ _ ⟨_, ⟨rfl, rfl⟩, rfl⟩
                        refine KO.q rfl (q_not rfl) ?_
                        refine KO.q rfl (q_pickF rfl rfl) ?_
                        refine KO.q rfl (q_move rfl) ?_
                        refine KO.split 93 rfl (fun g93 => ?_) (fun g93 => ?_)
                        · refine KO.skip rfl ?_
                          refine KO.skip rfl ?_
                          refine KO.skip rfl ?_
                          refine KO.skip rfl ?_
                          refine KO.q rfl (q_pickT rfl rfl) ?_
                          refine KO.q rfl (q_move rfl) ?_
                          refine KO.skip rfl ?_
                          refine KO.skip rfl ?_
                          refine KO.skip rfl ?_
                          refine KO.skip rfl ?_
                          refine KO.skip rfl ?_
                          refine KO.skip rfl ?_
                          refine KO.q rfl (q_pickT rfl rfl) ?_
                          refine KO.q rfl (q_move rfl) ?_
                          refine KO.skip rfl ?_
                          refine KO.skip rfl ?_
                          refine KO.skip rfl ?_
                          refine KO.skip rfl ?_
                          refine KO.skip rfl ?_
                          refine KO.skip rfl ?_
                          refine KO.q rfl (q_pickT rfl rfl) ?_
                          refine KO.done ?_
                          exact K.subE (by repeat (first | exact Env.sub_nil _ | refine Env.sub_cons rfl ?_)) (cont _ (by clear ih; rw [Bool.eq_iff_iff]; simp_all [objB] <;> first | omega | (intros; omega)))
                        · refine KO.q rfl (q_field fo_33_4 rfl) ?_
                          refine KO.q rfl (q_load1D ck_31 rfl) ?_
                          refine KO.loud rfl (OpL.callD rfl (h := ref_RisesMsgs _ _ _ (by first | omega | (simp; omega)))) ?_
                          rintro _ _ ⟨_, ⟨rfl, rfl⟩, rfl⟩
                          refine KO.q rfl (q_not rfl) ?_
                          refine KO.q rfl (q_pickF rfl rfl) ?_
                          refine KO.q rfl (q_move rfl) ?_
                          refine KO.split 99 rfl (fun g99 => ?_) (fun g99 => ?_)
                          · refine KO.skip rfl ?_
                            refine KO.skip rfl ?_
                            refine KO.skip rfl ?_
                            refine KO.skip rfl ?_
                            refine KO.skip rfl ?_
                            refine KO.skip rfl ?_
                            refine KO.q rfl (q_pickT rfl rfl) ?_
                            refine KO.q rfl (q_move rfl) ?_
                            refine KO.skip rfl ?_
                            refine KO.skip rfl ?_
                            refine KO.skip rfl ?_
                            refine KO.skip rfl ?_
                            refine KO.skip rfl ?_
                            refine KO.skip rfl ?_
                            refine KO.q rfl (q_pickT rfl rfl) ?_
                            refine KO.done ?_
                            exact K.subE (by repeat (first | exact Env.sub_nil _ | refine Env.sub_cons rfl ?_)) (cont _ (by clear ih; rw [Bool.eq_iff_iff]; simp_all [objB] <;> first | omega | (intros; omega)))
                          · refine KO.q rfl (q_field fo_33_4 rfl) ?_
                            refine KO.q rfl (q_load1D ck_31 rfl) ?_
                            refine KO.q rfl (q_field fo_24_0 rfl) ?_
                            refine KO.q rfl (q_load1D ck_3 rfl) ?_
                            refine KO.loud rfl (OpL.callD rfl (h := ref_messages _ _ _ _ _ (by first | omega | (simp; omega)))) ?_
                            rintro _ _ ⟨_, ⟨rfl, rfl⟩, rfl⟩
                            refine KO.q rfl (q_not rfl) ?_
                            refine KO.q rfl (q_pickF rfl rfl) ?_
                            refine KO.q rfl (q_move rfl) ?_
                            refine KO.split 107 rfl (fun g107 => ?_) (fun g107 => ?_)
                            · refine KO.skip rfl ?_
                              refine KO.skip rfl ?_
                              refine KO.skip rfl ?_
                              refine KO.skip rfl ?_
                              refine KO.skip rfl ?_
                              refine KO.skip rfl ?_
                              refine KO.q rfl (q_pickT rfl rfl) ?_
                              refine KO.done ?_
                              exact K.subE (by repeat (first | exact Env.sub_nil _ | refine Env.sub_cons rfl ?_)) (cont _ (by clear ih; rw [Bool.eq_iff_iff]; simp_all [objB] <;> first | omega | (intros; omega)))
                            · refine KO.q rfl (q_field fo_33_5 rfl) ?_
                              refine KO.q rfl (q_load1D ck_31 rfl) ?_
                              refine KO.q rfl (q_field fo_24_0 rfl) ?_
                              refine KO.q rfl (q_load1D ck_3 rfl) ?_
                              refine KO.loud rfl (OpL.callD rfl (h := ref_messages _ _ _ _ _ (by first | omega | (simp; omega)))) ?_
                              rintro _ _ ⟨_, ⟨rfl, rfl⟩, rfl⟩
                              refine KO.q rfl (q_not rfl) ?_
                              refine KO.q rfl (q_pickF rfl rfl) ?_
                              refine KO.done ?_
                              exact K.subE (by repeat (first | exact Env.sub_nil _ | refine Env.sub_cons rfl ?_)) (cont _ (by clear ih; rw [Bool.eq_iff_iff]; simp_all [objB] <;> first | omega | (intros; omega)))
                    · refine KO.skip rfl ?_
                      refine KO.skip rfl ?_
                      refine KO.skip rfl ?_
                      refine KO.skip rfl ?_
                      refine KO.q rfl (q_pickF rfl rfl) ?_
                      refine KO.q rfl (q_pickF rfl rfl) ?_
                      refine KO.q rfl (q_move rfl) ?_
                      refine KO.q rfl (q_field fo_33_3 rfl) ?_
                      refine KO.q rfl (q_load1D ck_30 rfl) ?_
                      refine KO.loud rfl (OpL.callD rfl (h := ref_Rises _ _ _ (by first | omega | (simp; omega)) (by assumption))) ?_
                      rintro _ _ ⟨_, ⟨rfl, rfl⟩, rfl⟩
                      refine KO.q rfl (q_not rfl) ?_
                      refine KO.q rfl (q_pickF rfl rfl) ?_
                      refine KO.q rfl (q_move rfl) ?_
                      refine KO.split 93 rfl (fun g93 => ?_) (fun g93 => ?_)
                      · refine KO.skip rfl ?_
                        refine KO.skip rfl ?_
                        refine KO.skip rfl ?_
                        refine KO.skip rfl ?_
                        refine KO.q rfl (q_pickT rfl rfl) ?_
                        refine KO.q rfl (q_move rfl) ?_
                        refine KO.skip rfl ?_
                        refine KO.skip rfl ?_
                        refine KO.skip rfl ?_
                        refine KO.skip rfl ?_
                        refine KO.skip rfl ?_
                        refine KO.skip rfl ?_
                        refine KO.q rfl (q_pickT rfl rfl) ?_
                        refine KO.q rfl (q_move rfl) ?_
                        refine KO.skip rfl ?_
                        refine KO.skip rfl ?_
                        refine KO.skip rfl ?_
                        refine KO.skip rfl ?_
                        refine KO.skip rfl ?_
                        refine KO.skip rfl ?_
                        refine KO.q rfl (q_pickT rfl rfl) ?_
                        refine KO.done ?_
                        exact K.subE (by repeat (first | exact Env.sub_nil _ | refine Env.sub_cons rfl ?_)) (cont _ (by clear ih; rw [Bool.eq_iff_iff]; simp_all [objB] <;> first | omega | (intros; omega)))
                      · refine KO.q rfl (q_field fo_33_4 rfl) ?_
                        refine KO.q rfl (q_load1D ck_31 rfl) ?_
                        refine KO.loud rfl (OpL.callD rfl (h := ref_RisesMsgs _ _ _ (by first | omega | (simp; omega)))) ?_
                        rintro _ _ ⟨_, ⟨rfl, rfl⟩, rfl⟩
                        refine KO.q rfl (q_not rfl) ?_
                        refine KO.q rfl (q_pickF rfl rfl) ?_
                        refine KO.q rfl (q_move rfl) ?_
                        refine KO.split 99 rfl (fun g99 => ?_) (fun g99 => ?_)
                        · refine KO.skip rfl ?_
                          refine KO.skip rfl ?_
                          refine KO.skip rfl ?_
                          refine KO.skip rfl ?_
                          refine KO.skip rfl ?_
                          refine KO.skip rfl ?_
                          refine KO.q rfl (q_pickT rfl rfl) ?_
                          refine KO.q rfl (q_move rfl) ?_
                          refine KO.skip rfl ?_
                          refine KO.skip rfl ?_
                          refine KO.skip rfl ?_
                          refine KO.skip rfl ?_
                          refine KO.skip rfl ?_
                          refine KO.skip rfl ?_
                          refine KO.q rfl (q_pickT rfl rfl) ?_
                          refine KO.done ?_
                          exact K.subE (by repeat (first | exact Env.sub_nil _ | refine Env.sub_cons rfl ?_)) (cont _ (by clear ih; rw [Bool.eq_iff_iff]; simp_all [objB] <;> first | omega | (intros; omega)))
                        · refine KO.q rfl (q_field fo_33_4 rfl) ?_
                          refine KO.q rfl (q_load1D ck_31 rfl) ?_
                          refine KO.q rfl (q_field fo_24_0 rfl) ?_
                          refine KO.q rfl (q_load1D ck_3 rfl) ?_
                          refine KO.loud rfl (OpL.callD rfl (h := ref_messages _ _ _ _ _ (by first | omega | (simp; omega)))) ?_
                          rintro _ _ ⟨_, ⟨rfl, rfl⟩, rfl⟩
                          refine KO.q rfl (q_not rfl) ?_
                          refine KO.q rfl (q_pickF rfl rfl) ?_
                          refine KO.q rfl (q_move rfl) ?_
                          refine KO.split 107 rfl (fun g107 => ?_) (fun g107 => ?_)
                          · refine KO.skip rfl ?_
                            refine KO.skip rfl ?_
                            refine KO.skip rfl ?_
                            refine KO.skip rfl ?_
                            refine KO.skip rfl ?_
                            refine KO.skip rfl ?_
                            refine KO.q rfl (q_pickT rfl rfl) ?_
                            refine KO.done ?_
                            exact K.subE (by repeat (first | exact Env.sub_nil _ | refine Env.sub_cons rfl ?_)) (cont _ (by clear ih; rw [Bool.eq_iff_iff]; simp_all [objB] <;> first | omega | (intros; omega)))
                          · refine KO.q rfl (q_field fo_33_5 rfl) ?_
                            refine KO.q rfl (q_load1D ck_31 rfl) ?_
                            refine KO.q rfl (q_field fo_24_0 rfl) ?_
                            refine KO.q rfl (q_load1D ck_3 rfl) ?_
                            refine KO.loud rfl (OpL.callD rfl (h := ref_messages _ _ _ _ _ (by first | omega | (simp; omega)))) ?_
                            rintro _ _ ⟨_, ⟨rfl, rfl⟩, rfl⟩
                            refine KO.q rfl (q_not rfl) ?_
                            refine KO.q rfl (q_pickF rfl rfl) ?_
                            refine KO.done ?_
                            exact K.subE (by repeat (first | exact Env.sub_nil _ | refine Env.sub_cons rfl ?_)) (cont _ (by clear ih; rw [Bool.eq_iff_iff]; simp_all [objB] <;> first | omega | (intros; omega)))
                · refine KO.skip rfl ?_
                  refine KO.skip rfl ?_
                  refine KO.skip rfl ?_
                  refine KO.skip rfl ?_
                  refine KO.skip rfl ?_
                  refine KO.skip rfl ?_
                  refine KO.skip rfl ?_
                  refine KO.skip rfl ?_
                  refine KO.q rfl (q_pickF rfl rfl) ?_
                  refine KO.q rfl (q_move rfl) ?_
                  refine KO.q rfl (q_field fo_33_1 rfl) ?_
                  refine KO.q rfl (q_load1D ck_3 rfl) ?_
                  refine KO.q rfl (q_eq rfl rfl) ?_
                  refine KO.q rfl (q_move rfl) ?_
                  refine KO.dsplit 80 rfl (fun g80 => ?_) (fun g80 => ?_)
                  · refine KO.q rfl (q_field fo_33_3 rfl) ?_
                    refine KO.q rfl (q_load1D ck_30 rfl) ?_
                    refine KO.q rfl (q_len Tryz.underlying30 rfl) ?_
                    refine KO.q rfl (q_gt rfl rfl) ?_
                    refine KO.q rfl (q_pickT rfl rfl) ?_
                    refine KO.q rfl (q_pickF rfl rfl) ?_
                    refine KO.q rfl (q_move rfl) ?_
                    refine KO.dsplit 87 rfl (fun g87 => ?_) (fun g87 => ?_)
                    · refine KO.skip rfl ?_
                      refine KO.skip rfl ?_
                      refine KO.skip rfl ?_
                      refine KO.skip rfl ?_
                      refine KO.q rfl (q_pickT rfl rfl) ?_
                      refine KO.q rfl (q_move rfl) ?_
                      refine KO.skip rfl ?_
                      refine KO.skip rfl ?_
                      refine KO.skip rfl ?_
                      refine KO.skip rfl ?_
                      refine KO.q rfl (q_pickT rfl rfl) ?_
                      refine KO.q rfl (q_move rfl) ?_
                      refine KO.skip rfl ?_
                      refine KO.skip rfl ?_
                      refine KO.skip rfl ?_
                      refine KO.skip rfl ?_
                      refine KO.skip rfl ?_
                      refine KO.skip rfl ?_
                      refine KO.q rfl (q_pickT rfl rfl) ?_
                      refine KO.q rfl (q_move rfl) ?_
                      refine KO.skip rfl ?_
                      refine KO.skip rfl ?_
                      refine KO.skip rfl ?_
                      refine KO.skip rfl ?_
                      refine KO.skip rfl ?_
                      refine KO.skip rfl ?_
                      refine KO.q rfl (q_pickT rfl rfl) ?_
                      refine KO.done ?_
                      exact K.subE (by repeat (first | exact Env.sub_nil _ | refine Env.sub_cons rfl ?_)) (cont _ (by clear ih; rw [Bool.eq_iff_iff]; simp_all [objB] <;> first | omega | (intros; omega)))
                    · refine KO.q rfl (q_field fo_33_3 rfl) ?_
                      refine KO.q rfl (q_load1D ck_30 rfl) ?_
                      refine KO.loud rfl (OpL.callD rfl (h := ref_Rises _ _ _ (by first | omega | (simp; omega)) (by assumption))) ?_
                      rintro _ _ ⟨_, ⟨rfl, rfl⟩, rfl⟩
                      refine KO.q rfl (q_not rfl) ?_
                      refine KO.q rfl (q_pickF rfl rfl) ?_
                      refine KO.q rfl (q_move rfl) ?_
                      refine KO.split 93 rfl (fun g93 => ?_) (fun g93 => ?_)
                      · refine KO.skip rfl ?_
                        refine KO.skip rfl ?_
                        refine KO.skip rfl ?_
                        refine KO.skip rfl ?_
                        refine KO.q rfl (q_pickT rfl rfl) ?_
                        refine KO.q rfl (q_move rfl) ?_
                        refine KO.skip rfl ?_
                        refine KO.skip rfl ?_
                        refine KO.skip rfl ?_
                        refine KO.skip rfl ?_
                        refine KO.skip rfl ?_
                        refine KO.skip rfl ?_
                        refine KO.q rfl (q_pickT rfl rfl) ?_
                        refine KO.q rfl (q_move rfl) ?_
                        refine KO.skip rfl ?_
                        refine KO.skip rfl ?_
                        refine KO.skip rfl ?_
                        refine KO.skip rfl ?_
                        refine KO.skip rfl ?_
                        refine KO.skip rfl ?_
                        refine KO.q rfl (q_pickT rfl rfl) ?_
                        refine KO.done ?_
                        exact K.subE (by repeat (first | exact Env.sub_nil _ | refine Env.sub_cons rfl ?_)) (cont _ (by clear ih; rw [Bool.eq_iff_iff]; simp_all [objB] <;> first | omega | (intros; omega)))
                      · refine KO.q rfl (q_field fo_33_4 rfl) ?_
                        refine KO.q rfl (q_load1D ck_31 rfl) ?_
                        refine KO.loud rfl (OpL.callD rfl (h := ref_RisesMsgs _ _ _ (by first | omega | (simp; omega)))) ?_
                        rintro _ _ ⟨_, ⟨rfl, rfl⟩, rfl⟩
                        refine KO.q rfl (q_not rfl) ?_
                        refine KO.q rfl (q_pickF rfl rfl) ?_
                        refine KO.q rfl (q_move rfl) ?_
                        refine KO.split 99 rfl (fun g99 => ?_) (fun g99 => ?_)
                        · refine KO.skip rfl ?_
                          refine KO.skip rfl ?_
                          refine KO.skip rfl ?_
                          refine KO.skip rfl ?_
                          refine KO.skip rfl ?_
                          refine KO.skip rfl ?_
                          refine KO.q rfl (q_pickT rfl rfl) ?_
                          refine KO.q rfl (q_move rfl) ?_
                          refine KO.skip rfl ?_
                          refine KO.skip rfl ?_
                          refine KO.skip rfl ?_
                          refine KO.skip rfl ?_
                          refine KO.skip rfl ?_
                          refine KO.skip rfl ?_
                          refine KO.q rfl (q_pickT rfl rfl) ?_
                          refine KO.done ?_
                          exact K.subE (by repeat (first | exact Env.sub_nil _ | refine Env.sub_cons rfl ?_)) (cont _ (by clear ih; rw [Bool.eq_iff_iff]; simp_all [objB] <;> first | omega | (intros; omega)))
                        · refine KO.q rfl (q_field fo_33_4 rfl) ?_
                          refine KO.q rfl (q_load1D ck_31 rfl) ?_
                          refine KO.q rfl (q_field fo_24_0 rfl) ?_
                          refine KO.q rfl (q_load1D ck_3 rfl) ?_
                          refine KO.loud rfl (OpL.callD rfl (h := ref_messages _ _ _ _ _ (by first | omega | (simp; omega)))) ?_
                          rintro _ _ ⟨_, ⟨rfl, rfl⟩, rfl⟩
                          refine KO.q rfl (q_not rfl) ?_
                          refine KO.q rfl (q_pickF rfl rfl) ?_
                          refine KO.q rfl (q_move rfl) ?_
                          refine KO.split 107 rfl (fun g107 => ?_) (fun g107 => ?_)
                          · refine KO.skip rfl ?_
                            refine KO.skip rfl ?_
                            refine KO.skip rfl ?_
                            refine KO.skip rfl ?_
                            refine KO.skip rfl ?_
                            refine KO.skip rfl ?_
                            refine KO.q rfl (q_pickT rfl rfl) ?_
                            refine KO.done ?_
                            exact K.subE (by repeat (first | exact Env.sub_nil _ | refine Env.sub_cons rfl ?_)) (cont _ (by clear ih; rw [Bool.eq_iff_iff]; simp_all [objB] <;> first | omega | (intros; omega)))
                          · refine KO.q rfl (q_field fo_33_5 rfl) ?_
                            refine KO.q rfl (q_load1D ck_31 rfl) ?_
                            refine KO.q rfl (q_field fo_24_0 rfl) ?_
                            refine KO.q rfl (q_load1D ck_3 rfl) ?_
                            refine KO.loud rfl (OpL.callD rfl (h := ref_messages _ _ _ _ _ (by first | omega | (simp; omega)))) ?_
                            rintro _ _ ⟨_, ⟨rfl, rfl⟩, rfl⟩
                            refine KO.q rfl (q_not rfl) ?_
                            refine KO.q rfl (q_pickF rfl rfl) ?_
                            refine KO.done ?_
                            exact K.subE (by repeat (first | exact Env.sub_nil _ | refine Env.sub_cons rfl ?_)) (cont _ (by clear ih; rw [Bool.eq_iff_iff]; simp_all [objB] <;> first | omega | (intros; omega)))
                  · refine KO.skip rfl ?_
                    refine KO.skip rfl ?_
                    refine KO.skip rfl ?_
                    refine KO.skip rfl ?_
                    refine KO.q rfl (q_pickF rfl rfl) ?_
                    refine KO.q rfl (q_pickF rfl rfl) ?_
                    refine KO.q rfl (q_move rfl) ?_
                    refine KO.q rfl (q_field fo_33_3 rfl) ?_
                    refine KO.q rfl (q_load1D ck_30 rfl) ?_
                    refine KO.loud rfl (OpL.callD rfl (h := ref_Rises _ _ _ (by first | omega | (simp; omega)) (by assumption))) ?_
                    rintro _ _ ⟨_, ⟨rfl, rfl⟩, rfl⟩
                    refine KO.q rfl (q_not rfl) ?_
                    refine KO.q rfl (q_pickF rfl rfl) ?_
                    refine KO.q rfl (q_move rfl) ?_
                    refine KO.split 93 rfl (fun g93 => ?_) (fun g93 => ?_)
                    · refine KO.skip rfl ?_
                      refine KO.skip rfl ?_
                      refine KO.skip rfl ?_
                      refine KO.skip rfl ?_
                      refine KO.q rfl (q_pickT rfl rfl) ?_
                      refine KO.q rfl (q_move rfl) ?_
                      refine KO.skip rfl ?_
                      refine KO.skip rfl ?_
                      refine KO.skip rfl ?_
                      refine KO.skip rfl ?_
                      refine KO.skip rfl ?_
                      refine KO.skip rfl ?_
                      refine KO.q rfl (q_pickT rfl rfl) ?_
                      refine KO.q rfl (q_move rfl) ?_
                      refine KO.skip rfl ?_
                      refine KO.skip rfl ?_
                      refine KO.skip rfl ?_
                      refine KO.skip rfl ?_
                      refine KO.skip rfl ?_
                      refine KO.skip rfl ?_
                      refine KO.q rfl (q_pickT rfl rfl) ?_
                      refine KO.done ?_
                      exact K.subE (by repeat (first | exact Env.sub_nil _ | refine Env.sub_cons rfl ?_)) (cont _ (by clear ih; rw [Bool.eq_iff_iff]; simp_all [objB] <;> first | omega | (intros; omega)))
                    · refine KO.q rfl (q_field fo_33_4 rfl) ?_
                      refine KO.q rfl (q_load1D ck_31 rfl) ?_
                      refine KO.loud rfl (OpL.callD rfl (h := ref_RisesMsgs _ _ _ (by first | omega | (simp; omega)))) ?_
                      rintro _ _ ⟨_, ⟨rfl, rfl⟩, rfl⟩
                      refine KO.q rfl (q_not rfl) ?_
                      refine KO.q rfl (q_pickF rfl rfl) ?_
                      refine KO.q rfl (q_move rfl) ?_
                      refine KO.split 99 rfl (fun g99 => ?_) (fun g99 => ?_)
                      · refine KO.skip rfl ?_
                        refine KO.skip rfl ?_
                        refine KO.skip rfl ?_
                        refine KO.skip rfl ?_
                        refine KO.skip rfl ?_
                        refine KO.skip rfl ?_
                        refine KO.q rfl (q_pickT rfl rfl) ?_
                        refine KO.q rfl (q_move rfl) ?_
                        refine KO.skip rfl ?_
                        refine KO.skip rfl ?_
                        refine KO.skip rfl ?_
                        refine KO.skip rfl ?_
                        refine KO.skip rfl ?_
                        refine KO.skip rfl ?_
                        refine KO.q rfl (q_pickT rfl rfl) ?_
                        refine KO.done ?_
                        exact K.subE (by repeat (first | exact Env.sub_nil _ | refine Env.sub_cons rfl ?_)) (cont _ (by clear ih; rw [Bool.eq_iff_iff]; simp_all [objB] <;> first | omega | (intros; omega)))
                      · refine KO.q rfl (q_field fo_33_4 rfl) ?_
                        refine KO.q rfl (q_load1D ck_31 rfl) ?_
                        refine KO.q rfl (q_field fo_24_0 rfl) ?_
                        refine KO.q rfl (q_load1D ck_3 rfl) ?_
                        refine KO.loud rfl (OpL.callD rfl (h := ref_messages _ _ _ _ _ (by first | omega | (simp; omega)))) ?_
                        rintro _ _ ⟨_, ⟨rfl, rfl⟩, rfl⟩
                        refine KO.q rfl (q_not rfl) ?_
                        refine KO.q rfl (q_pickF rfl rfl) ?_
                        refine KO.q rfl (q_move rfl) ?_
                        refine KO.split 107 rfl (fun g107 => ?_) (fun g107 => ?_)
                        · refine KO.skip rfl ?_
                          refine KO.skip rfl ?_
                          refine KO.skip rfl ?_
                          refine KO.skip rfl ?_
                          refine KO.skip rfl ?_
                          refine KO.skip rfl ?_
                          refine KO.q rfl (q_pickT rfl rfl) ?_
                          refine KO.done ?_
                          exact K.subE (by repeat (first | exact Env.sub_nil _ | refine Env.sub_cons rfl ?_)) (cont _ (by clear ih; rw [Bool.eq_iff_iff]; simp_all [objB] <;> first | omega | (intros; omega)))
                        · refine KO.q rfl (q_field fo_33_5 rfl) ?_
                          refine KO.q rfl (q_load1D ck_31 rfl) ?_
                          refine KO.q rfl (q_field fo_24_0 rfl) ?_
                          refine KO.q rfl (q_load1D ck_3 rfl) ?_
                          refine KO.loud rfl (OpL.callD rfl (h := ref_messages _ _ _ _ _ (by first | omega | (simp; omega)))) ?_
                          rintro _ _ ⟨_, ⟨rfl, rfl⟩, rfl⟩
                          refine KO.q rfl (q_not rfl) ?_
                          refine KO.q rfl (q_pickF rfl rfl) ?_
                          refine KO.done ?_
                          exact K.subE (by repeat (first | exact Env.sub_nil _ | refine Env.sub_cons rfl ?_)) (cont _ (by clear ih; rw [Bool.eq_iff_iff]; simp_all [objB] <;> first | omega | (intros; omega)))
              · refine K.bcond (s := 114) rfl (fun g114 => ?_) (fun g114 => ?_)
                · refine K.seq ?_
                  have hr : s.st.right = false := not_right ho (fun hf => by rw [hy114, hf.h2] at g114; cases g114)
                  rw [hr]
                  refine K.region ?_
                  refine KO.q rfl (q_assign rfl) ?_
                  refine KO.done ?_
                  refine K.ret (fn := Tryz.f7) Tryz.func7 (fun a w hk hs => res1 Tryz.results7 hk rfl) (fun w hs => ?_)
                  exact ⟨_, [], rfl, ⟨rfl, rfl⟩, hs.fitD⟩
                · refine K.skip <| K.seq <| K.seq ?_
                  have hh1 : headB i p.x o.x = true := by rw [g62] at hy62; simpa using hy62.symm
                  have hh2 : objB o.x s.next = true := by rw [g114] at hy114; simpa using hy114.symm
                  refine K.region ?_
                  refine KO.q rfl (q_assign rfl) ?_
                  refine KO.done ?_
                  refine K.block ?_
                  refine K.rounds2 (ι := { x : Nat // x ≤ o.x.rows.length ∧ (o.x.rows.take x).all Rw.right = true }) (fun x => [(5, .int .i64 x.1), (4, .pointer (some ⟨b4, 0, none⟩)), (3, .int .i64 i), (1, .pointer (some ⟨b1, 0, none⟩))]) (fun x => pv b4 33 o.cells :: ObL o ++ [pv b1 24 s.cells, RowF Kd.oz s.q s.l, NestF s.l] ++ L) (fun x => o.x.rows.length - x.1) ⟨0, Nat.zero_le _, rfl⟩ (by repeat (first | exact Env.sub_nil _ | refine Env.sub_cons rfl ?_)) (fun w h => h.fitD) (fun x ih2 => ?_)
                  obtain ⟨k, hk, hra⟩ := x
                  dsimp only at hk hra ⊢
                  refine K.seq <| K.seq ?_
                  refine K.region ?_
                  refine KO.q rfl (q_move rfl) ?_
                  refine KO.q rfl (q_field fo_33_3 rfl) ?_
                  refine KO.q rfl (q_load1D ck_30 rfl) ?_
                  refine KO.q rfl (q_len Tryz.underlying30 rfl) ?_
                  refine KO.q rfl (q_lt rfl rfl) ?_
                  refine KO.done ?_
                  refine K.dcond (s := 119) rfl (fun g119 => ?_) (fun g119 => ?_)
                  · obtain ⟨r, hr⟩ : ∃ e, o.x.rows[k]? = some e := ⟨_, List.getElem?_eq_getElem (by omega)⟩
                    refine K.skip <| K.seq <| K.block <| K.seq ?_
                    refine K.region ?_
                    refine KO.q rfl (q_field fo_33_3 rfl) ?_
                    refine KO.q rfl (q_load1D ck_30 rfl) ?_
                    refine KO.q rfl (q_move rfl) ?_
                    first | refine KO.q rfl (q_ix _ se_30 rfl rfl rfl isF (by repeat (first | exact List.Mem.head _ | apply List.Mem.tail)) rfl (by first | assumption | omega | exact (List.getElem?_eq_some_iff.1 (by assumption)).1 | (simp; omega))) ?_ | refine KO.q rfl (q_ix _ se_30 rfl rfl rfl isO (by repeat (first | exact List.Mem.head _ | apply List.Mem.tail)) rfl (by first | assumption | omega | exact (List.getElem?_eq_some_iff.1 (by assumption)).1 | (simp; omega))) ?_
                    first | refine KO.q rfl (q_ldEN ck_29 rfl isF (by repeat (first | exact List.Mem.head _ | apply List.Mem.tail)) (by first | assumption | exact List.getElem?_eq_getElem (by first | assumption | omega | (simp; omega)))) ?_ | refine KO.q rfl (q_ldEN ck_29 rfl isO (by repeat (first | exact List.Mem.head _ | apply List.Mem.tail)) (by first | assumption | exact List.getElem?_eq_getElem (by first | assumption | omega | (simp; omega)))) ?_
                    refine KO.loud rfl (OpL.callD rfl (h := ref_RightRow _)) ?_
                    rintro _ _ ⟨_, ⟨rfl, rfl⟩, rfl⟩
                    refine KO.q rfl (q_not rfl) ?_
                    refine KO.done ?_
                    refine K.bcond (s := 128) rfl (fun g128 => ?_) (fun g128 => ?_)
                    · refine K.seq ?_
                      have hr : s.st.right = false := not_right ho (fun hf => by
                        have := List.all_eq_true.1 hf.rows r (List.mem_of_getElem? hr)
                        simp [this] at g128)
                      rw [hr]
                      refine K.region ?_
                      refine KO.q rfl (q_assign rfl) ?_
                      refine KO.done ?_
                      refine K.ret (fn := Tryz.f7) Tryz.func7 (fun a w hk hs => res1 Tryz.results7 hk rfl) (fun w hs => ?_)
                      exact ⟨_, [], rfl, ⟨rfl, rfl⟩, hs.fitD⟩
                    · refine K.skip <| K.inBlock ?_
                      refine K.region ?_
                      refine KO.q rfl (q_move rfl) ?_
                      refine KO.q rfl (q_add rfl rfl (by first | omega | (simp; omega)) (by first | omega | (simp; omega))) ?_
                      refine KO.q rfl (q_assign rfl) ?_
                      refine KO.done ?_
                      refine K.weak (by repeat (first | exact Env.sub_nil _ | refine Env.sub_cons rfl ?_)) (fun w h => h.fitD) (ih2 ⟨k + 1, by omega, by rw [all_take_succ hr, hra]; simpa using g128⟩ (by show o.x.rows.length - (k + 1) < o.x.rows.length - k; omega))
                  · obtain rfl : k = o.x.rows.length := by omega
                    rw [List.take_length] at hra
                    refine K.exit rfl ?_
                    refine K.seq <| K.seq ?_
                    refine K.region ?_
                    refine KO.q rfl (q_assign rfl) ?_
                    refine KO.done ?_
                    refine K.block ?_
                    refine K.rounds2 (ι := { x : Nat // x ≤ o.x.msgs.length ∧ ∀ m ∈ o.x.msgs.take x, s.st.ids.count m.id = 1 }) (fun x => [(6, .int .i64 x.1), (4, .pointer (some ⟨b4, 0, none⟩)), (3, .int .i64 i), (1, .pointer (some ⟨b1, 0, none⟩))]) (fun x => pv b4 33 o.cells :: ObL o ++ [pv b1 24 s.cells, RowF Kd.oz s.q s.l, NestF s.l] ++ L) (fun x => o.x.msgs.length - x.1) ⟨0, Nat.zero_le _, by simp⟩ (by repeat (first | exact Env.sub_nil _ | refine Env.sub_cons rfl ?_)) (fun w h => h.fitD) (fun x ih3 => ?_)
                    obtain ⟨k2, hk2, hma⟩ := x
                    dsimp only at hk2 hma ⊢
                    refine K.seq <| K.seq ?_
                    refine K.region ?_
                    refine KO.q rfl (q_move rfl) ?_
                    refine KO.q rfl (q_field fo_33_4 rfl) ?_
                    refine KO.q rfl (q_load1D ck_31 rfl) ?_
                    refine KO.q rfl (q_len Tryz.underlying31 rfl) ?_
                    refine KO.q rfl (q_lt rfl rfl) ?_
                    refine KO.done ?_
                    refine K.dcond (s := 133) rfl (fun g133 => ?_) (fun g133 => ?_)
                    · obtain ⟨m, hm⟩ : ∃ e, o.x.msgs[k2]? = some e := ⟨_, List.getElem?_eq_getElem (by omega)⟩
                      refine K.skip <| K.seq <| K.block <| K.seq ?_
                      refine K.drawU (by repeat (first | apply SubL.pers | apply SubL.own (b := b1) | apply SubL.own (b := b4) | apply SubL.drop | exact SubL.none)) mixed ?_
                      refine D.q 0 rfl (by kernel_rfl) (by kernel_rfl) (q_loadN ck_24 rfl rfl (by first | (apply cells_pv; (repeat (first | exact List.Mem.head _ | apply List.Mem.tail))) | (apply cells_fv; (repeat (first | exact List.Mem.head _ | apply List.Mem.tail))))) (fun _ h => h.subD) ?_
                      refine D.q 1 rfl (by kernel_rfl) (by kernel_rfl) (q_field fo_33_4 rfl) (fun _ h => h.subD) ?_
                      refine D.q 2 rfl (by kernel_rfl) (by kernel_rfl) (q_load1D ck_31 rfl) (fun _ h => h.subD) ?_
                      refine D.q 3 rfl (by kernel_rfl) (by kernel_rfl) (q_move rfl) (fun _ h => h.subD) ?_
                      first | refine D.q 4 rfl (by kernel_rfl) (by kernel_rfl) (q_ix _ se_31 rfl rfl rfl isF (by repeat (first | exact List.Mem.head _ | apply List.Mem.tail)) rfl (by first | assumption | omega | exact (List.getElem?_eq_some_iff.1 (by assumption)).1 | (simp; omega))) (fun _ h => h.subD) ?_ | refine D.q 4 rfl (by kernel_rfl) (by kernel_rfl) (q_ix _ se_31 rfl rfl rfl isO (by repeat (first | exact List.Mem.head _ | apply List.Mem.tail)) rfl (by first | assumption | omega | exact (List.getElem?_eq_some_iff.1 (by assumption)).1 | (simp; omega))) (fun _ h => h.subD) ?_
                      refine D.q 5 rfl (by kernel_rfl) (by kernel_rfl) (q_fieldE fo_39_0 rfl) (fun _ h => h.subD) ?_
                      first | refine D.q 6 rfl (by kernel_rfl) (by kernel_rfl) (q_ldE ck_3 rfl isF (by repeat (first | exact List.Mem.head _ | apply List.Mem.tail)) (by first | assumption | exact List.getElem?_eq_getElem (by first | assumption | omega | (simp; omega))) rfl) (fun _ h => h.subD) ?_ | refine D.q 6 rfl (by kernel_rfl) (by kernel_rfl) (q_ldE ck_3 rfl isO (by repeat (first | exact List.Mem.head _ | apply List.Mem.tail)) (by first | assumption | exact List.getElem?_eq_getElem (by first | assumption | omega | (simp; omega))) rfl) (fun _ h => h.subD) ?_
                      refine D.all (rs := [7]) (by kernel_rfl) rfl (DAll.cons rfl (by kernel_rfl) (OpL.callD rfl (h := ref_total _ _ (by assumption) (by assumption))) (.inr (by rintro _ _ ⟨_, ⟨rfl, rfl⟩, rfl⟩ w h; exact h.subD)) rfl ?_ DAll.nil)
                      rintro _ _ ⟨_, ⟨rfl, rfl⟩, rfl⟩
                      refine D.q 8 rfl (by kernel_rfl) (by kernel_rfl) (q_ne rfl rfl) (fun _ h => h.subD) ?_
                      refine D.done (by kernel_rfl) ?_
                      refine K.dcond (s := 144) rfl (fun g144 => ?_) (fun g144 => ?_)
                      · refine K.seq ?_
                        have hr : s.st.right = false := not_right ho (fun hf => by
                          have := hf.c1 m (List.mem_of_getElem? hm)
                          rw [this] at g144
                          exact g144 rfl)
                        rw [hr]
                        refine K.region ?_
                        refine KO.q rfl (q_assign rfl) ?_
                        refine KO.done ?_
                        refine K.ret (fn := Tryz.f7) Tryz.func7 (fun a w hk hs => res1 Tryz.results7 hk rfl) (fun w hs => ?_)
                        exact ⟨_, [], rfl, ⟨rfl, rfl⟩, hs.fitD⟩
                      · refine K.skip <| K.inBlock ?_
                        refine K.region ?_
                        refine KO.q rfl (q_move rfl) ?_
                        refine KO.q rfl (q_add rfl rfl (by first | omega | (simp; omega)) (by first | omega | (simp; omega))) ?_
                        refine KO.q rfl (q_assign rfl) ?_
                        refine KO.done ?_
                        refine K.weak (by repeat (first | exact Env.sub_nil _ | refine Env.sub_cons rfl ?_)) (fun w h => h.fitD) (ih3 ⟨k2 + 1, by omega, fun x hx => by
                          rw [List.take_add_one, hm] at hx
                          rcases List.mem_append.1 hx with h | h
                          · exact hma x h
                          · rw [List.mem_singleton.1 h]; have := Decidable.not_not.1 g144; omega⟩ (by show o.x.msgs.length - (k2 + 1) < o.x.msgs.length - k2; omega))
                    · obtain rfl : k2 = o.x.msgs.length := by omega
                      rw [List.take_length] at hma
                      refine K.exit rfl ?_
                      refine K.seq ?_
                      refine K.region ?_
                      refine KO.q rfl (q_assign rfl) ?_
                      refine KO.done ?_
                      refine K.block ?_
                      refine K.rounds2 (ι := { x : Nat // x ≤ o.x.dead.length ∧ ∀ m ∈ o.x.dead.take x, s.st.ids.count m.id = 1 }) (fun x => [(7, .int .i64 x.1), (4, .pointer (some ⟨b4, 0, none⟩)), (3, .int .i64 i), (1, .pointer (some ⟨b1, 0, none⟩))]) (fun x => pv b4 33 o.cells :: ObL o ++ [pv b1 24 s.cells, RowF Kd.oz s.q s.l, NestF s.l] ++ L) (fun x => o.x.dead.length - x.1) ⟨0, Nat.zero_le _, by simp⟩ (by repeat (first | exact Env.sub_nil _ | refine Env.sub_cons rfl ?_)) (fun w h => h.fitD) (fun x ih4 => ?_)
                      obtain ⟨k3, hk3, hda⟩ := x
                      dsimp only at hk3 hda ⊢
                      refine K.seq <| K.seq ?_
                      refine K.region ?_
                      refine KO.q rfl (q_move rfl) ?_
                      refine KO.q rfl (q_field fo_33_5 rfl) ?_
                      refine KO.q rfl (q_load1D ck_31 rfl) ?_
                      refine KO.q rfl (q_len Tryz.underlying31 rfl) ?_
                      refine KO.q rfl (q_lt rfl rfl) ?_
                      refine KO.done ?_
                      refine K.dcond (s := 149) rfl (fun g149 => ?_) (fun g149 => ?_)
                      · obtain ⟨m, hm⟩ : ∃ e, o.x.dead[k3]? = some e := ⟨_, List.getElem?_eq_getElem (by omega)⟩
                        refine K.skip <| K.seq <| K.block <| K.seq ?_
                        refine K.drawU (by repeat (first | apply SubL.pers | apply SubL.own (b := b1) | apply SubL.own (b := b4) | apply SubL.drop | exact SubL.none)) mixed ?_
                        refine D.q 0 rfl (by kernel_rfl) (by kernel_rfl) (q_loadN ck_24 rfl rfl (by first | (apply cells_pv; (repeat (first | exact List.Mem.head _ | apply List.Mem.tail))) | (apply cells_fv; (repeat (first | exact List.Mem.head _ | apply List.Mem.tail))))) (fun _ h => h.subD) ?_
                        refine D.q 1 rfl (by kernel_rfl) (by kernel_rfl) (q_field fo_33_5 rfl) (fun _ h => h.subD) ?_
                        refine D.q 2 rfl (by kernel_rfl) (by kernel_rfl) (q_load1D ck_31 rfl) (fun _ h => h.subD) ?_
                        refine D.q 3 rfl (by kernel_rfl) (by kernel_rfl) (q_move rfl) (fun _ h => h.subD) ?_
                        first | refine D.q 4 rfl (by kernel_rfl) (by kernel_rfl) (q_ix _ se_31 rfl rfl rfl isF (by repeat (first | exact List.Mem.head _ | apply List.Mem.tail)) rfl (by first | assumption | omega | exact (List.getElem?_eq_some_iff.1 (by assumption)).1 | (simp; omega))) (fun _ h => h.subD) ?_ | refine D.q 4 rfl (by kernel_rfl) (by kernel_rfl) (q_ix _ se_31 rfl rfl rfl isO (by repeat (first | exact List.Mem.head _ | apply List.Mem.tail)) rfl (by first | assumption | omega | exact (List.getElem?_eq_some_iff.1 (by assumption)).1 | (simp; omega))) (fun _ h => h.subD) ?_
                        refine D.q 5 rfl (by kernel_rfl) (by kernel_rfl) (q_fieldE fo_39_0 rfl) (fun _ h => h.subD) ?_
                        first | refine D.q 6 rfl (by kernel_rfl) (by kernel_rfl) (q_ldE ck_3 rfl isF (by repeat (first | exact List.Mem.head _ | apply List.Mem.tail)) (by first | assumption | exact List.getElem?_eq_getElem (by first | assumption | omega | (simp; omega))) rfl) (fun _ h => h.subD) ?_ | refine D.q 6 rfl (by kernel_rfl) (by kernel_rfl) (q_ldE ck_3 rfl isO (by repeat (first | exact List.Mem.head _ | apply List.Mem.tail)) (by first | assumption | exact List.getElem?_eq_getElem (by first | assumption | omega | (simp; omega))) rfl) (fun _ h => h.subD) ?_
                        refine D.all (rs := [7]) (by kernel_rfl) rfl (DAll.cons rfl (by kernel_rfl) (OpL.callD rfl (h := ref_total _ _ (by assumption) (by assumption))) (.inr (by rintro _ _ ⟨_, ⟨rfl, rfl⟩, rfl⟩ w h; exact h.subD)) rfl ?_ DAll.nil)
                        rintro _ _ ⟨_, ⟨rfl, rfl⟩, rfl⟩
                        refine D.q 8 rfl (by kernel_rfl) (by kernel_rfl) (q_ne rfl rfl) (fun _ h => h.subD) ?_
                        refine D.done (by kernel_rfl) ?_
                        refine K.dcond (s := 160) rfl (fun g160 => ?_) (fun g160 => ?_)
                        · refine K.seq ?_
                          have hr : s.st.right = false := not_right ho (fun hf => by
                            have := hf.c2 m (List.mem_of_getElem? hm)
                            rw [this] at g160
                            exact g160 rfl)
                          rw [hr]
                          refine K.region ?_
                          refine KO.q rfl (q_assign rfl) ?_
                          refine KO.done ?_
                          refine K.ret (fn := Tryz.f7) Tryz.func7 (fun a w hk hs => res1 Tryz.results7 hk rfl) (fun w hs => ?_)
                          exact ⟨_, [], rfl, ⟨rfl, rfl⟩, hs.fitD⟩
                        · refine K.skip <| K.inBlock ?_
                          refine K.region ?_
                          refine KO.q rfl (q_move rfl) ?_
                          refine KO.q rfl (q_add rfl rfl (by first | omega | (simp; omega)) (by first | omega | (simp; omega))) ?_
                          refine KO.q rfl (q_assign rfl) ?_
                          refine KO.done ?_
                          refine K.weak (by repeat (first | exact Env.sub_nil _ | refine Env.sub_cons rfl ?_)) (fun w h => h.fitD) (ih4 ⟨k3 + 1, by omega, fun x hx => by
                            rw [List.take_add_one, hm] at hx
                            rcases List.mem_append.1 hx with h | h
                            · exact hda x h
                            · rw [List.mem_singleton.1 h]; have := Decidable.not_not.1 g160; omega⟩ (by show o.x.dead.length - (k3 + 1) < o.x.dead.length - k3; omega))
                      · obtain rfl : k3 = o.x.dead.length := by omega
                        rw [List.take_length] at hda
                        have hthis : RF s i o := ⟨fun p' hp' => by rw [hp] at hp'; obtain rfl := Option.some.inj hp'; exact hh1, hh2, hra, hma, hda⟩
                        refine K.exit rfl ?_
                        refine K.inBlock ?_
                        refine K.region ?_
                        refine KO.q rfl (q_move rfl) ?_
                        refine KO.q rfl (q_add rfl rfl (by first | omega | (simp; omega)) (by first | omega | (simp; omega))) ?_
                        refine KO.q rfl (q_assign rfl) ?_
                        refine KO.done ?_
                        refine K.weak (by repeat (first | exact Env.sub_nil _ | refine Env.sub_cons rfl ?_)) (fun w h => h.fitD) (ih ⟨i + 1, by omega, fun j hj o' ho' => by
                          by_cases e : j < i
                          · exact hrf j e o' ho'
                          · obtain rfl : j = i := by omega
                            rw [ho] at ho'; obtain rfl := Option.some.inj ho'; exact hthis⟩ (by show s.l.length - (i + 1) < s.l.length - i; omega))
        · obtain rfl : i = s.l.length := by omega
          have hr : s.st.right = true := right_iff.2 ⟨hrange, fun j o ho => hrf j (List.getElem?_eq_some_iff.1 ho).1 o ho⟩
          rw [hr]
          refine K.exit rfl ?_
          refine K.seq ?_
          refine K.region ?_
          refine KO.q rfl (q_assign rfl) ?_
          refine KO.done ?_
          refine K.ret (fn := Tryz.f7) Tryz.func7 (fun a w hk hs => res1 Tryz.results7 hk rfl) (fun w hs => ?_)
          exact ⟨_, [], rfl, ⟨rfl, rfl⟩, hs.fitD⟩
end Go.Proofs.YthnmoiilaaoooaaGreat.L
