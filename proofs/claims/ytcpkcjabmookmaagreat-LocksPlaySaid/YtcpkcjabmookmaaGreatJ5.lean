/- Walks: the locks' table: asking. -/
import Derived.Test.YtcpkcjabmookmaaGreatPT
namespace Go.Proofs.YtcpkcjabmookmaaGreat.L
open Go Go.Proofs
attribute [local irreducible] pv fv pt fz RowF RowO rowP old pure_ elA
set_option maxRecDepth 100000
set_option linter.unusedSimpArgs false
set_option linter.unusedVariables false

theorem tb_fin {t : Nat} {n : Int} {q : Option Addr} {c : Nat} {es : List E} {i : Nat} {nm' : Nm} {bb : Nat} {k k' : Lk} {ρ : World} {L : List HP} {w : World} (he : es[i]? = some ⟨nm', some bb, k⟩) (h : St ρ ([LkX bb k', AllO LkE (es.eraseIdx i), pv t 53 [.int .i64 n, .slice q es.length c], RowO Kd.e 63 q c es] ++ L) w) :
    St ρ ((TbE t n q c (es.set i ⟨nm', some bb, k'⟩) ++ [AllO LkE (es.set i ⟨nm', some bb, k'⟩)]) ++ L) w := by
  have h1 := tb_close (e := ⟨nm', some bb, k'⟩) rfl (List.getElem?_eq_some_iff.1 he).1 h
  have h2 := rowO_cells (hl := e_sz) (h1 := e_one) (map_set_cells (e' := ⟨nm', some bb, k'⟩) he rfl) (h1.pick (L' := AllO LkE (es.set i ⟨nm', some bb, k'⟩) :: pv t 53 [.int .i64 n, .slice q es.length c] :: L) (by repeat (first | exact Pick.here | apply Pick.there)))
  rw [show es.length = (es.set i ⟨nm', some bb, k'⟩).length from List.length_set.symm] at h2
  exact h2.fitD
theorem map_ins_cells {es : List E} {i : Nat} {p : Nm} {b : Nat} {k k' : Lk} : (es.take i ++ [(⟨p, some b, k⟩ : E)] ++ es.drop i).map E.cells = (es.take i ++ [(⟨p, some b, k'⟩ : E)] ++ es.drop i).map E.cells := by
  simp only [List.map_append, List.map_cons, List.map_nil]
  rfl
theorem tb_fin2 {t : Nat} {n : Int} {q : Option Addr} {c : Nat} {es : List E} {i : Nat} {p : Nm} {b : Nat} {k k' : Lk} {ρ : World} {L : List HP} {w : World} (hi : i ≤ es.length) (h : St ρ ([LkX b k', AllO LkE es, pv t 53 [.int .i64 n, .slice q (es.length + 1 : Nat) c], RowO Kd.e 63 q c (es.take i ++ [(⟨p, some b, k⟩ : E)] ++ es.drop i)] ++ L) w) :
    St ρ ((TbE t n q c (es.take i ++ [(⟨p, some b, k'⟩ : E)] ++ es.drop i) ++ [AllO LkE (es.take i ++ [(⟨p, some b, k'⟩ : E)] ++ es.drop i)]) ++ L) w := by
  have h1 := allO_put (f := LkE) (l' := es.take i ++ [(⟨p, some b, k'⟩ : E)] ++ es.drop i) (x := ⟨p, some b, k'⟩) (pick_map_ins LkE _ hi) (St.exI (f := fun bb : { bb : Nat // some b = some bb } => [LkX bb.1 k']) ⟨b, rfl⟩ h)
  have h2 := rowO_cells (hl := e_sz) (h1 := e_one) (map_ins_cells (k' := k')) (h1.pick (L' := AllO LkE (es.take i ++ [(⟨p, some b, k'⟩ : E)] ++ es.drop i) :: pv t 53 [.int .i64 n, .slice q (es.length + 1 : Nat) c] :: L) (by repeat (first | exact Pick.here | apply Pick.there)))
  have hlen : (es.take i ++ [(⟨p, some b, k'⟩ : E)] ++ es.drop i).length = es.length + 1 := by
    rw [List.length_append, List.length_append, List.length_take, List.length_drop, List.length_singleton]; omega
  rw [← hlen] at h2
  exact h2.fitD
set_option maxHeartbeats 6400000 in
theorem tb_Ask (t : Nat) (n : Int) (q : Option Addr) (c : Nat) (es : List E) (who : Int) (nm : Nm) (m : Int) (hs0 : Srt es) (hz : ∀ e ∈ es, e.k.size ≤ 1000000) (hl : es.length ≤ 1000000) (hn : 0 ≤ n ∧ n ≤ 1000000) : Fn Tryz.prog 6 [.pointer (some ⟨t, 0, none⟩), .int .i64 who, .agg nm.cells.toArray, .int .i64 m].toArray (TbE t n q c es ++ [AllO LkE es]) (fun r post => ∃ es' q' c', r = .int .i64 (askT (es.map E.abs) n who nm m).1 ∧ es'.map E.abs = (askT (es.map E.abs) n who nm m).2.1 ∧ post = TbE t (askT (es.map E.abs) n who nm m).2.2 q' c' es' ++ [AllO LkE es']) := by
  have hl2 : es.length ≤ 1000000000 := by omega
  refine Fn.enter (N := 95) Tryz.func6 rfl Tryz.ntmps6 (by kernel_rfl) rfl (fun ρ L => ?_)
  refine K.seq ?_
  refine K.fact (fun w h => rowO_cap (e := 63) (k := Kd.e) (p := q) (cap := c) (xs := es) (by repeat (first | exact List.Mem.head _ | apply List.Mem.tail)) w h) (fun hc2 => ?_)
  refine K.region ?_
  refine KO.loud rfl (l_box rfl rfl) ?_
  rintro _ _ ⟨b6, rfl, rfl⟩
  refine KO.q rfl (q_assign rfl) ?_
  refine KO.done ?_
  refine K.seq <| K.seq ?_
  refine K.region ?_
  refine KO.q rfl (q_move rfl) ?_
  refine KO.q rfl (q_pnil Tryz.underlying24 rfl rfl) ?_
  refine KO.done ?_
  refine K.no rfl ?_
  refine K.skip <| K.seq ?_
  refine K.region ?_
  refine KO.q rfl (q_loadN ck_31 rfl rfl (by first | (apply cells_pv; (repeat (first | exact List.Mem.head _ | apply List.Mem.tail))) | (apply cells_fv; (repeat (first | exact List.Mem.head _ | apply List.Mem.tail))))) ?_
  refine KO.loud rfl (OpL.callD rfl (h := nm_plain _)) ?_
  rintro _ _ ⟨_, ⟨rfl, rfl⟩, rfl⟩
  refine KO.q rfl (q_move rfl) ?_
  refine KO.q rfl (q_extract rfl rfl) ?_
  refine KO.q rfl (q_extract rfl rfl) ?_
  refine KO.loudN rfl (l_storeAll ck_31 rfl rfl ⟨rfl, rfl⟩ (nm_one _) (by repeat (first | exact Pick.here | apply Pick.there))) ?_
  rintro _ _ ⟨rfl, rfl⟩
  refine KO.q rfl (q_assign rfl) ?_
  refine KO.done ?_
  refine K.seq <| K.seq ?_
  refine K.region ?_
  refine KO.q rfl (q_move rfl) ?_
  refine KO.q rfl (q_not rfl) ?_
  refine KO.done ?_
  refine K.bcond (s := 23) rfl (fun g23 => ?_) (fun g23 => ?_)
  · have hr : askT (es.map E.abs) n who nm m = (1, es.map E.abs, n) := by unfold askT; rw [if_pos (by simpa using g23)]
    refine K.seq ?_
    refine K.region ?_
    refine KO.q rfl (q_assign rfl) ?_
    refine KO.done ?_
    refine K.ret (fn := Tryz.f6) Tryz.func6 (fun a w hk hs => res1 Tryz.results6 hk rfl) (fun w hs => ?_)
    rw [hr]
    exact ⟨_, TbE t n q c es ++ [AllO LkE es], rfl, ⟨es, q, c, rfl, rfl, rfl⟩, hs.fitD⟩
  · have hpl : nm.plain.2 = true := by simpa using g23
    have hpl' : ¬ nm.plain.2 = false := by rw [hpl]; decide
    refine K.skip <| K.seq <| K.seq ?_
    refine K.region ?_
    refine KO.q rfl (q_move rfl) ?_
    refine KO.q rfl (q_move rfl) ?_
    refine KO.loud rfl (OpL.callD rfl (h := tb_Waiting t n q c es who hz hl2)) ?_
    rintro _ _ ⟨_, ⟨rfl, rfl⟩, rfl⟩
    refine KO.q rfl (q_move rfl) ?_
    refine KO.q rfl (q_extract rfl rfl) ?_
    refine KO.q rfl (q_extract rfl rfl) ?_
    refine KO.loud rfl (l_alloc zo_31) ?_
    rintro _ _ ⟨b10, rfl, rfl⟩
    refine KO.loudN rfl (l_storeAll ck_31 rfl rfl ⟨rfl, rfl⟩ (nm_one _) (by repeat (first | exact Pick.here | apply Pick.there))) ?_
    rintro _ _ ⟨rfl, rfl⟩
    refine KO.q rfl (q_assign rfl) ?_
    refine KO.done ?_
    refine K.seq ?_
    refine K.region ?_
    refine KO.q rfl (q_move rfl) ?_
    refine KO.done ?_
    first | refine K.dcond (s := 30) rfl (fun g30 => ?_) (fun g30 => ?_) | refine K.bcond (s := 30) rfl (fun g30 => ?_) (fun g30 => ?_)
    · have hr : askT (es.map E.abs) n who nm m = (2, es.map E.abs, n) := by unfold askT; rw [if_neg hpl', if_pos (by rw [← tWait_some]; exact g30)]
      refine K.seq ?_
      refine K.region ?_
      refine KO.q rfl (q_assign rfl) ?_
      refine KO.done ?_
      refine K.ret (fn := Tryz.f6) Tryz.func6 (fun a w hk hs => res1 Tryz.results6 hk rfl) (fun w hs => ?_)
      rw [hr]
      exact ⟨_, TbE t n q c es ++ [AllO LkE es], rfl, ⟨es, q, c, rfl, rfl, rfl⟩, hs.fitD⟩
    · have hwt : ¬ (waitT (es.map E.abs) who).isSome = true := by rw [← tWait_some, g30]; decide
      refine K.skip <| K.seq <| K.seq ?_
      refine K.region ?_
      refine KO.q rfl (q_move rfl) ?_
      refine KO.loud rfl (OpL.callD rfl (h := md_Of _)) ?_
      rintro _ _ ⟨_, ⟨rfl, rfl⟩, rfl⟩
      refine KO.q rfl (q_eq rfl rfl) ?_
      refine KO.done ?_
      refine K.dcond (s := 33) rfl (fun g33 => ?_) (fun g33 => ?_)
      · have hr : askT (es.map E.abs) n who nm m = (0, es.map E.abs, n) := by unfold askT; rw [if_neg hpl', if_neg hwt, if_pos g33]
        refine K.seq ?_
        refine K.region ?_
        refine KO.q rfl (q_assign rfl) ?_
        refine KO.done ?_
        refine K.ret (fn := Tryz.f6) Tryz.func6 (fun a w hk hs => res1 Tryz.results6 hk rfl) (fun w hs => ?_)
        rw [hr]
        exact ⟨_, TbE t n q c es ++ [AllO LkE es], rfl, ⟨es, q, c, rfl, rfl, rfl⟩, hs.fitD⟩
      · refine K.skip <| K.seq ?_
        refine K.region ?_
        refine KO.q rfl (q_move rfl) ?_
        refine KO.q rfl (q_loadN ck_31 rfl rfl (by first | (apply cells_pv; (repeat (first | exact List.Mem.head _ | apply List.Mem.tail))) | (apply cells_fv; (repeat (first | exact List.Mem.head _ | apply List.Mem.tail))))) ?_
        refine KO.loud rfl (OpL.callD rfl (h := tb_find t n q c es nm.plain.1 hs0 hl2)) ?_
        rintro _ _ ⟨_, ⟨rfl, rfl⟩, rfl⟩
        refine KO.q rfl (q_move rfl) ?_
        refine KO.q rfl (q_extract rfl rfl) ?_
        refine KO.q rfl (q_extract rfl rfl) ?_
        refine KO.q rfl (q_assign rfl) ?_
        refine KO.q rfl (q_assign rfl) ?_
        refine KO.done ?_
        refine K.seq ?_
        refine K.region ?_
        refine KO.q rfl (q_assign rfl) ?_
        refine KO.done ?_
        refine K.seq <| K.seq ?_
        refine K.region ?_
        refine KO.q rfl (q_move rfl) ?_
        refine KO.done ?_
        first | refine K.dcond (s := 40) rfl (fun g40 => ?_) (fun g40 => ?_) | refine K.bcond (s := 40) rfl (fun g40 => ?_) (fun g40 => ?_)
        · obtain ⟨e, he, hen⟩ := fndN_at g40
          have hez := hz e (List.mem_of_getElem? he)
          have hfT : fndT (es.map E.abs) nm.plain.1 = true := by rw [← fndN_abs]; exact g40
          have hkT : kAt (es.map E.abs) (lbT (es.map E.abs) nm.plain.1) = e.k := by rw [← lbN_abs]; exact kAt_abs he
          have hil := (List.getElem?_eq_some_iff.1 he).1
          obtain ⟨i, hi⟩ : ∃ i, i = lbN es nm.plain.1 := ⟨_, rfl⟩
          have hlT : lbT (es.map E.abs) nm.plain.1 = i := by rw [← lbN_abs, hi]
          rw [← hi] at he hil ⊢
          rw [hlT] at hkT
          refine K.ex (fun w h => tb_open he (h.pick (by repeat (first | exact Pick.here | apply Pick.there)))) (fun bb => ?_)
          obtain ⟨bb, hbb⟩ := bb
          obtain ⟨nm', pp, k⟩ := e
          have hbb : pp = some bb := hbb
          have hen : nm' = nm.plain.1 := hen
          subst hbb hen
          have hez : k.size ≤ 1000000 := hez
          have hkT : kAt (es.map E.abs) i = k := hkT
          refine K.region ?_
          refine KO.q rfl (q_move rfl) ?_
          refine KO.q rfl (q_nilCheck rfl) ?_
          refine KO.q rfl (q_field fo_53_1 rfl) ?_
          refine KO.q rfl (q_load1D ck_51 rfl) ?_
          refine KO.q rfl (q_move rfl) ?_
          refine KO.q rfl (q_ix (xs := es) i se_51 rfl rfl rfl isO (by repeat (first | exact List.Mem.head _ | apply List.Mem.tail)) rfl hil) ?_
          refine KO.q rfl (q_ldEN (xs := es) ck_63 rfl isO (by repeat (first | exact List.Mem.head _ | apply List.Mem.tail)) he) ?_
          refine KO.q rfl (q_move rfl) ?_
          refine KO.loud rfl (OpL.callD rfl (h := en_hold nm.plain.1 bb k who hez)) ?_
          rintro _ _ ⟨_, ⟨rfl, rfl⟩, rfl⟩
          refine KO.q rfl (q_move rfl) ?_
          refine KO.q rfl (q_extract rfl rfl) ?_
          refine KO.q rfl (q_extract rfl rfl) ?_
          refine KO.q rfl (q_assign rfl) ?_
          refine KO.done ?_
          refine K.seq <| K.seq ?_
          refine K.region ?_
          refine KO.q rfl (q_move rfl) ?_
          refine KO.q rfl (q_not rfl) ?_
          refine KO.q rfl (q_move rfl) ?_
          refine KO.split 55 rfl (fun g55 => ?_) (fun g55 => ?_)
          · refine KO.q rfl (q_move rfl) ?_
            refine KO.q rfl (q_nilCheck rfl) ?_
            refine KO.q rfl (q_field fo_53_0 rfl) ?_
            refine KO.loud rfl (OpL.callD rfl (h := tb_full t n (.slice q es.length c))) ?_
            rintro _ _ ⟨_, ⟨rfl, rfl⟩, rfl⟩
            refine KO.q rfl (q_pickT rfl rfl) ?_
            refine KO.done ?_
            refine K.bcond (s := 60) rfl (fun g60 => ?_) (fun g60 => ?_)
            · have g60 := of_decide_eq_true g60
              have hmi : ¬ k.mine who = true := by simpa using g55
              have hr : askT (es.map E.abs) n who nm m = (10, es.map E.abs, n) := by unfold askT; rw [if_neg hpl', if_neg hwt, if_neg g33, if_pos hfT, hlT, hkT, if_neg hmi, if_pos g60]
              refine K.st (fun w h => tb_back he rfl (h.fit (M := [LkX bb k, AllO LkE (es.eraseIdx i), pv t 53 [.int .i64 n, .slice q es.length c], RowO Kd.e 63 q c es]) (by repeat (first | exact Give.nil | (apply Give.perI; (repeat (first | exact List.Mem.head _ | apply List.Mem.tail))) | (apply Give.own; (repeat (first | exact Pick.here | apply Pick.there))))) (by repeat (first | exact Drop.refl | apply Drop.skip)))) ?_
              refine K.seq ?_
              refine K.region ?_
              refine KO.q rfl (q_assign rfl) ?_
              refine KO.done ?_
              refine K.ret (fn := Tryz.f6) Tryz.func6 (fun a w hk hs => res1 Tryz.results6 hk rfl) (fun w hs => ?_)
              rw [hr]
              exact ⟨_, TbE t n q c es ++ [AllO LkE es], rfl, ⟨es, q, c, rfl, rfl, rfl⟩, hs.fitD⟩
            · have g60 := of_decide_eq_false g60
              have hmi : ¬ k.mine who = true := by simpa using g55
              have hr : askT (es.map E.abs) n who nm m = (err (k.ask who m).1, (es.map E.abs).set i ⟨nm.plain.1, (k.ask who m).2⟩, n + 1) := by unfold askT; rw [if_neg hpl', if_neg hwt, if_neg g33, if_pos hfT, hlT, hkT, if_neg hmi, if_neg g60]
              refine K.skip <| K.seq <| K.seq ?_
              refine K.region ?_
              refine KO.q rfl (q_move rfl) ?_
              refine KO.q rfl (q_not rfl) ?_
              refine KO.done ?_
              refine K.bcond (s := 62) rfl (fun g62 => ?_) (fun g62 => ?_)
              · rw [g40] at g62; exact absurd g62 (by decide)
              · refine K.skip <| K.seq <| K.seq ?_
                refine K.region ?_
                refine KO.q rfl (q_move rfl) ?_
                refine KO.q rfl (q_not rfl) ?_
                refine KO.done ?_
                refine K.bcond (s := 78) rfl (fun g78 => ?_) (fun g78 => ?_)
                · refine K.region ?_
                  refine KO.q rfl (q_move rfl) ?_
                  refine KO.q rfl (q_nilCheck rfl) ?_
                  refine KO.q rfl (q_field fo_53_0 rfl) ?_
                  refine KO.loud rfl (OpL.callD rfl (h := tb_moved t n 1 (.slice q es.length c) (by omega) (by decide))) ?_
                  rintro _ _ ⟨_, ⟨rfl, rfl⟩, rfl⟩
                  refine KO.done ?_
                  refine K.seq <| K.seq ?_
                  refine K.region ?_
                  refine KO.q rfl (q_move rfl) ?_
                  refine KO.q rfl (q_nilCheck rfl) ?_
                  refine KO.q rfl (q_field fo_53_1 rfl) ?_
                  refine KO.q rfl (q_load1D ck_51 rfl) ?_
                  refine KO.q rfl (q_move rfl) ?_
                  refine KO.q rfl (q_ix (xs := es) i se_51 rfl rfl rfl isO (by repeat (first | exact List.Mem.head _ | apply List.Mem.tail)) rfl hil) ?_
                  refine KO.q rfl (q_fieldE fo_63_1 rfl) ?_
                  refine KO.q rfl (q_ldE (xs := es) ck_61 rfl isO (by repeat (first | exact List.Mem.head _ | apply List.Mem.tail)) he rfl) ?_
                  refine KO.q rfl (q_move rfl) ?_
                  refine KO.q rfl (q_move rfl) ?_
                  refine KO.loud rfl (OpL.callD rfl (h := lk_AskX bb k who m hez)) ?_
                  rintro _ _ ⟨_, ⟨rfl, rfl⟩, rfl⟩
                  refine KO.q rfl (q_not rfl) ?_
                  refine KO.done ?_
                  refine K.bcond (s := 94) rfl (fun g94 => ?_) (fun g94 => ?_)
                  · have her : err (k.ask who m).1 = 13 := by unfold err; rw [if_neg (by simpa using g94)]
                    refine K.seq ?_
                    refine K.region ?_
                    refine KO.q rfl (q_assign rfl) ?_
                    refine KO.done ?_
                    refine K.ret (fn := Tryz.f6) Tryz.func6 (fun a w hk hs => res1 Tryz.results6 hk rfl) (fun w hs => ?_)
                    rw [hr]
                    first
                      | exact ⟨_, TbE t (n + 1) q c (es.set i ⟨nm.plain.1, some bb, (k.ask who m).2⟩) ++ [AllO LkE (es.set i ⟨nm.plain.1, some bb, (k.ask who m).2⟩)], rfl, ⟨es.set i ⟨nm.plain.1, some bb, (k.ask who m).2⟩, q, c, by show _ = Value.int .i64 (err (k.ask who m).1); rw [her], by rw [List.map_set]; rfl, rfl⟩, tb_fin he (hs.fit (M := [LkX bb (k.ask who m).2, AllO LkE (es.eraseIdx i), pv t 53 [.int .i64 (n + 1), .slice q es.length c], RowO Kd.e 63 q c es]) (by repeat (first | exact Give.nil | (apply Give.perI; (repeat (first | exact List.Mem.head _ | apply List.Mem.tail))) | (apply Give.own; (repeat (first | exact Pick.here | apply Pick.there))))) (by repeat (first | exact Drop.refl | apply Drop.skip)))⟩
                      | exact ⟨_, TbE t n q c (es.set i ⟨nm.plain.1, some bb, (k.ask who m).2⟩) ++ [AllO LkE (es.set i ⟨nm.plain.1, some bb, (k.ask who m).2⟩)], rfl, ⟨es.set i ⟨nm.plain.1, some bb, (k.ask who m).2⟩, q, c, by show _ = Value.int .i64 (err (k.ask who m).1); rw [her], by rw [List.map_set]; rfl, rfl⟩, tb_fin he (hs.fit (M := [LkX bb (k.ask who m).2, AllO LkE (es.eraseIdx i), pv t 53 [.int .i64 n, .slice q es.length c], RowO Kd.e 63 q c es]) (by repeat (first | exact Give.nil | (apply Give.perI; (repeat (first | exact List.Mem.head _ | apply List.Mem.tail))) | (apply Give.own; (repeat (first | exact Pick.here | apply Pick.there))))) (by repeat (first | exact Drop.refl | apply Drop.skip)))⟩
                      | exact ⟨_, TbE t (n + 1) qn cn (es.take i ++ [(⟨nm.plain.1, some b71, ((Lk.mk [] []).ask who m).2⟩ : E)] ++ es.drop i) ++ [AllO LkE (es.take i ++ [(⟨nm.plain.1, some b71, ((Lk.mk [] []).ask who m).2⟩ : E)] ++ es.drop i)], rfl, ⟨es.take i ++ [(⟨nm.plain.1, some b71, ((Lk.mk [] []).ask who m).2⟩ : E)] ++ es.drop i, qn, cn, by show _ = Value.int .i64 (err ((Lk.mk [] []).ask who m).1); rw [her], by rw [List.map_append, List.map_append, List.map_take, List.map_drop]; rfl, rfl⟩, tb_fin2 hile (hs.fit (M := [LkX b71 ((Lk.mk [] []).ask who m).2, AllO LkE es, pv t 53 [.int .i64 (n + 1), .slice qn (es.length + 1 : Nat) cn], RowO Kd.e 63 qn cn (es.take i ++ [(⟨nm.plain.1, some b71, ⟨[], []⟩⟩ : E)] ++ es.drop i)]) (by repeat (first | exact Give.nil | (apply Give.perI; (repeat (first | exact List.Mem.head _ | apply List.Mem.tail))) | (apply Give.own; (repeat (first | exact Pick.here | apply Pick.there))))) (by repeat (first | exact Drop.refl | apply Drop.skip)))⟩
                  · have her : err (k.ask who m).1 = 0 := by unfold err; rw [if_pos (by simpa using g94)]
                    refine K.skip <| K.seq ?_
                    refine K.region ?_
                    refine KO.q rfl (q_assign rfl) ?_
                    refine KO.done ?_
                    refine K.ret (fn := Tryz.f6) Tryz.func6 (fun a w hk hs => res1 Tryz.results6 hk rfl) (fun w hs => ?_)
                    rw [hr]
                    first
                      | exact ⟨_, TbE t (n + 1) q c (es.set i ⟨nm.plain.1, some bb, (k.ask who m).2⟩) ++ [AllO LkE (es.set i ⟨nm.plain.1, some bb, (k.ask who m).2⟩)], rfl, ⟨es.set i ⟨nm.plain.1, some bb, (k.ask who m).2⟩, q, c, by show _ = Value.int .i64 (err (k.ask who m).1); rw [her], by rw [List.map_set]; rfl, rfl⟩, tb_fin he (hs.fit (M := [LkX bb (k.ask who m).2, AllO LkE (es.eraseIdx i), pv t 53 [.int .i64 (n + 1), .slice q es.length c], RowO Kd.e 63 q c es]) (by repeat (first | exact Give.nil | (apply Give.perI; (repeat (first | exact List.Mem.head _ | apply List.Mem.tail))) | (apply Give.own; (repeat (first | exact Pick.here | apply Pick.there))))) (by repeat (first | exact Drop.refl | apply Drop.skip)))⟩
                      | exact ⟨_, TbE t n q c (es.set i ⟨nm.plain.1, some bb, (k.ask who m).2⟩) ++ [AllO LkE (es.set i ⟨nm.plain.1, some bb, (k.ask who m).2⟩)], rfl, ⟨es.set i ⟨nm.plain.1, some bb, (k.ask who m).2⟩, q, c, by show _ = Value.int .i64 (err (k.ask who m).1); rw [her], by rw [List.map_set]; rfl, rfl⟩, tb_fin he (hs.fit (M := [LkX bb (k.ask who m).2, AllO LkE (es.eraseIdx i), pv t 53 [.int .i64 n, .slice q es.length c], RowO Kd.e 63 q c es]) (by repeat (first | exact Give.nil | (apply Give.perI; (repeat (first | exact List.Mem.head _ | apply List.Mem.tail))) | (apply Give.own; (repeat (first | exact Pick.here | apply Pick.there))))) (by repeat (first | exact Drop.refl | apply Drop.skip)))⟩
                      | exact ⟨_, TbE t (n + 1) qn cn (es.take i ++ [(⟨nm.plain.1, some b71, ((Lk.mk [] []).ask who m).2⟩ : E)] ++ es.drop i) ++ [AllO LkE (es.take i ++ [(⟨nm.plain.1, some b71, ((Lk.mk [] []).ask who m).2⟩ : E)] ++ es.drop i)], rfl, ⟨es.take i ++ [(⟨nm.plain.1, some b71, ((Lk.mk [] []).ask who m).2⟩ : E)] ++ es.drop i, qn, cn, by show _ = Value.int .i64 (err ((Lk.mk [] []).ask who m).1); rw [her], by rw [List.map_append, List.map_append, List.map_take, List.map_drop]; rfl, rfl⟩, tb_fin2 hile (hs.fit (M := [LkX b71 ((Lk.mk [] []).ask who m).2, AllO LkE es, pv t 53 [.int .i64 (n + 1), .slice qn (es.length + 1 : Nat) cn], RowO Kd.e 63 qn cn (es.take i ++ [(⟨nm.plain.1, some b71, ⟨[], []⟩⟩ : E)] ++ es.drop i)]) (by repeat (first | exact Give.nil | (apply Give.perI; (repeat (first | exact List.Mem.head _ | apply List.Mem.tail))) | (apply Give.own; (repeat (first | exact Pick.here | apply Pick.there))))) (by repeat (first | exact Drop.refl | apply Drop.skip)))⟩
                · rw [g78] at g55; exact absurd g55 (by decide)
          · have hmi : k.mine who = true := by simpa using g55
            have hr : askT (es.map E.abs) n who nm m = (err (k.ask who m).1, (es.map E.abs).set i ⟨nm.plain.1, (k.ask who m).2⟩, n) := by unfold askT; rw [if_neg hpl', if_neg hwt, if_neg g33, if_pos hfT, hlT, hkT, if_pos hmi]
            refine KO.skip rfl ?_
            refine KO.skip rfl ?_
            refine KO.skip rfl ?_
            refine KO.skip rfl ?_
            refine KO.q rfl (q_pickF rfl rfl) ?_
            refine KO.done ?_
            refine K.no rfl ?_
            refine K.skip <| K.seq <| K.seq ?_
            refine K.region ?_
            refine KO.q rfl (q_move rfl) ?_
            refine KO.q rfl (q_not rfl) ?_
            refine KO.done ?_
            refine K.bcond (s := 62) rfl (fun g62 => ?_) (fun g62 => ?_)
            · rw [g40] at g62; exact absurd g62 (by decide)
            · refine K.skip <| K.seq <| K.seq ?_
              refine K.region ?_
              refine KO.q rfl (q_move rfl) ?_
              refine KO.q rfl (q_not rfl) ?_
              refine KO.done ?_
              refine K.bcond (s := 78) rfl (fun g78 => ?_) (fun g78 => ?_)
              · rw [g78] at g55; exact absurd g55 (by decide)
              · refine K.skip <| K.seq <| K.seq ?_
                refine K.region ?_
                refine KO.q rfl (q_move rfl) ?_
                refine KO.q rfl (q_nilCheck rfl) ?_
                refine KO.q rfl (q_field fo_53_1 rfl) ?_
                refine KO.q rfl (q_load1D ck_51 rfl) ?_
                refine KO.q rfl (q_move rfl) ?_
                refine KO.q rfl (q_ix (xs := es) i se_51 rfl rfl rfl isO (by repeat (first | exact List.Mem.head _ | apply List.Mem.tail)) rfl hil) ?_
                refine KO.q rfl (q_fieldE fo_63_1 rfl) ?_
                refine KO.q rfl (q_ldE (xs := es) ck_61 rfl isO (by repeat (first | exact List.Mem.head _ | apply List.Mem.tail)) he rfl) ?_
                refine KO.q rfl (q_move rfl) ?_
                refine KO.q rfl (q_move rfl) ?_
                refine KO.loud rfl (OpL.callD rfl (h := lk_AskX bb k who m hez)) ?_
                rintro _ _ ⟨_, ⟨rfl, rfl⟩, rfl⟩
                refine KO.q rfl (q_not rfl) ?_
                refine KO.done ?_
                refine K.bcond (s := 94) rfl (fun g94 => ?_) (fun g94 => ?_)
                · have her : err (k.ask who m).1 = 13 := by unfold err; rw [if_neg (by simpa using g94)]
                  refine K.seq ?_
                  refine K.region ?_
                  refine KO.q rfl (q_assign rfl) ?_
                  refine KO.done ?_
                  refine K.ret (fn := Tryz.f6) Tryz.func6 (fun a w hk hs => res1 Tryz.results6 hk rfl) (fun w hs => ?_)
                  rw [hr]
                  first
                    | exact ⟨_, TbE t (n + 1) q c (es.set i ⟨nm.plain.1, some bb, (k.ask who m).2⟩) ++ [AllO LkE (es.set i ⟨nm.plain.1, some bb, (k.ask who m).2⟩)], rfl, ⟨es.set i ⟨nm.plain.1, some bb, (k.ask who m).2⟩, q, c, by show _ = Value.int .i64 (err (k.ask who m).1); rw [her], by rw [List.map_set]; rfl, rfl⟩, tb_fin he (hs.fit (M := [LkX bb (k.ask who m).2, AllO LkE (es.eraseIdx i), pv t 53 [.int .i64 (n + 1), .slice q es.length c], RowO Kd.e 63 q c es]) (by repeat (first | exact Give.nil | (apply Give.perI; (repeat (first | exact List.Mem.head _ | apply List.Mem.tail))) | (apply Give.own; (repeat (first | exact Pick.here | apply Pick.there))))) (by repeat (first | exact Drop.refl | apply Drop.skip)))⟩
                    | exact ⟨_, TbE t n q c (es.set i ⟨nm.plain.1, some bb, (k.ask who m).2⟩) ++ [AllO LkE (es.set i ⟨nm.plain.1, some bb, (k.ask who m).2⟩)], rfl, ⟨es.set i ⟨nm.plain.1, some bb, (k.ask who m).2⟩, q, c, by show _ = Value.int .i64 (err (k.ask who m).1); rw [her], by rw [List.map_set]; rfl, rfl⟩, tb_fin he (hs.fit (M := [LkX bb (k.ask who m).2, AllO LkE (es.eraseIdx i), pv t 53 [.int .i64 n, .slice q es.length c], RowO Kd.e 63 q c es]) (by repeat (first | exact Give.nil | (apply Give.perI; (repeat (first | exact List.Mem.head _ | apply List.Mem.tail))) | (apply Give.own; (repeat (first | exact Pick.here | apply Pick.there))))) (by repeat (first | exact Drop.refl | apply Drop.skip)))⟩
                    | exact ⟨_, TbE t (n + 1) qn cn (es.take i ++ [(⟨nm.plain.1, some b71, ((Lk.mk [] []).ask who m).2⟩ : E)] ++ es.drop i) ++ [AllO LkE (es.take i ++ [(⟨nm.plain.1, some b71, ((Lk.mk [] []).ask who m).2⟩ : E)] ++ es.drop i)], rfl, ⟨es.take i ++ [(⟨nm.plain.1, some b71, ((Lk.mk [] []).ask who m).2⟩ : E)] ++ es.drop i, qn, cn, by show _ = Value.int .i64 (err ((Lk.mk [] []).ask who m).1); rw [her], by rw [List.map_append, List.map_append, List.map_take, List.map_drop]; rfl, rfl⟩, tb_fin2 hile (hs.fit (M := [LkX b71 ((Lk.mk [] []).ask who m).2, AllO LkE es, pv t 53 [.int .i64 (n + 1), .slice qn (es.length + 1 : Nat) cn], RowO Kd.e 63 qn cn (es.take i ++ [(⟨nm.plain.1, some b71, ⟨[], []⟩⟩ : E)] ++ es.drop i)]) (by repeat (first | exact Give.nil | (apply Give.perI; (repeat (first | exact List.Mem.head _ | apply List.Mem.tail))) | (apply Give.own; (repeat (first | exact Pick.here | apply Pick.there))))) (by repeat (first | exact Drop.refl | apply Drop.skip)))⟩
                · have her : err (k.ask who m).1 = 0 := by unfold err; rw [if_pos (by simpa using g94)]
                  refine K.skip <| K.seq ?_
                  refine K.region ?_
                  refine KO.q rfl (q_assign rfl) ?_
                  refine KO.done ?_
                  refine K.ret (fn := Tryz.f6) Tryz.func6 (fun a w hk hs => res1 Tryz.results6 hk rfl) (fun w hs => ?_)
                  rw [hr]
                  first
                    | exact ⟨_, TbE t (n + 1) q c (es.set i ⟨nm.plain.1, some bb, (k.ask who m).2⟩) ++ [AllO LkE (es.set i ⟨nm.plain.1, some bb, (k.ask who m).2⟩)], rfl, ⟨es.set i ⟨nm.plain.1, some bb, (k.ask who m).2⟩, q, c, by show _ = Value.int .i64 (err (k.ask who m).1); rw [her], by rw [List.map_set]; rfl, rfl⟩, tb_fin he (hs.fit (M := [LkX bb (k.ask who m).2, AllO LkE (es.eraseIdx i), pv t 53 [.int .i64 (n + 1), .slice q es.length c], RowO Kd.e 63 q c es]) (by repeat (first | exact Give.nil | (apply Give.perI; (repeat (first | exact List.Mem.head _ | apply List.Mem.tail))) | (apply Give.own; (repeat (first | exact Pick.here | apply Pick.there))))) (by repeat (first | exact Drop.refl | apply Drop.skip)))⟩
                    | exact ⟨_, TbE t n q c (es.set i ⟨nm.plain.1, some bb, (k.ask who m).2⟩) ++ [AllO LkE (es.set i ⟨nm.plain.1, some bb, (k.ask who m).2⟩)], rfl, ⟨es.set i ⟨nm.plain.1, some bb, (k.ask who m).2⟩, q, c, by show _ = Value.int .i64 (err (k.ask who m).1); rw [her], by rw [List.map_set]; rfl, rfl⟩, tb_fin he (hs.fit (M := [LkX bb (k.ask who m).2, AllO LkE (es.eraseIdx i), pv t 53 [.int .i64 n, .slice q es.length c], RowO Kd.e 63 q c es]) (by repeat (first | exact Give.nil | (apply Give.perI; (repeat (first | exact List.Mem.head _ | apply List.Mem.tail))) | (apply Give.own; (repeat (first | exact Pick.here | apply Pick.there))))) (by repeat (first | exact Drop.refl | apply Drop.skip)))⟩
                    | exact ⟨_, TbE t (n + 1) qn cn (es.take i ++ [(⟨nm.plain.1, some b71, ((Lk.mk [] []).ask who m).2⟩ : E)] ++ es.drop i) ++ [AllO LkE (es.take i ++ [(⟨nm.plain.1, some b71, ((Lk.mk [] []).ask who m).2⟩ : E)] ++ es.drop i)], rfl, ⟨es.take i ++ [(⟨nm.plain.1, some b71, ((Lk.mk [] []).ask who m).2⟩ : E)] ++ es.drop i, qn, cn, by show _ = Value.int .i64 (err ((Lk.mk [] []).ask who m).1); rw [her], by rw [List.map_append, List.map_append, List.map_take, List.map_drop]; rfl, rfl⟩, tb_fin2 hile (hs.fit (M := [LkX b71 ((Lk.mk [] []).ask who m).2, AllO LkE es, pv t 53 [.int .i64 (n + 1), .slice qn (es.length + 1 : Nat) cn], RowO Kd.e 63 qn cn (es.take i ++ [(⟨nm.plain.1, some b71, ⟨[], []⟩⟩ : E)] ++ es.drop i)]) (by repeat (first | exact Give.nil | (apply Give.perI; (repeat (first | exact List.Mem.head _ | apply List.Mem.tail))) | (apply Give.own; (repeat (first | exact Pick.here | apply Pick.there))))) (by repeat (first | exact Drop.refl | apply Drop.skip)))⟩
        · refine K.skip <| K.seq <| K.seq ?_
          refine K.region ?_
          refine KO.q rfl (q_move rfl) ?_
          refine KO.q rfl (q_not rfl) ?_
          refine KO.q rfl (q_move rfl) ?_
          refine KO.q rfl (q_move rfl) ?_
          refine KO.q rfl (q_nilCheck rfl) ?_
          refine KO.q rfl (q_field fo_53_0 rfl) ?_
          refine KO.loud rfl (OpL.callD rfl (h := tb_full t n (.slice q es.length c))) ?_
          rintro _ _ ⟨_, ⟨rfl, rfl⟩, rfl⟩
          refine KO.q rfl (q_pickT rfl rfl) ?_
          refine KO.done ?_
          refine K.bcond (s := 60) rfl (fun g60 => ?_) (fun g60 => ?_)
          · have g60 := of_decide_eq_true g60
            have hfT : ¬ fndT (es.map E.abs) nm.plain.1 = true := by rw [← fndN_abs, g40]; decide
            have hr : askT (es.map E.abs) n who nm m = (10, es.map E.abs, n) := by unfold askT; rw [if_neg hpl', if_neg hwt, if_neg g33, if_neg hfT, if_pos g60]
            refine K.seq ?_
            refine K.region ?_
            refine KO.q rfl (q_assign rfl) ?_
            refine KO.done ?_
            refine K.ret (fn := Tryz.f6) Tryz.func6 (fun a w hk hs => res1 Tryz.results6 hk rfl) (fun w hs => ?_)
            rw [hr]
            exact ⟨_, TbE t n q c es ++ [AllO LkE es], rfl, ⟨es, q, c, rfl, rfl, rfl⟩, hs.fitD⟩
          · have g60 := of_decide_eq_false g60
            have hfT : ¬ fndT (es.map E.abs) nm.plain.1 = true := by rw [← fndN_abs, g40]; decide
            obtain ⟨i, hi⟩ : ∃ i, i = lbN es nm.plain.1 := ⟨_, rfl⟩
            have hlT : lbT (es.map E.abs) nm.plain.1 = i := by rw [← lbN_abs, hi]
            have hile : i ≤ es.length := by rw [hi]; exact lbN_le _ _
            have hr : askT (es.map E.abs) n who nm m = (err ((Lk.mk [] []).ask who m).1, (es.map E.abs).take i ++ [⟨nm.plain.1, ((Lk.mk [] []).ask who m).2⟩] ++ (es.map E.abs).drop i, n + 1) := by unfold askT; rw [if_neg hpl', if_neg hwt, if_neg g33, if_neg hfT, if_neg g60, hlT]
            rw [← hi]
            refine K.skip <| K.seq <| K.seq ?_
            refine K.region ?_
            refine KO.q rfl (q_move rfl) ?_
            refine KO.q rfl (q_not rfl) ?_
            refine KO.done ?_
            refine K.bcond (s := 62) rfl (fun g62 => ?_) (fun g62 => ?_)
            · refine K.drawS [pv t 53 [.int .i64 n, .slice q es.length c], pv b6 31 nm.plain.1.cells] (fun _ h => h.subD) mixed ?_
              refine D.q 0 rfl (by kernel_rfl) (by kernel_rfl) (q_move rfl) (fun _ h => h.subD) ?_
              refine D.q 1 rfl (by kernel_rfl) (by kernel_rfl) (q_move rfl) (fun _ h => h.subD) ?_
              refine D.q 2 rfl (by kernel_rfl) (by kernel_rfl) (q_nilCheck rfl) (fun _ h => h.subD) ?_
              refine D.q 3 rfl (by kernel_rfl) (by kernel_rfl) (q_field fo_53_1 rfl) (fun _ h => h.subD) ?_
              refine D.q 4 rfl (by kernel_rfl) (by kernel_rfl) (q_load1D ck_51 rfl) (fun _ h => h.subD) ?_
              refine D.q 5 rfl (by kernel_rfl) (by kernel_rfl) (q_move rfl) (fun _ h => h.subD) ?_
              refine D.q 6 rfl (by kernel_rfl) (by kernel_rfl) (q_loadN ck_31 rfl rfl (by first | (apply cells_pv; (repeat (first | exact List.Mem.head _ | apply List.Mem.tail))) | (apply cells_fv; (repeat (first | exact List.Mem.head _ | apply List.Mem.tail))))) (fun _ h => h.subD) ?_
              refine D.q 7 rfl (by kernel_rfl) (by kernel_rfl) (q_build st_68 rfl (by repeat (first | exact Fill.nil | (apply Fill.cons; rfl; rfl; rfl) | exact SetN.nil | apply SetN.cons | exact SetAt.here | apply SetAt.there))) (fun _ h => h.subD) ?_
              refine D.all (rs := [8]) (by kernel_rfl) rfl (DAll.cons rfl (by kernel_rfl) (l_box rfl rfl) (.inr (by rintro _ _ ⟨b71, rfl, rfl⟩ w h; exact h.subD)) rfl ?_ DAll.nil)
              rintro _ _ ⟨b71, rfl, rfl⟩
              refine D.st (fun w h => lkX_new h) ?_
              refine D.q 9 rfl (by kernel_rfl) (by kernel_rfl) (q_as (q_build st_63 rfl (by repeat (first | exact Fill.nil | (apply Fill.cons; rfl; rfl; rfl) | exact SetN.nil | apply SetN.cons | exact SetAt.here | apply SetAt.there))) (show _ = E.cells ⟨nm.plain.1, some b71, ⟨[], []⟩⟩ from rfl)) (fun _ h => h.subD) ?_
              refine D.all (rs := [10]) (by kernel_rfl) rfl (DAll.cons rfl (by kernel_rfl) (l_slice1 sz_51_1 rfl rfl ⟨rfl, rfl, rfl⟩) (.inr (by rintro _ _ ⟨b73, rfl, rfl⟩ w h; exact h.subD)) rfl ?_ DAll.nil)
              rintro _ _ ⟨b73, rfl, rfl⟩
              refine D.all (rs := [11]) (by kernel_rfl) rfl (DAll.cons rfl (by kernel_rfl) (OpL.callD rfl (h := ins_e q c es i b73 _ ⟨nm.plain.1, some b71, ⟨[], []⟩⟩ hile hc2 hl2)) (.inr (by rintro _ _ ⟨_, ⟨qn, cn, rfl, rfl⟩, rfl⟩ w h; exact h.subD)) rfl ?_ DAll.nil)
              rintro _ _ ⟨_, ⟨qn, cn, rfl, rfl⟩, rfl⟩
              refine D.all (rs := [12]) (by kernel_rfl) rfl (DAll.cons rfl (by kernel_rfl) (OpQ.loud (q_nilCheck rfl)) (.inl (by kernel_rfl)) rfl ?_ DAll.nil)
              rintro _ _ ⟨rfl, rfl⟩
              refine D.all (rs := [13]) (by kernel_rfl) rfl (DAll.cons rfl (by kernel_rfl) (OpQ.loud (q_field fo_53_1 rfl)) (.inl (by kernel_rfl)) rfl ?_ DAll.nil)
              rintro _ _ ⟨rfl, rfl⟩
              refine D.all (rs := [14]) (by kernel_rfl) rfl (DAll.consN rfl (by kernel_rfl) (l_store1 ck_51 rfl rfl rfl (by repeat (first | exact Pick.here | apply Pick.there)) (by repeat (first | exact SetAt.here | apply SetAt.there))) (.inl (by kernel_rfl)) rfl ?_ DAll.nil)
              rintro _ _ ⟨rfl, rfl⟩
              refine D.done (by kernel_rfl) ?_
              refine K.seq <| K.seq ?_
              refine K.region ?_
              refine KO.q rfl (q_move rfl) ?_
              refine KO.q rfl (q_not rfl) ?_
              refine KO.done ?_
              refine K.yes rfl ?_
              refine K.region ?_
              refine KO.q rfl (q_move rfl) ?_
              refine KO.q rfl (q_nilCheck rfl) ?_
              refine KO.q rfl (q_field fo_53_0 rfl) ?_
              refine KO.loud rfl (OpL.callD rfl (h := tb_moved t n 1 (.slice qn (es.length + 1) cn) (by omega) (by decide))) ?_
              rintro _ _ ⟨_, ⟨rfl, rfl⟩, rfl⟩
              refine KO.done ?_
              refine K.seq <| K.seq ?_
              have hnew : (es.take i ++ [(⟨nm.plain.1, some b71, ⟨[], []⟩⟩ : E)] ++ es.drop i)[i]? = some ⟨nm.plain.1, some b71, ⟨[], []⟩⟩ := by
                rw [List.append_assoc, List.getElem?_append_right (by rw [List.length_take]; omega), List.length_take, Nat.min_eq_left hile, Nat.sub_self]; rfl
              have hnl : (es.take i ++ [(⟨nm.plain.1, some b71, ⟨[], []⟩⟩ : E)] ++ es.drop i).length = es.length + 1 := by
                rw [List.length_append, List.length_append, List.length_take, List.length_drop, List.length_singleton]; omega
              refine K.region ?_
              refine KO.q rfl (q_move rfl) ?_
              refine KO.q rfl (q_nilCheck rfl) ?_
              refine KO.q rfl (q_field fo_53_1 rfl) ?_
              refine KO.q rfl (q_load1D ck_51 rfl) ?_
              refine KO.q rfl (q_move rfl) ?_
              refine KO.q rfl (q_ix (xs := es.take i ++ [(⟨nm.plain.1, some b71, ⟨[], []⟩⟩ : E)] ++ es.drop i) i se_51 rfl rfl rfl isO (by repeat (first | exact List.Mem.head _ | apply List.Mem.tail)) hnl.symm (by omega)) ?_
              refine KO.q rfl (q_fieldE fo_63_1 rfl) ?_
              refine KO.q rfl (q_ldE (xs := es.take i ++ [(⟨nm.plain.1, some b71, ⟨[], []⟩⟩ : E)] ++ es.drop i) ck_61 rfl isO (by repeat (first | exact List.Mem.head _ | apply List.Mem.tail)) hnew rfl) ?_
              refine KO.q rfl (q_move rfl) ?_
              refine KO.q rfl (q_move rfl) ?_
              refine KO.loud rfl (OpL.callD rfl (h := lk_AskX b71 ⟨[], []⟩ who m (by decide))) ?_
              rintro _ _ ⟨_, ⟨rfl, rfl⟩, rfl⟩
              refine KO.q rfl (q_not rfl) ?_
              refine KO.done ?_
              refine K.bcond (s := 94) rfl (fun g94 => ?_) (fun g94 => ?_)
              · have her : err ((Lk.mk [] []).ask who m).1 = 13 := by unfold err; rw [if_neg (by simpa using g94)]
                refine K.seq ?_
                refine K.region ?_
                refine KO.q rfl (q_assign rfl) ?_
                refine KO.done ?_
                refine K.ret (fn := Tryz.f6) Tryz.func6 (fun a w hk hs => res1 Tryz.results6 hk rfl) (fun w hs => ?_)
                rw [hr]
                first
                  | exact ⟨_, TbE t (n + 1) q c (es.set i ⟨nm.plain.1, some bb, (k.ask who m).2⟩) ++ [AllO LkE (es.set i ⟨nm.plain.1, some bb, (k.ask who m).2⟩)], rfl, ⟨es.set i ⟨nm.plain.1, some bb, (k.ask who m).2⟩, q, c, by show _ = Value.int .i64 (err (k.ask who m).1); rw [her], by rw [List.map_set]; rfl, rfl⟩, tb_fin he (hs.fit (M := [LkX bb (k.ask who m).2, AllO LkE (es.eraseIdx i), pv t 53 [.int .i64 (n + 1), .slice q es.length c], RowO Kd.e 63 q c es]) (by repeat (first | exact Give.nil | (apply Give.perI; (repeat (first | exact List.Mem.head _ | apply List.Mem.tail))) | (apply Give.own; (repeat (first | exact Pick.here | apply Pick.there))))) (by repeat (first | exact Drop.refl | apply Drop.skip)))⟩
                  | exact ⟨_, TbE t n q c (es.set i ⟨nm.plain.1, some bb, (k.ask who m).2⟩) ++ [AllO LkE (es.set i ⟨nm.plain.1, some bb, (k.ask who m).2⟩)], rfl, ⟨es.set i ⟨nm.plain.1, some bb, (k.ask who m).2⟩, q, c, by show _ = Value.int .i64 (err (k.ask who m).1); rw [her], by rw [List.map_set]; rfl, rfl⟩, tb_fin he (hs.fit (M := [LkX bb (k.ask who m).2, AllO LkE (es.eraseIdx i), pv t 53 [.int .i64 n, .slice q es.length c], RowO Kd.e 63 q c es]) (by repeat (first | exact Give.nil | (apply Give.perI; (repeat (first | exact List.Mem.head _ | apply List.Mem.tail))) | (apply Give.own; (repeat (first | exact Pick.here | apply Pick.there))))) (by repeat (first | exact Drop.refl | apply Drop.skip)))⟩
                  | exact ⟨_, TbE t (n + 1) qn cn (es.take i ++ [(⟨nm.plain.1, some b71, ((Lk.mk [] []).ask who m).2⟩ : E)] ++ es.drop i) ++ [AllO LkE (es.take i ++ [(⟨nm.plain.1, some b71, ((Lk.mk [] []).ask who m).2⟩ : E)] ++ es.drop i)], rfl, ⟨es.take i ++ [(⟨nm.plain.1, some b71, ((Lk.mk [] []).ask who m).2⟩ : E)] ++ es.drop i, qn, cn, by show _ = Value.int .i64 (err ((Lk.mk [] []).ask who m).1); rw [her], by rw [List.map_append, List.map_append, List.map_take, List.map_drop]; rfl, rfl⟩, tb_fin2 hile (hs.fit (M := [LkX b71 ((Lk.mk [] []).ask who m).2, AllO LkE es, pv t 53 [.int .i64 (n + 1), .slice qn (es.length + 1 : Nat) cn], RowO Kd.e 63 qn cn (es.take i ++ [(⟨nm.plain.1, some b71, ⟨[], []⟩⟩ : E)] ++ es.drop i)]) (by repeat (first | exact Give.nil | (apply Give.perI; (repeat (first | exact List.Mem.head _ | apply List.Mem.tail))) | (apply Give.own; (repeat (first | exact Pick.here | apply Pick.there))))) (by repeat (first | exact Drop.refl | apply Drop.skip)))⟩
              · have her : err ((Lk.mk [] []).ask who m).1 = 0 := by unfold err; rw [if_pos (by simpa using g94)]
                refine K.skip <| K.seq ?_
                refine K.region ?_
                refine KO.q rfl (q_assign rfl) ?_
                refine KO.done ?_
                refine K.ret (fn := Tryz.f6) Tryz.func6 (fun a w hk hs => res1 Tryz.results6 hk rfl) (fun w hs => ?_)
                rw [hr]
                first
                  | exact ⟨_, TbE t (n + 1) q c (es.set i ⟨nm.plain.1, some bb, (k.ask who m).2⟩) ++ [AllO LkE (es.set i ⟨nm.plain.1, some bb, (k.ask who m).2⟩)], rfl, ⟨es.set i ⟨nm.plain.1, some bb, (k.ask who m).2⟩, q, c, by show _ = Value.int .i64 (err (k.ask who m).1); rw [her], by rw [List.map_set]; rfl, rfl⟩, tb_fin he (hs.fit (M := [LkX bb (k.ask who m).2, AllO LkE (es.eraseIdx i), pv t 53 [.int .i64 (n + 1), .slice q es.length c], RowO Kd.e 63 q c es]) (by repeat (first | exact Give.nil | (apply Give.perI; (repeat (first | exact List.Mem.head _ | apply List.Mem.tail))) | (apply Give.own; (repeat (first | exact Pick.here | apply Pick.there))))) (by repeat (first | exact Drop.refl | apply Drop.skip)))⟩
                  | exact ⟨_, TbE t n q c (es.set i ⟨nm.plain.1, some bb, (k.ask who m).2⟩) ++ [AllO LkE (es.set i ⟨nm.plain.1, some bb, (k.ask who m).2⟩)], rfl, ⟨es.set i ⟨nm.plain.1, some bb, (k.ask who m).2⟩, q, c, by show _ = Value.int .i64 (err (k.ask who m).1); rw [her], by rw [List.map_set]; rfl, rfl⟩, tb_fin he (hs.fit (M := [LkX bb (k.ask who m).2, AllO LkE (es.eraseIdx i), pv t 53 [.int .i64 n, .slice q es.length c], RowO Kd.e 63 q c es]) (by repeat (first | exact Give.nil | (apply Give.perI; (repeat (first | exact List.Mem.head _ | apply List.Mem.tail))) | (apply Give.own; (repeat (first | exact Pick.here | apply Pick.there))))) (by repeat (first | exact Drop.refl | apply Drop.skip)))⟩
                  | exact ⟨_, TbE t (n + 1) qn cn (es.take i ++ [(⟨nm.plain.1, some b71, ((Lk.mk [] []).ask who m).2⟩ : E)] ++ es.drop i) ++ [AllO LkE (es.take i ++ [(⟨nm.plain.1, some b71, ((Lk.mk [] []).ask who m).2⟩ : E)] ++ es.drop i)], rfl, ⟨es.take i ++ [(⟨nm.plain.1, some b71, ((Lk.mk [] []).ask who m).2⟩ : E)] ++ es.drop i, qn, cn, by show _ = Value.int .i64 (err ((Lk.mk [] []).ask who m).1); rw [her], by rw [List.map_append, List.map_append, List.map_take, List.map_drop]; rfl, rfl⟩, tb_fin2 hile (hs.fit (M := [LkX b71 ((Lk.mk [] []).ask who m).2, AllO LkE es, pv t 53 [.int .i64 (n + 1), .slice qn (es.length + 1 : Nat) cn], RowO Kd.e 63 qn cn (es.take i ++ [(⟨nm.plain.1, some b71, ⟨[], []⟩⟩ : E)] ++ es.drop i)]) (by repeat (first | exact Give.nil | (apply Give.perI; (repeat (first | exact List.Mem.head _ | apply List.Mem.tail))) | (apply Give.own; (repeat (first | exact Pick.here | apply Pick.there))))) (by repeat (first | exact Drop.refl | apply Drop.skip)))⟩
            · rw [g40] at g62; exact absurd g62 (by decide)
end Go.Proofs.YtcpkcjabmookmaaGreat.L
