/- Walks: the document's table of locks: asking. -/
import Derived.Test.YtcpkcjabmookmaaGreatPX
namespace Go.Proofs.YtcpkcjabmookmaaGreat.L
open Go Go.Proofs
attribute [local irreducible] pv fv pt fz RowF RowO rowP old pure_ elA
set_option maxRecDepth 100000
set_option linter.unusedSimpArgs false
set_option linter.unusedVariables false

theorem tr_fin {t : Nat} {q : Option Addr} {c : Nat} {es : List E} {i : Nat} {nm' : Nm} {bb : Nat} {k k' : Lk} {ρ : World} {L : List HP} {w : World} (he : es[i]? = some ⟨nm', some bb, k⟩) (h : St ρ ([RkX bb k', AllO RkE (es.eraseIdx i), pv t 29 [.slice q es.length c], RowO Kd.e 79 q c es] ++ L) w) :
    St ρ ((TrE t q c (es.set i ⟨nm', some bb, k'⟩) ++ [AllO RkE (es.set i ⟨nm', some bb, k'⟩)]) ++ L) w := by
  have h1 := tr_close (e := ⟨nm', some bb, k'⟩) rfl (List.getElem?_eq_some_iff.1 he).1 h
  have h2 := rowO_cells (hl := e_sz) (h1 := e_one) (map_set_cells (e' := ⟨nm', some bb, k'⟩) he rfl) (h1.pick (L' := AllO RkE (es.set i ⟨nm', some bb, k'⟩) :: pv t 29 [.slice q es.length c] :: L) (by repeat (first | exact Pick.here | apply Pick.there)))
  rw [show es.length = (es.set i ⟨nm', some bb, k'⟩).length from List.length_set.symm] at h2
  exact h2.fitD
theorem tr_fin2 {t : Nat} {q : Option Addr} {c : Nat} {es : List E} {i : Nat} {p : Nm} {b : Nat} {k k' : Lk} {ρ : World} {L : List HP} {w : World} (hi : i ≤ es.length) (h : St ρ ([RkX b k', AllO RkE es, pv t 29 [.slice q (es.take i ++ [(⟨p, some b, k⟩ : E)] ++ es.drop i).length c], RowO Kd.e 79 q c (es.take i ++ [(⟨p, some b, k⟩ : E)] ++ es.drop i)] ++ L) w) :
    St ρ ((TrE t q c (es.take i ++ [(⟨p, some b, k'⟩ : E)] ++ es.drop i) ++ [AllO RkE (es.take i ++ [(⟨p, some b, k'⟩ : E)] ++ es.drop i)]) ++ L) w := by
  have h1 := allO_put (f := RkE) (l' := es.take i ++ [(⟨p, some b, k'⟩ : E)] ++ es.drop i) (x := ⟨p, some b, k'⟩) (pick_map_ins RkE _ hi) (St.exI (f := fun bb : { bb : Nat // some b = some bb } => [RkX bb.1 k']) ⟨b, rfl⟩ h)
  have hlen : (es.take i ++ [(⟨p, some b, k⟩ : E)] ++ es.drop i).length = (es.take i ++ [(⟨p, some b, k'⟩ : E)] ++ es.drop i).length := by
    simp only [List.length_append, List.length_singleton]
  rw [hlen] at h1
  have h2 := rowO_cells (hl := e_sz) (h1 := e_one) (map_ins_cells (k' := k')) (h1.pick (L' := AllO RkE (es.take i ++ [(⟨p, some b, k'⟩ : E)] ++ es.drop i) :: pv t 29 [.slice q (es.take i ++ [(⟨p, some b, k'⟩ : E)] ++ es.drop i).length c] :: L) (by repeat (first | exact Pick.here | apply Pick.there)))
  exact h2.fitD
set_option maxHeartbeats 6400000 in
theorem tr_Ask (t : Nat) (q : Option Addr) (c : Nat) (es : List E) (who : Int) (nm : Nm) (m : Int) (hs0 : SrtT (es.map E.abs)) (hri : RI (es.map E.abs)) (hz : ∀ e ∈ es, e.k.size ≤ 1000000) (hl : es.length ≤ 1000000) (hsm : sumN es ≤ 1000000) (hnf : nm.fits) : Fn Tryz.prog 8 [.pointer (some ⟨t, 0, none⟩), .int .i64 who, .agg nm.cells.toArray, .int .i64 m].toArray (TrE t q c es ++ [AllO RkE es]) (fun r post => ∃ es' q' c', r = .int .i64 (askT (es.map E.abs) (sumN es : Nat) who nm m).1 ∧ es'.map E.abs = (askT (es.map E.abs) (sumN es : Nat) who nm m).2.1 ∧ post = TrE t q' c' es' ++ [AllO RkE es']) := by
  have hl2 : es.length ≤ 1000000000 := by omega
  have hinv : ∀ e ∈ es, e.k.Inv := fun e he => hri.inv e.abs (List.mem_map_of_mem he)
  have hok : ∀ e ∈ es, e.k.Ok := fun e he => (hinv e he).ok
  have hpf := plain_fits hnf
  obtain ⟨n, hn⟩ : ∃ n : Int, n = (sumN es : Nat) := ⟨_, rfl⟩
  have hat := atT_lb hs0 nm.plain.1
  rw [← hn]
  refine Fn.enter (N := 115) Tryz.func8 rfl Tryz.ntmps8 (by kernel_rfl) rfl (fun ρ L => ?_)
  refine K.seq ?_
  refine K.fact (fun w h => rowO_cap (e := 79) (k := Kd.e) (p := q) (cap := c) (xs := es) (by repeat (first | exact List.Mem.head _ | apply List.Mem.tail)) w h) (fun hc2 => ?_)
  refine K.region ?_
  refine KO.loud rfl (l_box rfl rfl) ?_
  rintro _ _ ⟨b6, rfl, rfl⟩
  refine KO.q rfl (q_assign rfl) ?_
  refine KO.done ?_
  refine K.seq <| K.seq ?_
  refine K.region ?_
  refine KO.q rfl (q_field fo_31_0 rfl) ?_
  refine KO.q rfl (q_load1D ck_3 rfl) ?_
  refine KO.q rfl (q_lt rfl rfl) ?_
  refine KO.q rfl (q_move rfl) ?_
  refine KO.dsplit 15 rfl (fun g15 => ?_) (fun g15 => ?_)
  · have hp : nm.plain.2 = false := Bool.eq_false_iff.2 (fun h => by have := plain_ok.1 h; omega)
    have hr : askT (es.map E.abs) n who nm m = (1, es.map E.abs, n) := by unfold askT; rw [if_pos hp]
    refine KO.skip rfl ?_
    refine KO.skip rfl ?_
    refine KO.skip rfl ?_
    refine KO.q rfl (q_pickT rfl rfl) ?_
    refine KO.done ?_
    refine K.yes rfl ?_
    refine K.seq ?_
    refine K.region ?_
    refine KO.q rfl (q_assign rfl) ?_
    refine KO.done ?_
    refine K.ret (fn := Tryz.f8) Tryz.func8 (fun a w hk hs => res1 Tryz.results8 hk rfl) (fun w hs => ?_)
    rw [hr]
    exact ⟨_, TrE t q c es ++ [AllO RkE es], rfl, ⟨es, q, c, rfl, rfl, rfl⟩, hs.fitD⟩
  · refine KO.q rfl (q_field fo_31_0 rfl) ?_
    refine KO.q rfl (q_load1D ck_3 rfl) ?_
    refine KO.q rfl (q_gt rfl rfl) ?_
    refine KO.q rfl (q_pickF rfl rfl) ?_
    refine KO.done ?_
    refine K.dcond (s := 19) rfl (fun g19 => ?_) (fun g19 => ?_)
    · have hp : nm.plain.2 = false := Bool.eq_false_iff.2 (fun h => by have := plain_ok.1 h; omega)
      have hr : askT (es.map E.abs) n who nm m = (1, es.map E.abs, n) := by unfold askT; rw [if_pos hp]
      refine K.seq ?_
      refine K.region ?_
      refine KO.q rfl (q_assign rfl) ?_
      refine KO.done ?_
      refine K.ret (fn := Tryz.f8) Tryz.func8 (fun a w hk hs => res1 Tryz.results8 hk rfl) (fun w hs => ?_)
      rw [hr]
      exact ⟨_, TrE t q c es ++ [AllO RkE es], rfl, ⟨es, q, c, rfl, rfl, rfl⟩, hs.fitD⟩
    · have hpl : nm.plain.2 = true := plain_ok.2 (by omega)
      have hpl' : ¬ nm.plain.2 = false := by rw [hpl]; decide
      refine K.skip <| K.seq ?_
      refine K.region ?_
      refine KO.q rfl (q_move rfl) ?_
      refine KO.q rfl (q_move rfl) ?_
      refine KO.loud rfl (OpL.callD rfl (h := tr_Waiting t q c es who hz hl2)) ?_
      rintro _ _ ⟨_, ⟨rfl, rfl⟩, rfl⟩
      rw [find_line who hinv]
      refine KO.q rfl (q_move rfl) ?_
      refine KO.q rfl (q_extract rfl rfl) ?_
      refine KO.q rfl (q_extract rfl rfl) ?_
      refine KO.loud rfl (l_alloc zo_31) ?_
      rintro _ _ ⟨b9, rfl, rfl⟩
      refine KO.loudN rfl (l_storeAll ck_31 rfl rfl ⟨rfl, rfl⟩ (nm_one _) (by repeat (first | exact Pick.here | apply Pick.there))) ?_
      rintro _ _ ⟨rfl, rfl⟩
      refine KO.q rfl (q_assign rfl) ?_
      refine KO.done ?_
      refine K.seq <| K.seq ?_
      refine K.region ?_
      refine KO.q rfl (q_move rfl) ?_
      refine KO.done ?_
      first | refine K.dcond (s := 26) rfl (fun g26 => ?_) (fun g26 => ?_) | refine K.bcond (s := 26) rfl (fun g26 => ?_) (fun g26 => ?_)
      · have hr : askT (es.map E.abs) n who nm m = (2, es.map E.abs, n) := by unfold askT; rw [if_neg hpl', if_pos (by rw [← tWait_some]; exact g26)]
        refine K.seq ?_
        refine K.region ?_
        refine KO.q rfl (q_assign rfl) ?_
        refine KO.done ?_
        refine K.ret (fn := Tryz.f8) Tryz.func8 (fun a w hk hs => res1 Tryz.results8 hk rfl) (fun w hs => ?_)
        rw [hr]
        exact ⟨_, TrE t q c es ++ [AllO RkE es], rfl, ⟨es, q, c, rfl, rfl, rfl⟩, hs.fitD⟩
      · have hwt : ¬ (waitT (es.map E.abs) who).isSome = true := by rw [← tWait_some, g26]; decide
        have hnl : ∀ e ∈ es, ¬ 0 ≤ at1 e.k.line who := fun e he h0 => by
          rw [← find_line who hinv] at g26
          have h1 : es.find? (lineE who) = none := Option.not_isSome_iff_eq_none.1 (by rw [g26]; decide)
          exact List.find?_eq_none.1 h1 e he (decide_eq_true h0)
        refine K.skip <| K.seq ?_
        refine K.region ?_
        refine KO.q rfl (q_loadN ck_31 rfl rfl (by first | (apply cells_pv; (repeat (first | exact List.Mem.head _ | apply List.Mem.tail))) | (apply cells_fv; (repeat (first | exact List.Mem.head _ | apply List.Mem.tail))))) ?_
        refine KO.loud rfl (OpL.callD rfl (h := rf_plain _)) ?_
        rintro _ _ ⟨_, ⟨rfl, rfl⟩, rfl⟩
        refine KO.loudN rfl (l_storeAll ck_31 rfl rfl ⟨rfl, rfl⟩ (nm_one _) (by repeat (first | exact Pick.here | apply Pick.there))) ?_
        rintro _ _ ⟨rfl, rfl⟩
        refine KO.done ?_
        refine K.seq ?_
        refine K.region ?_
        refine KO.q rfl (q_move rfl) ?_
        refine KO.q rfl (q_loadN ck_31 rfl rfl (by first | (apply cells_pv; (repeat (first | exact List.Mem.head _ | apply List.Mem.tail))) | (apply cells_fv; (repeat (first | exact List.Mem.head _ | apply List.Mem.tail))))) ?_
        refine KO.loud rfl (OpL.callD rfl (h := tr_at t q c es nm.plain.1 hl2)) ?_
        rintro _ _ ⟨_, ⟨rfl, rfl⟩, rfl⟩
        refine KO.q rfl (q_assign rfl) ?_
        refine KO.done ?_
        refine K.seq <| K.seq ?_
        refine K.region ?_
        refine KO.q rfl (q_move rfl) ?_
        refine KO.loud rfl (OpL.callD rfl (h := rm_mode _)) ?_
        rintro _ _ ⟨_, ⟨rfl, rfl⟩, rfl⟩
        refine KO.q rfl (q_eq rfl rfl) ?_
        refine KO.done ?_
        refine K.dcond (s := 34) rfl (fun g34 => ?_) (fun g34 => ?_)
        · have hr : askT (es.map E.abs) n who nm m = (0, es.map E.abs, n) := by unfold askT; rw [if_neg hpl', if_neg hwt, if_pos g34]
          refine K.seq ?_
          refine K.region ?_
          refine KO.q rfl (q_assign rfl) ?_
          refine KO.done ?_
          refine K.ret (fn := Tryz.f8) Tryz.func8 (fun a w hk hs => res1 Tryz.results8 hk rfl) (fun w hs => ?_)
          rw [hr]
          exact ⟨_, TrE t q c es ++ [AllO RkE es], rfl, ⟨es, q, c, rfl, rfl, rfl⟩, hs.fitD⟩
        · refine K.skip <| K.seq <| K.seq ?_
          refine K.region ?_
          refine KO.q rfl (q_move rfl) ?_
          refine KO.loud rfl (OpL.callD rfl (h := tr_Count t q c es hz hok hl hsm)) ?_
          rintro _ _ ⟨_, ⟨rfl, rfl⟩, rfl⟩
          rw [← hn]
          refine KO.q rfl (q_ge rfl rfl) ?_
          refine KO.q rfl (q_move rfl) ?_
          refine KO.dsplit 38 rfl (fun g38 => ?_) (fun g38 => ?_)
          · refine KO.q rfl (q_move rfl) ?_
            refine KO.q rfl (q_lt rfl rfl) ?_
            refine KO.q rfl (q_move rfl) ?_
            refine KO.dsplit 41 rfl (fun g41 => ?_) (fun g41 => ?_)
            · have hfF : ¬ fndT (es.map E.abs) nm.plain.1 = true := fun h => by rw [if_pos h] at hat; omega
              have hr : askT (es.map E.abs) n who nm m = (10, es.map E.abs, n) := by unfold askT; rw [if_neg hpl', if_neg hwt, if_neg g34, if_neg hfF, if_pos (by omega)]
              refine KO.skip rfl ?_
              refine KO.skip rfl ?_
              refine KO.skip rfl ?_
              refine KO.skip rfl ?_
              refine KO.skip rfl ?_
              refine KO.skip rfl ?_
              refine KO.skip rfl ?_
              refine KO.skip rfl ?_
              refine KO.skip rfl ?_
              refine KO.skip rfl ?_
              refine KO.skip rfl ?_
              refine KO.skip rfl ?_
              refine KO.skip rfl ?_
              refine KO.skip rfl ?_
              refine KO.q rfl (q_pickT rfl rfl) ?_
              refine KO.q rfl (q_pickT rfl rfl) ?_
              refine KO.done ?_
              refine K.yes rfl ?_
              refine K.seq ?_
              refine K.region ?_
              refine KO.q rfl (q_assign rfl) ?_
              refine KO.done ?_
              refine K.ret (fn := Tryz.f8) Tryz.func8 (fun a w hk hs => res1 Tryz.results8 hk rfl) (fun w hs => ?_)
              rw [hr]
              exact ⟨_, TrE t q c es ++ [AllO RkE es], rfl, ⟨es, q, c, rfl, rfl, rfl⟩, hs.fitD⟩
            · obtain ⟨i, e, he, hi, hen⟩ := atT_some g41
              have hez := hz e (List.mem_of_getElem? he)
              have hil := (List.getElem?_eq_some_iff.1 he).1
              have hfT : fndT (es.map E.abs) nm.plain.1 = true := Decidable.byContradiction fun h => by rw [if_neg h] at hat; omega
              have hlT : lbT (es.map E.abs) nm.plain.1 = i := by rw [if_pos hfT] at hat; omega
              have hkT : kAt (es.map E.abs) i = e.k := kAt_abs he
              have hel := hnl e (List.mem_of_getElem? he)
              refine KO.ex (fun w h => tr_openL he (h.pick (by repeat (first | exact Pick.here | apply Pick.there)))) (fun a => ?_)
              obtain ⟨⟨bb, hbb⟩, ⟨⟨q1, c1⟩, ⟨q2, c2⟩⟩⟩ := a
              obtain ⟨nm', pp, k⟩ := e
              have hbb : pp = some bb := hbb
              subst hbb
              have hez : k.size ≤ 1000000 := hez
              have hkT : kAt (es.map E.abs) i = k := hkT
              have hel : ¬ 0 ≤ at1 k.line who := hel
              have hkl : k.hold.length ≤ 1000000000 := by unfold Lk.size at hez; omega
              refine KO.q rfl (q_move rfl) ?_
              refine KO.q rfl (q_nilCheck rfl) ?_
              refine KO.q rfl (q_field fo_29_0 rfl) ?_
              refine KO.q rfl (q_load1D ck_27 rfl) ?_
              refine KO.q rfl (q_move rfl) ?_
              refine KO.q rfl (q_ix (xs := es) i se_27 rfl rfl hi isO (by repeat (first | exact List.Mem.head _ | apply List.Mem.tail)) rfl hil) ?_
              refine KO.q rfl (q_fieldE fo_79_1 rfl) ?_
              refine KO.q rfl (q_ldE (xs := es) ck_77 rfl isO (by repeat (first | exact List.Mem.head _ | apply List.Mem.tail)) he rfl) ?_
              refine KO.q rfl (q_nilCheck rfl) ?_
              refine KO.q rfl (q_field fo_76_0 rfl) ?_
              refine KO.q rfl (q_load1D ck_74 rfl) ?_
              refine KO.q rfl (q_move rfl) ?_
              refine KO.loud rfl (OpL.callD rfl (h := rf_findH 59 q1 c1 k.hold who hkl)) ?_
              rintro _ _ ⟨_, ⟨rfl, rfl⟩, rfl⟩
              refine KO.q rfl (q_lt rfl rfl) ?_
              refine KO.q rfl (q_pickF rfl rfl) ?_
              refine KO.q rfl (q_pickT rfl rfl) ?_
              refine KO.done ?_
              refine K.dcond (s := 57) rfl (fun g57 => ?_) (fun g57 => ?_)
              · have hmi : ¬ k.mine who = true := by rw [mineR, decide_eq_false (by omega), decide_eq_false hel]; decide
                have hr : askT (es.map E.abs) n who nm m = (10, es.map E.abs, n) := by unfold askT; rw [if_neg hpl', if_neg hwt, if_neg g34, if_pos hfT, hlT, hkT, if_neg hmi, if_pos (by omega)]
                refine K.st (fun w h => tr_backL he rfl (h.fit (M := RkL bb q1 c1 q2 c2 k ++ [AllO RkE (es.eraseIdx i), pv t 29 [.slice q es.length c], RowO Kd.e 79 q c es]) (by repeat (first | exact Give.nil | (apply Give.perI; (repeat (first | exact List.Mem.head _ | apply List.Mem.tail))) | (apply Give.own; (repeat (first | exact Pick.here | apply Pick.there))))) (by repeat (first | exact Drop.refl | apply Drop.skip)))) ?_
                refine K.seq ?_
                refine K.region ?_
                refine KO.q rfl (q_assign rfl) ?_
                refine KO.done ?_
                refine K.ret (fn := Tryz.f8) Tryz.func8 (fun a w hk hs => res1 Tryz.results8 hk rfl) (fun w hs => ?_)
                rw [hr]
                exact ⟨_, TrE t q c es ++ [AllO RkE es], rfl, ⟨es, q, c, rfl, rfl, rfl⟩, hs.fitD⟩
              · have hmi : k.mine who = true := by rw [mineR, decide_eq_true (by omega)]; rfl
                have hr : askT (es.map E.abs) n who nm m = (err (k.ask who m).1, (es.map E.abs).set i ⟨nm.plain.1, (k.ask who m).2⟩, n) := by unfold askT; rw [if_neg hpl', if_neg hwt, if_neg g34, if_pos hfT, hlT, hkT, if_pos hmi]
                refine K.st (fun w h => tr_backL he rfl (h.fit (M := RkL bb q1 c1 q2 c2 k ++ [AllO RkE (es.eraseIdx i), pv t 29 [.slice q es.length c], RowO Kd.e 79 q c es, pv b6 31 nm.plain.1.cells]) (by repeat (first | exact Give.nil | (apply Give.perI; (repeat (first | exact List.Mem.head _ | apply List.Mem.tail))) | (apply Give.own; (repeat (first | exact Pick.here | apply Pick.there))))) (by repeat (first | exact Drop.refl | apply Drop.skip)))) ?_
                have hr1 : (askT (es.map E.abs) n who nm m).1 = err (k.ask who m).1 := by rw [hr]
                have hr2 : (askT (es.map E.abs) n who nm m).2.1 = (es.map E.abs).set i ⟨nm.plain.1, (k.ask who m).2⟩ := by rw [hr]
                clear hr
                have hen : nm' = nm.plain.1 := hen
                refine K.skip <| K.seq <| K.seq ?_
                refine K.region ?_
                refine KO.q rfl (q_move rfl) ?_
                refine KO.q rfl (q_lt rfl rfl) ?_
                refine KO.done ?_
                refine K.dcond (s := 59) rfl (fun g59 => ?_) (fun g59 => ?_)
                · exact absurd g59 g41
                · subst hen
                  refine K.ex (fun w h => tr_open he (h.pick (by repeat (first | exact Pick.here | apply Pick.there)))) (fun bx => ?_)
                  obtain ⟨bx, hbx⟩ := bx
                  obtain rfl : bx = bb := (Option.some.inj hbx).symm
                  refine K.skip <| K.seq <| K.seq ?_
                  refine K.region ?_
                  refine KO.q rfl (q_move rfl) ?_
                  refine KO.q rfl (q_nilCheck rfl) ?_
                  refine KO.q rfl (q_field fo_29_0 rfl) ?_
                  refine KO.q rfl (q_load1D ck_27 rfl) ?_
                  refine KO.q rfl (q_move rfl) ?_
                  refine KO.q rfl (q_ix (xs := es) i se_27 rfl rfl hi isO (by repeat (first | exact List.Mem.head _ | apply List.Mem.tail)) rfl hil) ?_
                  refine KO.q rfl (q_fieldE fo_79_1 rfl) ?_
                  refine KO.q rfl (q_ldE (xs := es) ck_77 rfl isO (by repeat (first | exact List.Mem.head _ | apply List.Mem.tail)) he rfl) ?_
                  refine KO.q rfl (q_move rfl) ?_
                  refine KO.q rfl (q_move rfl) ?_
                  refine KO.loud rfl (OpL.callD rfl (h := rf_AskX bx k who m hez)) ?_
                  rintro _ _ ⟨_, ⟨rfl, rfl⟩, rfl⟩
                  refine KO.done ?_
                  refine K.bcond (s := 114) rfl (fun g114 => ?_) (fun g114 => ?_)
                  · refine K.seq ?_
                    refine K.region ?_
                    refine KO.q rfl (q_assign rfl) ?_
                    refine KO.done ?_
                    refine K.ret (fn := Tryz.f8) Tryz.func8 (fun a w hk hs => res1 Tryz.results8 hk rfl) (fun w hs => ?_)
                    rw [hr1, hr2]
                    exact ⟨_, TrE t q c (es.set i ⟨nm.plain.1, some bx, (k.ask who m).2⟩) ++ [AllO RkE (es.set i ⟨nm.plain.1, some bx, (k.ask who m).2⟩)], rfl, ⟨es.set i ⟨nm.plain.1, some bx, (k.ask who m).2⟩, q, c, by unfold err; simp_all, by rw [List.map_set]; rfl, rfl⟩, tr_fin he (hs.fit (M := [RkX bx (k.ask who m).2, AllO RkE (es.eraseIdx i), pv t 29 [.slice q es.length c], RowO Kd.e 79 q c es]) (by repeat (first | exact Give.nil | (apply Give.perI; (repeat (first | exact List.Mem.head _ | apply List.Mem.tail))) | (apply Give.own; (repeat (first | exact Pick.here | apply Pick.there))))) (by repeat (first | exact Drop.refl | apply Drop.skip)))⟩
                  · refine K.skip <| K.seq ?_
                    refine K.region ?_
                    refine KO.q rfl (q_assign rfl) ?_
                    refine KO.done ?_
                    refine K.ret (fn := Tryz.f8) Tryz.func8 (fun a w hk hs => res1 Tryz.results8 hk rfl) (fun w hs => ?_)
                    rw [hr1, hr2]
                    exact ⟨_, TrE t q c (es.set i ⟨nm.plain.1, some bx, (k.ask who m).2⟩) ++ [AllO RkE (es.set i ⟨nm.plain.1, some bx, (k.ask who m).2⟩)], rfl, ⟨es.set i ⟨nm.plain.1, some bx, (k.ask who m).2⟩, q, c, by unfold err; simp_all, by rw [List.map_set]; rfl, rfl⟩, tr_fin he (hs.fit (M := [RkX bx (k.ask who m).2, AllO RkE (es.eraseIdx i), pv t 29 [.slice q es.length c], RowO Kd.e 79 q c es]) (by repeat (first | exact Give.nil | (apply Give.perI; (repeat (first | exact List.Mem.head _ | apply List.Mem.tail))) | (apply Give.own; (repeat (first | exact Pick.here | apply Pick.there))))) (by repeat (first | exact Drop.refl | apply Drop.skip)))⟩
          · refine KO.skip rfl ?_
            refine KO.skip rfl ?_
            refine KO.skip rfl ?_
            refine KO.gone rfl ?_
            refine KO.gone rfl ?_
            refine KO.gone rfl ?_
            refine KO.gone rfl ?_
            refine KO.gone rfl ?_
            refine KO.gone rfl ?_
            refine KO.gone rfl ?_
            refine KO.gone rfl ?_
            refine KO.gone rfl ?_
            refine KO.gone rfl ?_
            refine KO.gone rfl ?_
            refine KO.gone rfl ?_
            refine KO.gone rfl ?_
            refine KO.gone rfl ?_
            refine KO.skip rfl ?_
            refine KO.q rfl (q_pickF rfl rfl) ?_
            refine KO.done ?_
            refine K.no rfl ?_
            refine K.skip <| K.seq <| K.seq ?_
            refine K.region ?_
            refine KO.q rfl (q_move rfl) ?_
            refine KO.q rfl (q_lt rfl rfl) ?_
            refine KO.done ?_
            refine K.dcond (s := 59) rfl (fun g59 => ?_) (fun g59 => ?_)
            · have hfF : ¬ fndT (es.map E.abs) nm.plain.1 = true := fun h => by rw [if_pos h] at hat; omega
              refine K.seq ?_
              refine K.region ?_
              refine KO.q rfl (q_assign rfl) ?_
              refine KO.done ?_
              refine K.seq <| K.block ?_
              refine K.rounds2 (ι := { i : Nat // i ≤ es.length ∧ (es.take i).all (fun e => decide (cmpN e.name nm.plain.1 < 0)) = true }) (fun s => [(11, .int .i64 s.1), (0, .pointer (some ⟨t, 0, none⟩)), (1, .int .i64 who), (3, .int .i64 m), (6, .pointer (some ⟨b6, 0, none⟩))]) (fun s => TrE t q c es ++ [AllO RkE es, pv b6 31 nm.plain.1.cells] ++ L) (fun s => es.length - s.1) ⟨0, Nat.zero_le _, rfl⟩ (by repeat (first | exact Env.sub_nil _ | refine Env.sub_cons rfl ?_)) (fun w h => h.fitD) (fun s ih => ?_)
              obtain ⟨i, hi, hno⟩ := s
              dsimp only at hi hno ⊢
              refine K.seq <| K.seq ?_
              refine K.drawS [pv t 29 [.slice q es.length c], RowO Kd.e 79 q c es, pv b6 31 nm.plain.1.cells] (fun _ h => h.subD) mixed ?_
              refine D.q 0 rfl (by kernel_rfl) (by kernel_rfl) (q_move rfl) (fun _ h => h.subD) ?_
              refine D.q 1 rfl (by kernel_rfl) (by kernel_rfl) (q_move rfl) (fun _ h => h.subD) ?_
              refine D.q 2 rfl (by kernel_rfl) (by kernel_rfl) (q_nilCheck rfl) (fun _ h => h.subD) ?_
              refine D.q 3 rfl (by kernel_rfl) (by kernel_rfl) (q_field fo_29_0 rfl) (fun _ h => h.subD) ?_
              refine D.q 4 rfl (by kernel_rfl) (by kernel_rfl) (q_load1D ck_27 rfl) (fun _ h => h.subD) ?_
              refine D.q 5 rfl (by kernel_rfl) (by kernel_rfl) (q_len Tryz.underlying27 rfl) (fun _ h => h.subD) ?_
              refine D.q 6 rfl (by kernel_rfl) (by kernel_rfl) (q_lt rfl rfl) (fun _ h => h.subD) ?_
              refine D.q 7 rfl (by kernel_rfl) (by kernel_rfl) (q_move rfl) (fun _ h => h.subD) ?_
              refine D.dsplit 67 rfl (fun g67 => ?_) (fun g67 => ?_)
              · obtain ⟨e, he⟩ : ∃ e, es[i]? = some e := ⟨_, List.getElem?_eq_getElem (by omega)⟩
                have hef : e.name.fits := hri.fits e.abs (List.mem_map_of_mem (List.mem_of_getElem? he))
                refine D.q 8 rfl (by kernel_rfl) (by kernel_rfl) (q_move rfl) (fun _ h => h.subD) ?_
                refine D.q 9 rfl (by kernel_rfl) (by kernel_rfl) (q_nilCheck rfl) (fun _ h => h.subD) ?_
                refine D.q 10 rfl (by kernel_rfl) (by kernel_rfl) (q_field fo_29_0 rfl) (fun _ h => h.subD) ?_
                refine D.q 11 rfl (by kernel_rfl) (by kernel_rfl) (q_load1D ck_27 rfl) (fun _ h => h.subD) ?_
                refine D.q 12 rfl (by kernel_rfl) (by kernel_rfl) (q_move rfl) (fun _ h => h.subD) ?_
                refine D.q 13 rfl (by kernel_rfl) (by kernel_rfl) (q_ix (xs := es) i se_27 rfl rfl rfl isO (by repeat (first | exact List.Mem.head _ | apply List.Mem.tail)) rfl (by omega)) (fun _ h => h.subD) ?_
                refine D.q 14 rfl (by kernel_rfl) (by kernel_rfl) (q_fieldE fo_79_0 rfl) (fun _ h => h.subD) ?_
                refine D.q 15 rfl (by kernel_rfl) (by kernel_rfl) (q_ldES (xs := es) (enc := E.cells) sub_e_name nm_sz ck_31 rfl isO (by repeat (first | exact List.Mem.head _ | apply List.Mem.tail)) he) (fun _ h => h.subD) ?_
                refine D.q 16 rfl (by kernel_rfl) (by kernel_rfl) (q_loadN ck_31 rfl rfl (by first | (apply cells_pv; (repeat (first | exact List.Mem.head _ | apply List.Mem.tail))) | (apply cells_fv; (repeat (first | exact List.Mem.head _ | apply List.Mem.tail))))) (fun _ h => h.subD) ?_
                refine D.all (rs := [17]) (by kernel_rfl) rfl (DAll.cons rfl (by kernel_rfl) (OpL.callD rfl (h := rf_ahead _ _ (by assumption) (by assumption))) (.inr (by rintro _ _ ⟨_, ⟨rfl, rfl⟩, rfl⟩ w h; exact h.subD)) rfl ?_ DAll.nil)
                rintro _ _ ⟨_, ⟨rfl, rfl⟩, rfl⟩
                refine D.q 18 rfl (by kernel_rfl) (by kernel_rfl) (q_pickT rfl rfl) (fun _ h => h.subD) ?_
                refine D.done (by kernel_rfl) ?_
                refine K.bcond (s := 78) rfl (fun g78 => ?_) (fun g78 => ?_)
                · refine K.skip <| K.block ?_
                  refine K.region ?_
                  refine KO.q rfl (q_move rfl) ?_
                  refine KO.q rfl (q_add rfl rfl (by first | omega | (simp; omega)) (by first | omega | (simp; omega))) ?_
                  refine KO.q rfl (q_assign rfl) ?_
                  refine KO.done ?_
                  refine K.inBlock ?_
                  exact K.weak (by repeat (first | exact Env.sub_nil _ | refine Env.sub_cons rfl ?_)) (fun w h => h.fitD) (ih ⟨i + 1, by omega, by rw [all_take_succ he, hno, g78]; rfl⟩ (by show es.length - (i + 1) < es.length - i; omega))
                · have hlb : lbN es nm.plain.1 = i := tw_eq hno hi (fun x hx => by rw [he] at hx; cases hx; exact g78)
                  clear ih
                  refine K.exit rfl ?_
                  have hlT : lbT (es.map E.abs) nm.plain.1 = i := by rw [← lbN_abs, hlb]
                  have hr : askT (es.map E.abs) n who nm m = (err ((Lk.mk [] []).ask who m).1, (es.map E.abs).take i ++ [⟨nm.plain.1, ((Lk.mk [] []).ask who m).2⟩] ++ (es.map E.abs).drop i, n + 1) := by unfold askT; rw [if_neg hpl', if_neg hwt, if_neg g34, if_neg hfF, if_neg (by omega), hlT]
                  refine K.drawS [pv t 29 [.slice q es.length c], RowO Kd.e 79 q c es, pv b6 31 nm.plain.1.cells] (fun _ h => h.subD) mixed ?_
                  refine D.q 0 rfl (by kernel_rfl) (by kernel_rfl) (q_move rfl) (fun _ h => h.subD) ?_
                  refine D.q 1 rfl (by kernel_rfl) (by kernel_rfl) (q_move rfl) (fun _ h => h.subD) ?_
                  refine D.q 2 rfl (by kernel_rfl) (by kernel_rfl) (q_nilCheck rfl) (fun _ h => h.subD) ?_
                  refine D.q 3 rfl (by kernel_rfl) (by kernel_rfl) (q_field fo_29_0 rfl) (fun _ h => h.subD) ?_
                  refine D.q 4 rfl (by kernel_rfl) (by kernel_rfl) (q_load1D ck_27 rfl) (fun _ h => h.subD) ?_
                  refine D.q 5 rfl (by kernel_rfl) (by kernel_rfl) (q_move rfl) (fun _ h => h.subD) ?_
                  refine D.q 6 rfl (by kernel_rfl) (by kernel_rfl) (q_cutH se_27 rfl rfl (by first | omega | (simp; omega)) (by first | omega | (simp; omega))) (fun _ h => h.subD) ?_
                  refine D.q 8 rfl (by kernel_rfl) (by kernel_rfl) (q_loadN ck_31 rfl rfl (by first | (apply cells_pv; (repeat (first | exact List.Mem.head _ | apply List.Mem.tail))) | (apply cells_fv; (repeat (first | exact List.Mem.head _ | apply List.Mem.tail))))) (fun _ h => h.subD) ?_
                  refine D.q 9 rfl (by kernel_rfl) (by kernel_rfl) (q_build st_76 rfl (by repeat (first | exact Fill.nil | (apply Fill.cons; rfl; rfl; rfl) | exact SetN.nil | apply SetN.cons | exact SetAt.here | apply SetAt.there))) (fun _ h => h.subD) ?_
                  refine D.q 14 rfl (by kernel_rfl) (by kernel_rfl) (q_move rfl) (fun _ h => h.subD) ?_
                  refine D.q 15 rfl (by kernel_rfl) (by kernel_rfl) (q_nilCheck rfl) (fun _ h => h.subD) ?_
                  refine D.q 16 rfl (by kernel_rfl) (by kernel_rfl) (q_field fo_29_0 rfl) (fun _ h => h.subD) ?_
                  refine D.q 17 rfl (by kernel_rfl) (by kernel_rfl) (q_load1D ck_27 rfl) (fun _ h => h.subD) ?_
                  refine D.q 18 rfl (by kernel_rfl) (by kernel_rfl) (q_move rfl) (fun _ h => h.subD) ?_
                  refine D.q 19 rfl (by kernel_rfl) (by kernel_rfl) (q_cutL se_27 rfl rfl (by first | omega | (simp; omega)) (by first | omega | (simp; omega)) (by first | omega | (simp; omega))) (fun _ h => h.subD) ?_
                  refine D.st (fun w h => rowO_nil (k := Kd.e) 79 h) ?_
                  refine D.all (rs := [7, 10]) (by kernel_rfl) rfl (DAll.cons rfl (by kernel_rfl) (l_append Kd.e (ys := es.take i) se_27 Tryz.underlying27 ⟨_, ze_79, rfl⟩ (by decide) rfl rfl (by repeat (first | exact Pick.here | apply Pick.there)) (isRow_take isO i) (by repeat (first | exact List.Mem.head _ | apply List.Mem.tail)) rfl (by rw [List.length_take]; omega) (by rw [List.length_take]; show (2 * (0 + _) + 768) * 48 ≤ _; omega)) (.inr (by rintro _ _ ⟨pa, ca, rfl, rfl⟩ w h; exact h.subD)) rfl ?_ (DAll.cons rfl (by kernel_rfl) (l_box rfl rfl) (.inr (by rintro _ _ ⟨b91, rfl, rfl⟩ w h; exact h.subD)) rfl ?_ DAll.nil))
                  · rintro _ _ ⟨pa, ca, rfl, rfl⟩
                    refine D.all (rs := [10]) (by kernel_rfl) rfl (DAll.cons rfl (by kernel_rfl) (l_box rfl rfl) (.inr (by rintro _ _ ⟨b91, rfl, rfl⟩ w h; exact h.subD)) rfl ?_ DAll.nil)
                    rintro _ _ ⟨b91, rfl, rfl⟩
                    refine D.st (fun w h => rkX_new h) ?_
                    refine D.q 11 rfl (by kernel_rfl) (by kernel_rfl) (q_as (q_build st_79 rfl (by repeat (first | exact Fill.nil | (apply Fill.cons; rfl; rfl; rfl) | exact SetN.nil | apply SetN.cons | exact SetAt.here | apply SetAt.there))) (show _ = E.cells ⟨nm.plain.1, some b91, ⟨[], []⟩⟩ from rfl)) (fun _ h => h.subD) ?_
                    refine D.all (rs := [12]) (by kernel_rfl) rfl (DAll.cons rfl (by kernel_rfl) (l_slice1 sz_27_1 rfl rfl ⟨rfl, rfl, rfl⟩) (.inr (by rintro _ _ ⟨b93, rfl, rfl⟩ w h; exact h.subD)) rfl ?_ DAll.nil)
                    rintro _ _ ⟨b93, rfl, rfl⟩
                    refine D.all (rs := [13]) (by kernel_rfl) rfl (DAll.cons rfl (by kernel_rfl) (l_append Kd.e (ys := [⟨nm.plain.1, some b91, ⟨[], []⟩⟩]) se_27 Tryz.underlying27 ⟨_, ze_79, rfl⟩ (by decide) rfl rfl (by repeat (first | exact Pick.here | apply Pick.there)) isP (by repeat (first | exact List.Mem.head _ | apply List.Mem.tail)) rfl rfl (by rw [List.nil_append, List.length_take]; show (2 * (_ + 1) + 768) * 48 ≤ _; omega)) (.inr (by rintro _ _ ⟨pb, cb, rfl, rfl⟩ w h; exact h.subD)) rfl ?_ DAll.nil)
                    rintro _ _ ⟨pb, cb, rfl, rfl⟩
                    refine D.all (rs := [20]) (by kernel_rfl) rfl (DAll.cons rfl (by kernel_rfl) (l_append Kd.e (ys := es.drop i) se_27 Tryz.underlying27 ⟨_, ze_79, rfl⟩ (by decide) rfl rfl (by repeat (first | exact Pick.here | apply Pick.there)) (isO_cut i) (by repeat (first | exact List.Mem.head _ | apply List.Mem.tail)) rfl (by rw [List.length_drop]; rfl) (by rw [List.nil_append, List.length_append, List.length_take, List.length_drop]; show (2 * (_ + 1 + _) + 768) * 48 ≤ _; omega)) (.inr (by rintro _ _ ⟨pn, dn, rfl, rfl⟩ w h; exact h.subD)) rfl ?_ DAll.nil)
                    rintro _ _ ⟨pn, dn, rfl, rfl⟩
                    refine D.all (rs := [21]) (by kernel_rfl) rfl (DAll.cons rfl (by kernel_rfl) (OpQ.loud (q_nilCheck rfl)) (.inl (by kernel_rfl)) rfl ?_ DAll.nil)
                    rintro _ _ ⟨rfl, rfl⟩
                    refine D.all (rs := [22]) (by kernel_rfl) rfl (DAll.cons rfl (by kernel_rfl) (OpQ.loud (q_field fo_29_0 rfl)) (.inl (by kernel_rfl)) rfl ?_ DAll.nil)
                    rintro _ _ ⟨rfl, rfl⟩
                    refine D.all (rs := [23]) (by kernel_rfl) rfl (DAll.consN rfl (by kernel_rfl) (l_store1 ck_27 rfl rfl rfl (by repeat (first | exact Pick.here | apply Pick.there)) (by repeat (first | exact SetAt.here | apply SetAt.there))) (.inl (by kernel_rfl)) rfl ?_ DAll.nil)
                    rintro _ _ ⟨rfl, rfl⟩
                    refine D.done (by kernel_rfl) ?_
                    refine K.seq <| K.seq ?_
                    have hnew : (es.take i ++ [(⟨nm.plain.1, some b91, ⟨[], []⟩⟩ : E)] ++ es.drop i)[i]? = some ⟨nm.plain.1, some b91, ⟨[], []⟩⟩ := by
                      rw [List.append_assoc, List.getElem?_append_right (by rw [List.length_take]; omega), List.length_take, Nat.min_eq_left hi, Nat.sub_self]; rfl
                    have hnl : (es.take i ++ [(⟨nm.plain.1, some b91, ⟨[], []⟩⟩ : E)] ++ es.drop i).length = es.length + 1 := by
                      rw [List.length_append, List.length_append, List.length_take, List.length_drop, List.length_singleton]; omega
                    rw [List.nil_append]
                    refine K.region ?_
                    refine KO.q rfl (q_move rfl) ?_
                    refine KO.q rfl (q_nilCheck rfl) ?_
                    refine KO.q rfl (q_field fo_29_0 rfl) ?_
                    refine KO.q rfl (q_load1D ck_27 rfl) ?_
                    refine KO.q rfl (q_move rfl) ?_
                    refine KO.q rfl (q_ix (xs := es.take i ++ [(⟨nm.plain.1, some b91, ⟨[], []⟩⟩ : E)] ++ es.drop i) i se_27 rfl rfl rfl isO (by repeat (first | exact List.Mem.head _ | apply List.Mem.tail)) rfl (by omega)) ?_
                    refine KO.q rfl (q_fieldE fo_79_1 rfl) ?_
                    refine KO.q rfl (q_ldE (xs := es.take i ++ [(⟨nm.plain.1, some b91, ⟨[], []⟩⟩ : E)] ++ es.drop i) ck_77 rfl isO (by repeat (first | exact List.Mem.head _ | apply List.Mem.tail)) hnew rfl) ?_
                    refine KO.q rfl (q_move rfl) ?_
                    refine KO.q rfl (q_move rfl) ?_
                    refine KO.loud rfl (OpL.callD rfl (h := rf_AskX b91 ⟨[], []⟩ who m (by decide))) ?_
                    rintro _ _ ⟨_, ⟨rfl, rfl⟩, rfl⟩
                    refine KO.done ?_
                    refine K.bcond (s := 114) rfl (fun g114 => ?_) (fun g114 => ?_)
                    · refine K.seq ?_
                      refine K.region ?_
                      refine KO.q rfl (q_assign rfl) ?_
                      refine KO.done ?_
                      refine K.ret (fn := Tryz.f8) Tryz.func8 (fun a w hk hs => res1 Tryz.results8 hk rfl) (fun w hs => ?_)
                      rw [hr]
                      exact ⟨_, TrE t pn dn (es.take i ++ [(⟨nm.plain.1, some b91, ((Lk.mk [] []).ask who m).2⟩ : E)] ++ es.drop i) ++ [AllO RkE (es.take i ++ [(⟨nm.plain.1, some b91, ((Lk.mk [] []).ask who m).2⟩ : E)] ++ es.drop i)], rfl, ⟨es.take i ++ [(⟨nm.plain.1, some b91, ((Lk.mk [] []).ask who m).2⟩ : E)] ++ es.drop i, pn, dn, by unfold err; simp_all, by rw [List.map_append, List.map_append, List.map_take, List.map_drop]; rfl, rfl⟩, tr_fin2 hi (hs.fit (M := [RkX b91 ((Lk.mk [] []).ask who m).2, AllO RkE es, pv t 29 [.slice pn (es.take i ++ [(⟨nm.plain.1, some b91, ⟨[], []⟩⟩ : E)] ++ es.drop i).length dn], RowO Kd.e 79 pn dn (es.take i ++ [(⟨nm.plain.1, some b91, ⟨[], []⟩⟩ : E)] ++ es.drop i)]) (by repeat (first | exact Give.nil | (apply Give.perI; (repeat (first | exact List.Mem.head _ | apply List.Mem.tail))) | (apply Give.own; (repeat (first | exact Pick.here | apply Pick.there))))) (by repeat (first | exact Drop.refl | apply Drop.skip)))⟩
                    · refine K.skip <| K.seq ?_
                      refine K.region ?_
                      refine KO.q rfl (q_assign rfl) ?_
                      refine KO.done ?_
                      refine K.ret (fn := Tryz.f8) Tryz.func8 (fun a w hk hs => res1 Tryz.results8 hk rfl) (fun w hs => ?_)
                      rw [hr]
                      exact ⟨_, TrE t pn dn (es.take i ++ [(⟨nm.plain.1, some b91, ((Lk.mk [] []).ask who m).2⟩ : E)] ++ es.drop i) ++ [AllO RkE (es.take i ++ [(⟨nm.plain.1, some b91, ((Lk.mk [] []).ask who m).2⟩ : E)] ++ es.drop i)], rfl, ⟨es.take i ++ [(⟨nm.plain.1, some b91, ((Lk.mk [] []).ask who m).2⟩ : E)] ++ es.drop i, pn, dn, by unfold err; simp_all, by rw [List.map_append, List.map_append, List.map_take, List.map_drop]; rfl, rfl⟩, tr_fin2 hi (hs.fit (M := [RkX b91 ((Lk.mk [] []).ask who m).2, AllO RkE es, pv t 29 [.slice pn (es.take i ++ [(⟨nm.plain.1, some b91, ⟨[], []⟩⟩ : E)] ++ es.drop i).length dn], RowO Kd.e 79 pn dn (es.take i ++ [(⟨nm.plain.1, some b91, ⟨[], []⟩⟩ : E)] ++ es.drop i)]) (by repeat (first | exact Give.nil | (apply Give.perI; (repeat (first | exact List.Mem.head _ | apply List.Mem.tail))) | (apply Give.own; (repeat (first | exact Pick.here | apply Pick.there))))) (by repeat (first | exact Drop.refl | apply Drop.skip)))⟩
                  · rintro _ _ ⟨b91, rfl, rfl⟩
                    refine D.st (fun w h => rkX_new h) ?_
                    refine D.q 11 rfl (by kernel_rfl) (by kernel_rfl) (q_as (q_build st_79 rfl (by repeat (first | exact Fill.nil | (apply Fill.cons; rfl; rfl; rfl) | exact SetN.nil | apply SetN.cons | exact SetAt.here | apply SetAt.there))) (show _ = E.cells ⟨nm.plain.1, some b91, ⟨[], []⟩⟩ from rfl)) (fun _ h => h.subD) ?_
                    refine D.st (fun w h => rowO_nil (k := Kd.e) 79 h) ?_
                    refine D.all (rs := [7, 12]) (by kernel_rfl) rfl (DAll.cons rfl (by kernel_rfl) (l_append Kd.e (ys := es.take i) se_27 Tryz.underlying27 ⟨_, ze_79, rfl⟩ (by decide) rfl rfl (by repeat (first | exact Pick.here | apply Pick.there)) (isRow_take isO i) (by repeat (first | exact List.Mem.head _ | apply List.Mem.tail)) rfl (by rw [List.length_take]; omega) (by rw [List.length_take]; show (2 * (0 + _) + 768) * 48 ≤ _; omega)) (.inr (by rintro _ _ ⟨pa, ca, rfl, rfl⟩ w h; exact h.subD)) rfl ?_ (DAll.cons rfl (by kernel_rfl) (l_slice1 sz_27_1 rfl rfl ⟨rfl, rfl, rfl⟩) (.inr (by rintro _ _ ⟨b93, rfl, rfl⟩ w h; exact h.subD)) rfl ?_ DAll.nil))
                    · rintro _ _ ⟨pa, ca, rfl, rfl⟩
                      refine D.all (rs := [12]) (by kernel_rfl) rfl (DAll.cons rfl (by kernel_rfl) (l_slice1 sz_27_1 rfl rfl ⟨rfl, rfl, rfl⟩) (.inr (by rintro _ _ ⟨b93, rfl, rfl⟩ w h; exact h.subD)) rfl ?_ DAll.nil)
                      rintro _ _ ⟨b93, rfl, rfl⟩
                      refine D.all (rs := [13]) (by kernel_rfl) rfl (DAll.cons rfl (by kernel_rfl) (l_append Kd.e (ys := [⟨nm.plain.1, some b91, ⟨[], []⟩⟩]) se_27 Tryz.underlying27 ⟨_, ze_79, rfl⟩ (by decide) rfl rfl (by repeat (first | exact Pick.here | apply Pick.there)) isP (by repeat (first | exact List.Mem.head _ | apply List.Mem.tail)) rfl rfl (by rw [List.nil_append, List.length_take]; show (2 * (_ + 1) + 768) * 48 ≤ _; omega)) (.inr (by rintro _ _ ⟨pb, cb, rfl, rfl⟩ w h; exact h.subD)) rfl ?_ DAll.nil)
                      rintro _ _ ⟨pb, cb, rfl, rfl⟩
                      refine D.all (rs := [20]) (by kernel_rfl) rfl (DAll.cons rfl (by kernel_rfl) (l_append Kd.e (ys := es.drop i) se_27 Tryz.underlying27 ⟨_, ze_79, rfl⟩ (by decide) rfl rfl (by repeat (first | exact Pick.here | apply Pick.there)) (isO_cut i) (by repeat (first | exact List.Mem.head _ | apply List.Mem.tail)) rfl (by rw [List.length_drop]; rfl) (by rw [List.nil_append, List.length_append, List.length_take, List.length_drop]; show (2 * (_ + 1 + _) + 768) * 48 ≤ _; omega)) (.inr (by rintro _ _ ⟨pn, dn, rfl, rfl⟩ w h; exact h.subD)) rfl ?_ DAll.nil)
                      rintro _ _ ⟨pn, dn, rfl, rfl⟩
                      refine D.all (rs := [21]) (by kernel_rfl) rfl (DAll.cons rfl (by kernel_rfl) (OpQ.loud (q_nilCheck rfl)) (.inl (by kernel_rfl)) rfl ?_ DAll.nil)
                      rintro _ _ ⟨rfl, rfl⟩
                      refine D.all (rs := [22]) (by kernel_rfl) rfl (DAll.cons rfl (by kernel_rfl) (OpQ.loud (q_field fo_29_0 rfl)) (.inl (by kernel_rfl)) rfl ?_ DAll.nil)
                      rintro _ _ ⟨rfl, rfl⟩
                      refine D.all (rs := [23]) (by kernel_rfl) rfl (DAll.consN rfl (by kernel_rfl) (l_store1 ck_27 rfl rfl rfl (by repeat (first | exact Pick.here | apply Pick.there)) (by repeat (first | exact SetAt.here | apply SetAt.there))) (.inl (by kernel_rfl)) rfl ?_ DAll.nil)
                      rintro _ _ ⟨rfl, rfl⟩
                      refine D.done (by kernel_rfl) ?_
                      refine K.seq <| K.seq ?_
                      have hnew : (es.take i ++ [(⟨nm.plain.1, some b91, ⟨[], []⟩⟩ : E)] ++ es.drop i)[i]? = some ⟨nm.plain.1, some b91, ⟨[], []⟩⟩ := by
                        rw [List.append_assoc, List.getElem?_append_right (by rw [List.length_take]; omega), List.length_take, Nat.min_eq_left hi, Nat.sub_self]; rfl
                      have hnl : (es.take i ++ [(⟨nm.plain.1, some b91, ⟨[], []⟩⟩ : E)] ++ es.drop i).length = es.length + 1 := by
                        rw [List.length_append, List.length_append, List.length_take, List.length_drop, List.length_singleton]; omega
                      rw [List.nil_append]
                      refine K.region ?_
                      refine KO.q rfl (q_move rfl) ?_
                      refine KO.q rfl (q_nilCheck rfl) ?_
                      refine KO.q rfl (q_field fo_29_0 rfl) ?_
                      refine KO.q rfl (q_load1D ck_27 rfl) ?_
                      refine KO.q rfl (q_move rfl) ?_
                      refine KO.q rfl (q_ix (xs := es.take i ++ [(⟨nm.plain.1, some b91, ⟨[], []⟩⟩ : E)] ++ es.drop i) i se_27 rfl rfl rfl isO (by repeat (first | exact List.Mem.head _ | apply List.Mem.tail)) rfl (by omega)) ?_
                      refine KO.q rfl (q_fieldE fo_79_1 rfl) ?_
                      refine KO.q rfl (q_ldE (xs := es.take i ++ [(⟨nm.plain.1, some b91, ⟨[], []⟩⟩ : E)] ++ es.drop i) ck_77 rfl isO (by repeat (first | exact List.Mem.head _ | apply List.Mem.tail)) hnew rfl) ?_
                      refine KO.q rfl (q_move rfl) ?_
                      refine KO.q rfl (q_move rfl) ?_
                      refine KO.loud rfl (OpL.callD rfl (h := rf_AskX b91 ⟨[], []⟩ who m (by decide))) ?_
                      rintro _ _ ⟨_, ⟨rfl, rfl⟩, rfl⟩
                      refine KO.done ?_
                      refine K.bcond (s := 114) rfl (fun g114 => ?_) (fun g114 => ?_)
                      · refine K.seq ?_
                        refine K.region ?_
                        refine KO.q rfl (q_assign rfl) ?_
                        refine KO.done ?_
                        refine K.ret (fn := Tryz.f8) Tryz.func8 (fun a w hk hs => res1 Tryz.results8 hk rfl) (fun w hs => ?_)
                        rw [hr]
                        exact ⟨_, TrE t pn dn (es.take i ++ [(⟨nm.plain.1, some b91, ((Lk.mk [] []).ask who m).2⟩ : E)] ++ es.drop i) ++ [AllO RkE (es.take i ++ [(⟨nm.plain.1, some b91, ((Lk.mk [] []).ask who m).2⟩ : E)] ++ es.drop i)], rfl, ⟨es.take i ++ [(⟨nm.plain.1, some b91, ((Lk.mk [] []).ask who m).2⟩ : E)] ++ es.drop i, pn, dn, by unfold err; simp_all, by rw [List.map_append, List.map_append, List.map_take, List.map_drop]; rfl, rfl⟩, tr_fin2 hi (hs.fit (M := [RkX b91 ((Lk.mk [] []).ask who m).2, AllO RkE es, pv t 29 [.slice pn (es.take i ++ [(⟨nm.plain.1, some b91, ⟨[], []⟩⟩ : E)] ++ es.drop i).length dn], RowO Kd.e 79 pn dn (es.take i ++ [(⟨nm.plain.1, some b91, ⟨[], []⟩⟩ : E)] ++ es.drop i)]) (by repeat (first | exact Give.nil | (apply Give.perI; (repeat (first | exact List.Mem.head _ | apply List.Mem.tail))) | (apply Give.own; (repeat (first | exact Pick.here | apply Pick.there))))) (by repeat (first | exact Drop.refl | apply Drop.skip)))⟩
                      · refine K.skip <| K.seq ?_
                        refine K.region ?_
                        refine KO.q rfl (q_assign rfl) ?_
                        refine KO.done ?_
                        refine K.ret (fn := Tryz.f8) Tryz.func8 (fun a w hk hs => res1 Tryz.results8 hk rfl) (fun w hs => ?_)
                        rw [hr]
                        exact ⟨_, TrE t pn dn (es.take i ++ [(⟨nm.plain.1, some b91, ((Lk.mk [] []).ask who m).2⟩ : E)] ++ es.drop i) ++ [AllO RkE (es.take i ++ [(⟨nm.plain.1, some b91, ((Lk.mk [] []).ask who m).2⟩ : E)] ++ es.drop i)], rfl, ⟨es.take i ++ [(⟨nm.plain.1, some b91, ((Lk.mk [] []).ask who m).2⟩ : E)] ++ es.drop i, pn, dn, by unfold err; simp_all, by rw [List.map_append, List.map_append, List.map_take, List.map_drop]; rfl, rfl⟩, tr_fin2 hi (hs.fit (M := [RkX b91 ((Lk.mk [] []).ask who m).2, AllO RkE es, pv t 29 [.slice pn (es.take i ++ [(⟨nm.plain.1, some b91, ⟨[], []⟩⟩ : E)] ++ es.drop i).length dn], RowO Kd.e 79 pn dn (es.take i ++ [(⟨nm.plain.1, some b91, ⟨[], []⟩⟩ : E)] ++ es.drop i)]) (by repeat (first | exact Give.nil | (apply Give.perI; (repeat (first | exact List.Mem.head _ | apply List.Mem.tail))) | (apply Give.own; (repeat (first | exact Pick.here | apply Pick.there))))) (by repeat (first | exact Drop.refl | apply Drop.skip)))⟩
                    · rintro _ _ ⟨b93, rfl, rfl⟩
                      refine D.st (fun w h => rowO_nil (k := Kd.e) 79 h) ?_
                      refine D.all (rs := [7]) (by kernel_rfl) rfl (DAll.cons rfl (by kernel_rfl) (l_append Kd.e (ys := es.take i) se_27 Tryz.underlying27 ⟨_, ze_79, rfl⟩ (by decide) rfl rfl (by repeat (first | exact Pick.here | apply Pick.there)) (isRow_take isO i) (by repeat (first | exact List.Mem.head _ | apply List.Mem.tail)) rfl (by rw [List.length_take]; omega) (by rw [List.length_take]; show (2 * (0 + _) + 768) * 48 ≤ _; omega)) (.inr (by rintro _ _ ⟨pa, ca, rfl, rfl⟩ w h; exact h.subD)) rfl ?_ DAll.nil)
                      rintro _ _ ⟨pa, ca, rfl, rfl⟩
                      refine D.all (rs := [13]) (by kernel_rfl) rfl (DAll.cons rfl (by kernel_rfl) (l_append Kd.e (ys := [⟨nm.plain.1, some b91, ⟨[], []⟩⟩]) se_27 Tryz.underlying27 ⟨_, ze_79, rfl⟩ (by decide) rfl rfl (by repeat (first | exact Pick.here | apply Pick.there)) isP (by repeat (first | exact List.Mem.head _ | apply List.Mem.tail)) rfl rfl (by rw [List.nil_append, List.length_take]; show (2 * (_ + 1) + 768) * 48 ≤ _; omega)) (.inr (by rintro _ _ ⟨pb, cb, rfl, rfl⟩ w h; exact h.subD)) rfl ?_ DAll.nil)
                      rintro _ _ ⟨pb, cb, rfl, rfl⟩
                      refine D.all (rs := [20]) (by kernel_rfl) rfl (DAll.cons rfl (by kernel_rfl) (l_append Kd.e (ys := es.drop i) se_27 Tryz.underlying27 ⟨_, ze_79, rfl⟩ (by decide) rfl rfl (by repeat (first | exact Pick.here | apply Pick.there)) (isO_cut i) (by repeat (first | exact List.Mem.head _ | apply List.Mem.tail)) rfl (by rw [List.length_drop]; rfl) (by rw [List.nil_append, List.length_append, List.length_take, List.length_drop]; show (2 * (_ + 1 + _) + 768) * 48 ≤ _; omega)) (.inr (by rintro _ _ ⟨pn, dn, rfl, rfl⟩ w h; exact h.subD)) rfl ?_ DAll.nil)
                      rintro _ _ ⟨pn, dn, rfl, rfl⟩
                      refine D.all (rs := [21]) (by kernel_rfl) rfl (DAll.cons rfl (by kernel_rfl) (OpQ.loud (q_nilCheck rfl)) (.inl (by kernel_rfl)) rfl ?_ DAll.nil)
                      rintro _ _ ⟨rfl, rfl⟩
                      refine D.all (rs := [22]) (by kernel_rfl) rfl (DAll.cons rfl (by kernel_rfl) (OpQ.loud (q_field fo_29_0 rfl)) (.inl (by kernel_rfl)) rfl ?_ DAll.nil)
                      rintro _ _ ⟨rfl, rfl⟩
                      refine D.all (rs := [23]) (by kernel_rfl) rfl (DAll.consN rfl (by kernel_rfl) (l_store1 ck_27 rfl rfl rfl (by repeat (first | exact Pick.here | apply Pick.there)) (by repeat (first | exact SetAt.here | apply SetAt.there))) (.inl (by kernel_rfl)) rfl ?_ DAll.nil)
                      rintro _ _ ⟨rfl, rfl⟩
                      refine D.done (by kernel_rfl) ?_
                      refine K.seq <| K.seq ?_
                      have hnew : (es.take i ++ [(⟨nm.plain.1, some b91, ⟨[], []⟩⟩ : E)] ++ es.drop i)[i]? = some ⟨nm.plain.1, some b91, ⟨[], []⟩⟩ := by
                        rw [List.append_assoc, List.getElem?_append_right (by rw [List.length_take]; omega), List.length_take, Nat.min_eq_left hi, Nat.sub_self]; rfl
                      have hnl : (es.take i ++ [(⟨nm.plain.1, some b91, ⟨[], []⟩⟩ : E)] ++ es.drop i).length = es.length + 1 := by
                        rw [List.length_append, List.length_append, List.length_take, List.length_drop, List.length_singleton]; omega
                      rw [List.nil_append]
                      refine K.region ?_
                      refine KO.q rfl (q_move rfl) ?_
                      refine KO.q rfl (q_nilCheck rfl) ?_
                      refine KO.q rfl (q_field fo_29_0 rfl) ?_
                      refine KO.q rfl (q_load1D ck_27 rfl) ?_
                      refine KO.q rfl (q_move rfl) ?_
                      refine KO.q rfl (q_ix (xs := es.take i ++ [(⟨nm.plain.1, some b91, ⟨[], []⟩⟩ : E)] ++ es.drop i) i se_27 rfl rfl rfl isO (by repeat (first | exact List.Mem.head _ | apply List.Mem.tail)) rfl (by omega)) ?_
                      refine KO.q rfl (q_fieldE fo_79_1 rfl) ?_
                      refine KO.q rfl (q_ldE (xs := es.take i ++ [(⟨nm.plain.1, some b91, ⟨[], []⟩⟩ : E)] ++ es.drop i) ck_77 rfl isO (by repeat (first | exact List.Mem.head _ | apply List.Mem.tail)) hnew rfl) ?_
                      refine KO.q rfl (q_move rfl) ?_
                      refine KO.q rfl (q_move rfl) ?_
                      refine KO.loud rfl (OpL.callD rfl (h := rf_AskX b91 ⟨[], []⟩ who m (by decide))) ?_
                      rintro _ _ ⟨_, ⟨rfl, rfl⟩, rfl⟩
                      refine KO.done ?_
                      refine K.bcond (s := 114) rfl (fun g114 => ?_) (fun g114 => ?_)
                      · refine K.seq ?_
                        refine K.region ?_
                        refine KO.q rfl (q_assign rfl) ?_
                        refine KO.done ?_
                        refine K.ret (fn := Tryz.f8) Tryz.func8 (fun a w hk hs => res1 Tryz.results8 hk rfl) (fun w hs => ?_)
                        rw [hr]
                        exact ⟨_, TrE t pn dn (es.take i ++ [(⟨nm.plain.1, some b91, ((Lk.mk [] []).ask who m).2⟩ : E)] ++ es.drop i) ++ [AllO RkE (es.take i ++ [(⟨nm.plain.1, some b91, ((Lk.mk [] []).ask who m).2⟩ : E)] ++ es.drop i)], rfl, ⟨es.take i ++ [(⟨nm.plain.1, some b91, ((Lk.mk [] []).ask who m).2⟩ : E)] ++ es.drop i, pn, dn, by unfold err; simp_all, by rw [List.map_append, List.map_append, List.map_take, List.map_drop]; rfl, rfl⟩, tr_fin2 hi (hs.fit (M := [RkX b91 ((Lk.mk [] []).ask who m).2, AllO RkE es, pv t 29 [.slice pn (es.take i ++ [(⟨nm.plain.1, some b91, ⟨[], []⟩⟩ : E)] ++ es.drop i).length dn], RowO Kd.e 79 pn dn (es.take i ++ [(⟨nm.plain.1, some b91, ⟨[], []⟩⟩ : E)] ++ es.drop i)]) (by repeat (first | exact Give.nil | (apply Give.perI; (repeat (first | exact List.Mem.head _ | apply List.Mem.tail))) | (apply Give.own; (repeat (first | exact Pick.here | apply Pick.there))))) (by repeat (first | exact Drop.refl | apply Drop.skip)))⟩
                      · refine K.skip <| K.seq ?_
                        refine K.region ?_
                        refine KO.q rfl (q_assign rfl) ?_
                        refine KO.done ?_
                        refine K.ret (fn := Tryz.f8) Tryz.func8 (fun a w hk hs => res1 Tryz.results8 hk rfl) (fun w hs => ?_)
                        rw [hr]
                        exact ⟨_, TrE t pn dn (es.take i ++ [(⟨nm.plain.1, some b91, ((Lk.mk [] []).ask who m).2⟩ : E)] ++ es.drop i) ++ [AllO RkE (es.take i ++ [(⟨nm.plain.1, some b91, ((Lk.mk [] []).ask who m).2⟩ : E)] ++ es.drop i)], rfl, ⟨es.take i ++ [(⟨nm.plain.1, some b91, ((Lk.mk [] []).ask who m).2⟩ : E)] ++ es.drop i, pn, dn, by unfold err; simp_all, by rw [List.map_append, List.map_append, List.map_take, List.map_drop]; rfl, rfl⟩, tr_fin2 hi (hs.fit (M := [RkX b91 ((Lk.mk [] []).ask who m).2, AllO RkE es, pv t 29 [.slice pn (es.take i ++ [(⟨nm.plain.1, some b91, ⟨[], []⟩⟩ : E)] ++ es.drop i).length dn], RowO Kd.e 79 pn dn (es.take i ++ [(⟨nm.plain.1, some b91, ⟨[], []⟩⟩ : E)] ++ es.drop i)]) (by repeat (first | exact Give.nil | (apply Give.perI; (repeat (first | exact List.Mem.head _ | apply List.Mem.tail))) | (apply Give.own; (repeat (first | exact Pick.here | apply Pick.there))))) (by repeat (first | exact Drop.refl | apply Drop.skip)))⟩
              · have hlb : lbN es nm.plain.1 = i := tw_eq hno hi (fun x hx => by rw [List.getElem?_eq_none (by omega)] at hx; cases hx)
                clear ih
                refine D.skip 8 rfl (by kernel_rfl) (by kernel_rfl) (fun _ h => h.subD) ?_
                refine D.skip 9 rfl (by kernel_rfl) (by kernel_rfl) (fun _ h => h.subD) ?_
                refine D.skip 10 rfl (by kernel_rfl) (by kernel_rfl) (fun _ h => h.subD) ?_
                refine D.skip 11 rfl (by kernel_rfl) (by kernel_rfl) (fun _ h => h.subD) ?_
                refine D.skip 12 rfl (by kernel_rfl) (by kernel_rfl) (fun _ h => h.subD) ?_
                refine D.skip 13 rfl (by kernel_rfl) (by kernel_rfl) (fun _ h => h.subD) ?_
                refine D.skip 14 rfl (by kernel_rfl) (by kernel_rfl) (fun _ h => h.subD) ?_
                refine D.skip 15 rfl (by kernel_rfl) (by kernel_rfl) (fun _ h => h.subD) ?_
                refine D.skip 16 rfl (by kernel_rfl) (by kernel_rfl) (fun _ h => h.subD) ?_
                refine D.skip 17 rfl (by kernel_rfl) (by kernel_rfl) (fun _ h => h.subD) ?_
                refine D.q 18 rfl (by kernel_rfl) (by kernel_rfl) (q_pickF rfl rfl) (fun _ h => h.subD) ?_
                refine D.done (by kernel_rfl) ?_
                refine K.no rfl ?_
                refine K.exit rfl ?_
                have hlT : lbT (es.map E.abs) nm.plain.1 = i := by rw [← lbN_abs, hlb]
                have hr : askT (es.map E.abs) n who nm m = (err ((Lk.mk [] []).ask who m).1, (es.map E.abs).take i ++ [⟨nm.plain.1, ((Lk.mk [] []).ask who m).2⟩] ++ (es.map E.abs).drop i, n + 1) := by unfold askT; rw [if_neg hpl', if_neg hwt, if_neg g34, if_neg hfF, if_neg (by omega), hlT]
                refine K.drawS [pv t 29 [.slice q es.length c], RowO Kd.e 79 q c es, pv b6 31 nm.plain.1.cells] (fun _ h => h.subD) mixed ?_
                refine D.q 0 rfl (by kernel_rfl) (by kernel_rfl) (q_move rfl) (fun _ h => h.subD) ?_
                refine D.q 1 rfl (by kernel_rfl) (by kernel_rfl) (q_move rfl) (fun _ h => h.subD) ?_
                refine D.q 2 rfl (by kernel_rfl) (by kernel_rfl) (q_nilCheck rfl) (fun _ h => h.subD) ?_
                refine D.q 3 rfl (by kernel_rfl) (by kernel_rfl) (q_field fo_29_0 rfl) (fun _ h => h.subD) ?_
                refine D.q 4 rfl (by kernel_rfl) (by kernel_rfl) (q_load1D ck_27 rfl) (fun _ h => h.subD) ?_
                refine D.q 5 rfl (by kernel_rfl) (by kernel_rfl) (q_move rfl) (fun _ h => h.subD) ?_
                refine D.q 6 rfl (by kernel_rfl) (by kernel_rfl) (q_cutH se_27 rfl rfl (by first | omega | (simp; omega)) (by first | omega | (simp; omega))) (fun _ h => h.subD) ?_
                refine D.q 8 rfl (by kernel_rfl) (by kernel_rfl) (q_loadN ck_31 rfl rfl (by first | (apply cells_pv; (repeat (first | exact List.Mem.head _ | apply List.Mem.tail))) | (apply cells_fv; (repeat (first | exact List.Mem.head _ | apply List.Mem.tail))))) (fun _ h => h.subD) ?_
                refine D.q 9 rfl (by kernel_rfl) (by kernel_rfl) (q_build st_76 rfl (by repeat (first | exact Fill.nil | (apply Fill.cons; rfl; rfl; rfl) | exact SetN.nil | apply SetN.cons | exact SetAt.here | apply SetAt.there))) (fun _ h => h.subD) ?_
                refine D.q 14 rfl (by kernel_rfl) (by kernel_rfl) (q_move rfl) (fun _ h => h.subD) ?_
                refine D.q 15 rfl (by kernel_rfl) (by kernel_rfl) (q_nilCheck rfl) (fun _ h => h.subD) ?_
                refine D.q 16 rfl (by kernel_rfl) (by kernel_rfl) (q_field fo_29_0 rfl) (fun _ h => h.subD) ?_
                refine D.q 17 rfl (by kernel_rfl) (by kernel_rfl) (q_load1D ck_27 rfl) (fun _ h => h.subD) ?_
                refine D.q 18 rfl (by kernel_rfl) (by kernel_rfl) (q_move rfl) (fun _ h => h.subD) ?_
                refine D.q 19 rfl (by kernel_rfl) (by kernel_rfl) (q_cutL se_27 rfl rfl (by first | omega | (simp; omega)) (by first | omega | (simp; omega)) (by first | omega | (simp; omega))) (fun _ h => h.subD) ?_
                refine D.st (fun w h => rowO_nil (k := Kd.e) 79 h) ?_
                refine D.all (rs := [7, 10]) (by kernel_rfl) rfl (DAll.cons rfl (by kernel_rfl) (l_append Kd.e (ys := es.take i) se_27 Tryz.underlying27 ⟨_, ze_79, rfl⟩ (by decide) rfl rfl (by repeat (first | exact Pick.here | apply Pick.there)) (isRow_take isO i) (by repeat (first | exact List.Mem.head _ | apply List.Mem.tail)) rfl (by rw [List.length_take]; omega) (by rw [List.length_take]; show (2 * (0 + _) + 768) * 48 ≤ _; omega)) (.inr (by rintro _ _ ⟨pa, ca, rfl, rfl⟩ w h; exact h.subD)) rfl ?_ (DAll.cons rfl (by kernel_rfl) (l_box rfl rfl) (.inr (by rintro _ _ ⟨b91, rfl, rfl⟩ w h; exact h.subD)) rfl ?_ DAll.nil))
                · rintro _ _ ⟨pa, ca, rfl, rfl⟩
                  refine D.all (rs := [10]) (by kernel_rfl) rfl (DAll.cons rfl (by kernel_rfl) (l_box rfl rfl) (.inr (by rintro _ _ ⟨b91, rfl, rfl⟩ w h; exact h.subD)) rfl ?_ DAll.nil)
                  rintro _ _ ⟨b91, rfl, rfl⟩
                  refine D.st (fun w h => rkX_new h) ?_
                  refine D.q 11 rfl (by kernel_rfl) (by kernel_rfl) (q_as (q_build st_79 rfl (by repeat (first | exact Fill.nil | (apply Fill.cons; rfl; rfl; rfl) | exact SetN.nil | apply SetN.cons | exact SetAt.here | apply SetAt.there))) (show _ = E.cells ⟨nm.plain.1, some b91, ⟨[], []⟩⟩ from rfl)) (fun _ h => h.subD) ?_
                  refine D.all (rs := [12]) (by kernel_rfl) rfl (DAll.cons rfl (by kernel_rfl) (l_slice1 sz_27_1 rfl rfl ⟨rfl, rfl, rfl⟩) (.inr (by rintro _ _ ⟨b93, rfl, rfl⟩ w h; exact h.subD)) rfl ?_ DAll.nil)
                  rintro _ _ ⟨b93, rfl, rfl⟩
                  refine D.all (rs := [13]) (by kernel_rfl) rfl (DAll.cons rfl (by kernel_rfl) (l_append Kd.e (ys := [⟨nm.plain.1, some b91, ⟨[], []⟩⟩]) se_27 Tryz.underlying27 ⟨_, ze_79, rfl⟩ (by decide) rfl rfl (by repeat (first | exact Pick.here | apply Pick.there)) isP (by repeat (first | exact List.Mem.head _ | apply List.Mem.tail)) rfl rfl (by rw [List.nil_append, List.length_take]; show (2 * (_ + 1) + 768) * 48 ≤ _; omega)) (.inr (by rintro _ _ ⟨pb, cb, rfl, rfl⟩ w h; exact h.subD)) rfl ?_ DAll.nil)
                  rintro _ _ ⟨pb, cb, rfl, rfl⟩
                  refine D.all (rs := [20]) (by kernel_rfl) rfl (DAll.cons rfl (by kernel_rfl) (l_append Kd.e (ys := es.drop i) se_27 Tryz.underlying27 ⟨_, ze_79, rfl⟩ (by decide) rfl rfl (by repeat (first | exact Pick.here | apply Pick.there)) (isO_cut i) (by repeat (first | exact List.Mem.head _ | apply List.Mem.tail)) rfl (by rw [List.length_drop]; rfl) (by rw [List.nil_append, List.length_append, List.length_take, List.length_drop]; show (2 * (_ + 1 + _) + 768) * 48 ≤ _; omega)) (.inr (by rintro _ _ ⟨pn, dn, rfl, rfl⟩ w h; exact h.subD)) rfl ?_ DAll.nil)
                  rintro _ _ ⟨pn, dn, rfl, rfl⟩
                  refine D.all (rs := [21]) (by kernel_rfl) rfl (DAll.cons rfl (by kernel_rfl) (OpQ.loud (q_nilCheck rfl)) (.inl (by kernel_rfl)) rfl ?_ DAll.nil)
                  rintro _ _ ⟨rfl, rfl⟩
                  refine D.all (rs := [22]) (by kernel_rfl) rfl (DAll.cons rfl (by kernel_rfl) (OpQ.loud (q_field fo_29_0 rfl)) (.inl (by kernel_rfl)) rfl ?_ DAll.nil)
                  rintro _ _ ⟨rfl, rfl⟩
                  refine D.all (rs := [23]) (by kernel_rfl) rfl (DAll.consN rfl (by kernel_rfl) (l_store1 ck_27 rfl rfl rfl (by repeat (first | exact Pick.here | apply Pick.there)) (by repeat (first | exact SetAt.here | apply SetAt.there))) (.inl (by kernel_rfl)) rfl ?_ DAll.nil)
                  rintro _ _ ⟨rfl, rfl⟩
                  refine D.done (by kernel_rfl) ?_
                  refine K.seq <| K.seq ?_
                  have hnew : (es.take i ++ [(⟨nm.plain.1, some b91, ⟨[], []⟩⟩ : E)] ++ es.drop i)[i]? = some ⟨nm.plain.1, some b91, ⟨[], []⟩⟩ := by
                    rw [List.append_assoc, List.getElem?_append_right (by rw [List.length_take]; omega), List.length_take, Nat.min_eq_left hi, Nat.sub_self]; rfl
                  have hnl : (es.take i ++ [(⟨nm.plain.1, some b91, ⟨[], []⟩⟩ : E)] ++ es.drop i).length = es.length + 1 := by
                    rw [List.length_append, List.length_append, List.length_take, List.length_drop, List.length_singleton]; omega
                  rw [List.nil_append]
                  refine K.region ?_
                  refine KO.q rfl (q_move rfl) ?_
                  refine KO.q rfl (q_nilCheck rfl) ?_
                  refine KO.q rfl (q_field fo_29_0 rfl) ?_
                  refine KO.q rfl (q_load1D ck_27 rfl) ?_
                  refine KO.q rfl (q_move rfl) ?_
                  refine KO.q rfl (q_ix (xs := es.take i ++ [(⟨nm.plain.1, some b91, ⟨[], []⟩⟩ : E)] ++ es.drop i) i se_27 rfl rfl rfl isO (by repeat (first | exact List.Mem.head _ | apply List.Mem.tail)) rfl (by omega)) ?_
                  refine KO.q rfl (q_fieldE fo_79_1 rfl) ?_
                  refine KO.q rfl (q_ldE (xs := es.take i ++ [(⟨nm.plain.1, some b91, ⟨[], []⟩⟩ : E)] ++ es.drop i) ck_77 rfl isO (by repeat (first | exact List.Mem.head _ | apply List.Mem.tail)) hnew rfl) ?_
                  refine KO.q rfl (q_move rfl) ?_
                  refine KO.q rfl (q_move rfl) ?_
                  refine KO.loud rfl (OpL.callD rfl (h := rf_AskX b91 ⟨[], []⟩ who m (by decide))) ?_
                  rintro _ _ ⟨_, ⟨rfl, rfl⟩, rfl⟩
                  refine KO.done ?_
                  refine K.bcond (s := 114) rfl (fun g114 => ?_) (fun g114 => ?_)
                  · refine K.seq ?_
                    refine K.region ?_
                    refine KO.q rfl (q_assign rfl) ?_
                    refine KO.done ?_
                    refine K.ret (fn := Tryz.f8) Tryz.func8 (fun a w hk hs => res1 Tryz.results8 hk rfl) (fun w hs => ?_)
                    rw [hr]
                    exact ⟨_, TrE t pn dn (es.take i ++ [(⟨nm.plain.1, some b91, ((Lk.mk [] []).ask who m).2⟩ : E)] ++ es.drop i) ++ [AllO RkE (es.take i ++ [(⟨nm.plain.1, some b91, ((Lk.mk [] []).ask who m).2⟩ : E)] ++ es.drop i)], rfl, ⟨es.take i ++ [(⟨nm.plain.1, some b91, ((Lk.mk [] []).ask who m).2⟩ : E)] ++ es.drop i, pn, dn, by unfold err; simp_all, by rw [List.map_append, List.map_append, List.map_take, List.map_drop]; rfl, rfl⟩, tr_fin2 hi (hs.fit (M := [RkX b91 ((Lk.mk [] []).ask who m).2, AllO RkE es, pv t 29 [.slice pn (es.take i ++ [(⟨nm.plain.1, some b91, ⟨[], []⟩⟩ : E)] ++ es.drop i).length dn], RowO Kd.e 79 pn dn (es.take i ++ [(⟨nm.plain.1, some b91, ⟨[], []⟩⟩ : E)] ++ es.drop i)]) (by repeat (first | exact Give.nil | (apply Give.perI; (repeat (first | exact List.Mem.head _ | apply List.Mem.tail))) | (apply Give.own; (repeat (first | exact Pick.here | apply Pick.there))))) (by repeat (first | exact Drop.refl | apply Drop.skip)))⟩
                  · refine K.skip <| K.seq ?_
                    refine K.region ?_
                    refine KO.q rfl (q_assign rfl) ?_
                    refine KO.done ?_
                    refine K.ret (fn := Tryz.f8) Tryz.func8 (fun a w hk hs => res1 Tryz.results8 hk rfl) (fun w hs => ?_)
                    rw [hr]
                    exact ⟨_, TrE t pn dn (es.take i ++ [(⟨nm.plain.1, some b91, ((Lk.mk [] []).ask who m).2⟩ : E)] ++ es.drop i) ++ [AllO RkE (es.take i ++ [(⟨nm.plain.1, some b91, ((Lk.mk [] []).ask who m).2⟩ : E)] ++ es.drop i)], rfl, ⟨es.take i ++ [(⟨nm.plain.1, some b91, ((Lk.mk [] []).ask who m).2⟩ : E)] ++ es.drop i, pn, dn, by unfold err; simp_all, by rw [List.map_append, List.map_append, List.map_take, List.map_drop]; rfl, rfl⟩, tr_fin2 hi (hs.fit (M := [RkX b91 ((Lk.mk [] []).ask who m).2, AllO RkE es, pv t 29 [.slice pn (es.take i ++ [(⟨nm.plain.1, some b91, ⟨[], []⟩⟩ : E)] ++ es.drop i).length dn], RowO Kd.e 79 pn dn (es.take i ++ [(⟨nm.plain.1, some b91, ⟨[], []⟩⟩ : E)] ++ es.drop i)]) (by repeat (first | exact Give.nil | (apply Give.perI; (repeat (first | exact List.Mem.head _ | apply List.Mem.tail))) | (apply Give.own; (repeat (first | exact Pick.here | apply Pick.there))))) (by repeat (first | exact Drop.refl | apply Drop.skip)))⟩
                · rintro _ _ ⟨b91, rfl, rfl⟩
                  refine D.st (fun w h => rkX_new h) ?_
                  refine D.q 11 rfl (by kernel_rfl) (by kernel_rfl) (q_as (q_build st_79 rfl (by repeat (first | exact Fill.nil | (apply Fill.cons; rfl; rfl; rfl) | exact SetN.nil | apply SetN.cons | exact SetAt.here | apply SetAt.there))) (show _ = E.cells ⟨nm.plain.1, some b91, ⟨[], []⟩⟩ from rfl)) (fun _ h => h.subD) ?_
                  refine D.st (fun w h => rowO_nil (k := Kd.e) 79 h) ?_
                  refine D.all (rs := [7, 12]) (by kernel_rfl) rfl (DAll.cons rfl (by kernel_rfl) (l_append Kd.e (ys := es.take i) se_27 Tryz.underlying27 ⟨_, ze_79, rfl⟩ (by decide) rfl rfl (by repeat (first | exact Pick.here | apply Pick.there)) (isRow_take isO i) (by repeat (first | exact List.Mem.head _ | apply List.Mem.tail)) rfl (by rw [List.length_take]; omega) (by rw [List.length_take]; show (2 * (0 + _) + 768) * 48 ≤ _; omega)) (.inr (by rintro _ _ ⟨pa, ca, rfl, rfl⟩ w h; exact h.subD)) rfl ?_ (DAll.cons rfl (by kernel_rfl) (l_slice1 sz_27_1 rfl rfl ⟨rfl, rfl, rfl⟩) (.inr (by rintro _ _ ⟨b93, rfl, rfl⟩ w h; exact h.subD)) rfl ?_ DAll.nil))
                  · rintro _ _ ⟨pa, ca, rfl, rfl⟩
                    refine D.all (rs := [12]) (by kernel_rfl) rfl (DAll.cons rfl (by kernel_rfl) (l_slice1 sz_27_1 rfl rfl ⟨rfl, rfl, rfl⟩) (.inr (by rintro _ _ ⟨b93, rfl, rfl⟩ w h; exact h.subD)) rfl ?_ DAll.nil)
                    rintro _ _ ⟨b93, rfl, rfl⟩
                    refine D.all (rs := [13]) (by kernel_rfl) rfl (DAll.cons rfl (by kernel_rfl) (l_append Kd.e (ys := [⟨nm.plain.1, some b91, ⟨[], []⟩⟩]) se_27 Tryz.underlying27 ⟨_, ze_79, rfl⟩ (by decide) rfl rfl (by repeat (first | exact Pick.here | apply Pick.there)) isP (by repeat (first | exact List.Mem.head _ | apply List.Mem.tail)) rfl rfl (by rw [List.nil_append, List.length_take]; show (2 * (_ + 1) + 768) * 48 ≤ _; omega)) (.inr (by rintro _ _ ⟨pb, cb, rfl, rfl⟩ w h; exact h.subD)) rfl ?_ DAll.nil)
                    rintro _ _ ⟨pb, cb, rfl, rfl⟩
                    refine D.all (rs := [20]) (by kernel_rfl) rfl (DAll.cons rfl (by kernel_rfl) (l_append Kd.e (ys := es.drop i) se_27 Tryz.underlying27 ⟨_, ze_79, rfl⟩ (by decide) rfl rfl (by repeat (first | exact Pick.here | apply Pick.there)) (isO_cut i) (by repeat (first | exact List.Mem.head _ | apply List.Mem.tail)) rfl (by rw [List.length_drop]; rfl) (by rw [List.nil_append, List.length_append, List.length_take, List.length_drop]; show (2 * (_ + 1 + _) + 768) * 48 ≤ _; omega)) (.inr (by rintro _ _ ⟨pn, dn, rfl, rfl⟩ w h; exact h.subD)) rfl ?_ DAll.nil)
                    rintro _ _ ⟨pn, dn, rfl, rfl⟩
                    refine D.all (rs := [21]) (by kernel_rfl) rfl (DAll.cons rfl (by kernel_rfl) (OpQ.loud (q_nilCheck rfl)) (.inl (by kernel_rfl)) rfl ?_ DAll.nil)
                    rintro _ _ ⟨rfl, rfl⟩
                    refine D.all (rs := [22]) (by kernel_rfl) rfl (DAll.cons rfl (by kernel_rfl) (OpQ.loud (q_field fo_29_0 rfl)) (.inl (by kernel_rfl)) rfl ?_ DAll.nil)
                    rintro _ _ ⟨rfl, rfl⟩
                    refine D.all (rs := [23]) (by kernel_rfl) rfl (DAll.consN rfl (by kernel_rfl) (l_store1 ck_27 rfl rfl rfl (by repeat (first | exact Pick.here | apply Pick.there)) (by repeat (first | exact SetAt.here | apply SetAt.there))) (.inl (by kernel_rfl)) rfl ?_ DAll.nil)
                    rintro _ _ ⟨rfl, rfl⟩
                    refine D.done (by kernel_rfl) ?_
                    refine K.seq <| K.seq ?_
                    have hnew : (es.take i ++ [(⟨nm.plain.1, some b91, ⟨[], []⟩⟩ : E)] ++ es.drop i)[i]? = some ⟨nm.plain.1, some b91, ⟨[], []⟩⟩ := by
                      rw [List.append_assoc, List.getElem?_append_right (by rw [List.length_take]; omega), List.length_take, Nat.min_eq_left hi, Nat.sub_self]; rfl
                    have hnl : (es.take i ++ [(⟨nm.plain.1, some b91, ⟨[], []⟩⟩ : E)] ++ es.drop i).length = es.length + 1 := by
                      rw [List.length_append, List.length_append, List.length_take, List.length_drop, List.length_singleton]; omega
                    rw [List.nil_append]
                    refine K.region ?_
                    refine KO.q rfl (q_move rfl) ?_
                    refine KO.q rfl (q_nilCheck rfl) ?_
                    refine KO.q rfl (q_field fo_29_0 rfl) ?_
                    refine KO.q rfl (q_load1D ck_27 rfl) ?_
                    refine KO.q rfl (q_move rfl) ?_
                    refine KO.q rfl (q_ix (xs := es.take i ++ [(⟨nm.plain.1, some b91, ⟨[], []⟩⟩ : E)] ++ es.drop i) i se_27 rfl rfl rfl isO (by repeat (first | exact List.Mem.head _ | apply List.Mem.tail)) rfl (by omega)) ?_
                    refine KO.q rfl (q_fieldE fo_79_1 rfl) ?_
                    refine KO.q rfl (q_ldE (xs := es.take i ++ [(⟨nm.plain.1, some b91, ⟨[], []⟩⟩ : E)] ++ es.drop i) ck_77 rfl isO (by repeat (first | exact List.Mem.head _ | apply List.Mem.tail)) hnew rfl) ?_
                    refine KO.q rfl (q_move rfl) ?_
                    refine KO.q rfl (q_move rfl) ?_
                    refine KO.loud rfl (OpL.callD rfl (h := rf_AskX b91 ⟨[], []⟩ who m (by decide))) ?_
                    rintro _ _ ⟨_, ⟨rfl, rfl⟩, rfl⟩
                    refine KO.done ?_
                    refine K.bcond (s := 114) rfl (fun g114 => ?_) (fun g114 => ?_)
                    · refine K.seq ?_
                      refine K.region ?_
                      refine KO.q rfl (q_assign rfl) ?_
                      refine KO.done ?_
                      refine K.ret (fn := Tryz.f8) Tryz.func8 (fun a w hk hs => res1 Tryz.results8 hk rfl) (fun w hs => ?_)
                      rw [hr]
                      exact ⟨_, TrE t pn dn (es.take i ++ [(⟨nm.plain.1, some b91, ((Lk.mk [] []).ask who m).2⟩ : E)] ++ es.drop i) ++ [AllO RkE (es.take i ++ [(⟨nm.plain.1, some b91, ((Lk.mk [] []).ask who m).2⟩ : E)] ++ es.drop i)], rfl, ⟨es.take i ++ [(⟨nm.plain.1, some b91, ((Lk.mk [] []).ask who m).2⟩ : E)] ++ es.drop i, pn, dn, by unfold err; simp_all, by rw [List.map_append, List.map_append, List.map_take, List.map_drop]; rfl, rfl⟩, tr_fin2 hi (hs.fit (M := [RkX b91 ((Lk.mk [] []).ask who m).2, AllO RkE es, pv t 29 [.slice pn (es.take i ++ [(⟨nm.plain.1, some b91, ⟨[], []⟩⟩ : E)] ++ es.drop i).length dn], RowO Kd.e 79 pn dn (es.take i ++ [(⟨nm.plain.1, some b91, ⟨[], []⟩⟩ : E)] ++ es.drop i)]) (by repeat (first | exact Give.nil | (apply Give.perI; (repeat (first | exact List.Mem.head _ | apply List.Mem.tail))) | (apply Give.own; (repeat (first | exact Pick.here | apply Pick.there))))) (by repeat (first | exact Drop.refl | apply Drop.skip)))⟩
                    · refine K.skip <| K.seq ?_
                      refine K.region ?_
                      refine KO.q rfl (q_assign rfl) ?_
                      refine KO.done ?_
                      refine K.ret (fn := Tryz.f8) Tryz.func8 (fun a w hk hs => res1 Tryz.results8 hk rfl) (fun w hs => ?_)
                      rw [hr]
                      exact ⟨_, TrE t pn dn (es.take i ++ [(⟨nm.plain.1, some b91, ((Lk.mk [] []).ask who m).2⟩ : E)] ++ es.drop i) ++ [AllO RkE (es.take i ++ [(⟨nm.plain.1, some b91, ((Lk.mk [] []).ask who m).2⟩ : E)] ++ es.drop i)], rfl, ⟨es.take i ++ [(⟨nm.plain.1, some b91, ((Lk.mk [] []).ask who m).2⟩ : E)] ++ es.drop i, pn, dn, by unfold err; simp_all, by rw [List.map_append, List.map_append, List.map_take, List.map_drop]; rfl, rfl⟩, tr_fin2 hi (hs.fit (M := [RkX b91 ((Lk.mk [] []).ask who m).2, AllO RkE es, pv t 29 [.slice pn (es.take i ++ [(⟨nm.plain.1, some b91, ⟨[], []⟩⟩ : E)] ++ es.drop i).length dn], RowO Kd.e 79 pn dn (es.take i ++ [(⟨nm.plain.1, some b91, ⟨[], []⟩⟩ : E)] ++ es.drop i)]) (by repeat (first | exact Give.nil | (apply Give.perI; (repeat (first | exact List.Mem.head _ | apply List.Mem.tail))) | (apply Give.own; (repeat (first | exact Pick.here | apply Pick.there))))) (by repeat (first | exact Drop.refl | apply Drop.skip)))⟩
                  · rintro _ _ ⟨b93, rfl, rfl⟩
                    refine D.st (fun w h => rowO_nil (k := Kd.e) 79 h) ?_
                    refine D.all (rs := [7]) (by kernel_rfl) rfl (DAll.cons rfl (by kernel_rfl) (l_append Kd.e (ys := es.take i) se_27 Tryz.underlying27 ⟨_, ze_79, rfl⟩ (by decide) rfl rfl (by repeat (first | exact Pick.here | apply Pick.there)) (isRow_take isO i) (by repeat (first | exact List.Mem.head _ | apply List.Mem.tail)) rfl (by rw [List.length_take]; omega) (by rw [List.length_take]; show (2 * (0 + _) + 768) * 48 ≤ _; omega)) (.inr (by rintro _ _ ⟨pa, ca, rfl, rfl⟩ w h; exact h.subD)) rfl ?_ DAll.nil)
                    rintro _ _ ⟨pa, ca, rfl, rfl⟩
                    refine D.all (rs := [13]) (by kernel_rfl) rfl (DAll.cons rfl (by kernel_rfl) (l_append Kd.e (ys := [⟨nm.plain.1, some b91, ⟨[], []⟩⟩]) se_27 Tryz.underlying27 ⟨_, ze_79, rfl⟩ (by decide) rfl rfl (by repeat (first | exact Pick.here | apply Pick.there)) isP (by repeat (first | exact List.Mem.head _ | apply List.Mem.tail)) rfl rfl (by rw [List.nil_append, List.length_take]; show (2 * (_ + 1) + 768) * 48 ≤ _; omega)) (.inr (by rintro _ _ ⟨pb, cb, rfl, rfl⟩ w h; exact h.subD)) rfl ?_ DAll.nil)
                    rintro _ _ ⟨pb, cb, rfl, rfl⟩
                    refine D.all (rs := [20]) (by kernel_rfl) rfl (DAll.cons rfl (by kernel_rfl) (l_append Kd.e (ys := es.drop i) se_27 Tryz.underlying27 ⟨_, ze_79, rfl⟩ (by decide) rfl rfl (by repeat (first | exact Pick.here | apply Pick.there)) (isO_cut i) (by repeat (first | exact List.Mem.head _ | apply List.Mem.tail)) rfl (by rw [List.length_drop]; rfl) (by rw [List.nil_append, List.length_append, List.length_take, List.length_drop]; show (2 * (_ + 1 + _) + 768) * 48 ≤ _; omega)) (.inr (by rintro _ _ ⟨pn, dn, rfl, rfl⟩ w h; exact h.subD)) rfl ?_ DAll.nil)
                    rintro _ _ ⟨pn, dn, rfl, rfl⟩
                    refine D.all (rs := [21]) (by kernel_rfl) rfl (DAll.cons rfl (by kernel_rfl) (OpQ.loud (q_nilCheck rfl)) (.inl (by kernel_rfl)) rfl ?_ DAll.nil)
                    rintro _ _ ⟨rfl, rfl⟩
                    refine D.all (rs := [22]) (by kernel_rfl) rfl (DAll.cons rfl (by kernel_rfl) (OpQ.loud (q_field fo_29_0 rfl)) (.inl (by kernel_rfl)) rfl ?_ DAll.nil)
                    rintro _ _ ⟨rfl, rfl⟩
                    refine D.all (rs := [23]) (by kernel_rfl) rfl (DAll.consN rfl (by kernel_rfl) (l_store1 ck_27 rfl rfl rfl (by repeat (first | exact Pick.here | apply Pick.there)) (by repeat (first | exact SetAt.here | apply SetAt.there))) (.inl (by kernel_rfl)) rfl ?_ DAll.nil)
                    rintro _ _ ⟨rfl, rfl⟩
                    refine D.done (by kernel_rfl) ?_
                    refine K.seq <| K.seq ?_
                    have hnew : (es.take i ++ [(⟨nm.plain.1, some b91, ⟨[], []⟩⟩ : E)] ++ es.drop i)[i]? = some ⟨nm.plain.1, some b91, ⟨[], []⟩⟩ := by
                      rw [List.append_assoc, List.getElem?_append_right (by rw [List.length_take]; omega), List.length_take, Nat.min_eq_left hi, Nat.sub_self]; rfl
                    have hnl : (es.take i ++ [(⟨nm.plain.1, some b91, ⟨[], []⟩⟩ : E)] ++ es.drop i).length = es.length + 1 := by
                      rw [List.length_append, List.length_append, List.length_take, List.length_drop, List.length_singleton]; omega
                    rw [List.nil_append]
                    refine K.region ?_
                    refine KO.q rfl (q_move rfl) ?_
                    refine KO.q rfl (q_nilCheck rfl) ?_
                    refine KO.q rfl (q_field fo_29_0 rfl) ?_
                    refine KO.q rfl (q_load1D ck_27 rfl) ?_
                    refine KO.q rfl (q_move rfl) ?_
                    refine KO.q rfl (q_ix (xs := es.take i ++ [(⟨nm.plain.1, some b91, ⟨[], []⟩⟩ : E)] ++ es.drop i) i se_27 rfl rfl rfl isO (by repeat (first | exact List.Mem.head _ | apply List.Mem.tail)) rfl (by omega)) ?_
                    refine KO.q rfl (q_fieldE fo_79_1 rfl) ?_
                    refine KO.q rfl (q_ldE (xs := es.take i ++ [(⟨nm.plain.1, some b91, ⟨[], []⟩⟩ : E)] ++ es.drop i) ck_77 rfl isO (by repeat (first | exact List.Mem.head _ | apply List.Mem.tail)) hnew rfl) ?_
                    refine KO.q rfl (q_move rfl) ?_
                    refine KO.q rfl (q_move rfl) ?_
                    refine KO.loud rfl (OpL.callD rfl (h := rf_AskX b91 ⟨[], []⟩ who m (by decide))) ?_
                    rintro _ _ ⟨_, ⟨rfl, rfl⟩, rfl⟩
                    refine KO.done ?_
                    refine K.bcond (s := 114) rfl (fun g114 => ?_) (fun g114 => ?_)
                    · refine K.seq ?_
                      refine K.region ?_
                      refine KO.q rfl (q_assign rfl) ?_
                      refine KO.done ?_
                      refine K.ret (fn := Tryz.f8) Tryz.func8 (fun a w hk hs => res1 Tryz.results8 hk rfl) (fun w hs => ?_)
                      rw [hr]
                      exact ⟨_, TrE t pn dn (es.take i ++ [(⟨nm.plain.1, some b91, ((Lk.mk [] []).ask who m).2⟩ : E)] ++ es.drop i) ++ [AllO RkE (es.take i ++ [(⟨nm.plain.1, some b91, ((Lk.mk [] []).ask who m).2⟩ : E)] ++ es.drop i)], rfl, ⟨es.take i ++ [(⟨nm.plain.1, some b91, ((Lk.mk [] []).ask who m).2⟩ : E)] ++ es.drop i, pn, dn, by unfold err; simp_all, by rw [List.map_append, List.map_append, List.map_take, List.map_drop]; rfl, rfl⟩, tr_fin2 hi (hs.fit (M := [RkX b91 ((Lk.mk [] []).ask who m).2, AllO RkE es, pv t 29 [.slice pn (es.take i ++ [(⟨nm.plain.1, some b91, ⟨[], []⟩⟩ : E)] ++ es.drop i).length dn], RowO Kd.e 79 pn dn (es.take i ++ [(⟨nm.plain.1, some b91, ⟨[], []⟩⟩ : E)] ++ es.drop i)]) (by repeat (first | exact Give.nil | (apply Give.perI; (repeat (first | exact List.Mem.head _ | apply List.Mem.tail))) | (apply Give.own; (repeat (first | exact Pick.here | apply Pick.there))))) (by repeat (first | exact Drop.refl | apply Drop.skip)))⟩
                    · refine K.skip <| K.seq ?_
                      refine K.region ?_
                      refine KO.q rfl (q_assign rfl) ?_
                      refine KO.done ?_
                      refine K.ret (fn := Tryz.f8) Tryz.func8 (fun a w hk hs => res1 Tryz.results8 hk rfl) (fun w hs => ?_)
                      rw [hr]
                      exact ⟨_, TrE t pn dn (es.take i ++ [(⟨nm.plain.1, some b91, ((Lk.mk [] []).ask who m).2⟩ : E)] ++ es.drop i) ++ [AllO RkE (es.take i ++ [(⟨nm.plain.1, some b91, ((Lk.mk [] []).ask who m).2⟩ : E)] ++ es.drop i)], rfl, ⟨es.take i ++ [(⟨nm.plain.1, some b91, ((Lk.mk [] []).ask who m).2⟩ : E)] ++ es.drop i, pn, dn, by unfold err; simp_all, by rw [List.map_append, List.map_append, List.map_take, List.map_drop]; rfl, rfl⟩, tr_fin2 hi (hs.fit (M := [RkX b91 ((Lk.mk [] []).ask who m).2, AllO RkE es, pv t 29 [.slice pn (es.take i ++ [(⟨nm.plain.1, some b91, ⟨[], []⟩⟩ : E)] ++ es.drop i).length dn], RowO Kd.e 79 pn dn (es.take i ++ [(⟨nm.plain.1, some b91, ⟨[], []⟩⟩ : E)] ++ es.drop i)]) (by repeat (first | exact Give.nil | (apply Give.perI; (repeat (first | exact List.Mem.head _ | apply List.Mem.tail))) | (apply Give.own; (repeat (first | exact Pick.here | apply Pick.there))))) (by repeat (first | exact Drop.refl | apply Drop.skip)))⟩
            · obtain ⟨i, e, he, hi, hen⟩ := atT_some g59
              have hez := hz e (List.mem_of_getElem? he)
              have hil := (List.getElem?_eq_some_iff.1 he).1
              have hfT : fndT (es.map E.abs) nm.plain.1 = true := Decidable.byContradiction fun h => by rw [if_neg h] at hat; omega
              have hlT : lbT (es.map E.abs) nm.plain.1 = i := by rw [if_pos hfT] at hat; omega
              have hkT : kAt (es.map E.abs) i = e.k := kAt_abs he
              obtain ⟨nm', pp, k⟩ := e
              have hkT : kAt (es.map E.abs) i = k := hkT
              have hez : k.size ≤ 1000000 := hez
              have hen : nm' = nm.plain.1 := hen
              have hr1 : (askT (es.map E.abs) n who nm m).1 = err (k.ask who m).1 := by unfold askT; rw [if_neg hpl', if_neg hwt, if_neg g34, if_pos hfT, hlT, hkT, if_neg (show ¬ 200 ≤ n by omega)]; split <;> rfl
              have hr2 : (askT (es.map E.abs) n who nm m).2.1 = (es.map E.abs).set i ⟨nm.plain.1, (k.ask who m).2⟩ := by unfold askT; rw [if_neg hpl', if_neg hwt, if_neg g34, if_pos hfT, hlT, hkT, if_neg (show ¬ 200 ≤ n by omega)]; split <;> rfl
              subst hen
              refine K.ex (fun w h => tr_open he (h.pick (by repeat (first | exact Pick.here | apply Pick.there)))) (fun bx => ?_)
              obtain ⟨bx, hbx⟩ := bx
              have hbx : pp = some bx := hbx
              subst hbx
              refine K.skip <| K.seq <| K.seq ?_
              refine K.region ?_
              refine KO.q rfl (q_move rfl) ?_
              refine KO.q rfl (q_nilCheck rfl) ?_
              refine KO.q rfl (q_field fo_29_0 rfl) ?_
              refine KO.q rfl (q_load1D ck_27 rfl) ?_
              refine KO.q rfl (q_move rfl) ?_
              refine KO.q rfl (q_ix (xs := es) i se_27 rfl rfl hi isO (by repeat (first | exact List.Mem.head _ | apply List.Mem.tail)) rfl hil) ?_
              refine KO.q rfl (q_fieldE fo_79_1 rfl) ?_
              refine KO.q rfl (q_ldE (xs := es) ck_77 rfl isO (by repeat (first | exact List.Mem.head _ | apply List.Mem.tail)) he rfl) ?_
              refine KO.q rfl (q_move rfl) ?_
              refine KO.q rfl (q_move rfl) ?_
              refine KO.loud rfl (OpL.callD rfl (h := rf_AskX bx k who m hez)) ?_
              rintro _ _ ⟨_, ⟨rfl, rfl⟩, rfl⟩
              refine KO.done ?_
              refine K.bcond (s := 114) rfl (fun g114 => ?_) (fun g114 => ?_)
              · refine K.seq ?_
                refine K.region ?_
                refine KO.q rfl (q_assign rfl) ?_
                refine KO.done ?_
                refine K.ret (fn := Tryz.f8) Tryz.func8 (fun a w hk hs => res1 Tryz.results8 hk rfl) (fun w hs => ?_)
                rw [hr1, hr2]
                exact ⟨_, TrE t q c (es.set i ⟨nm.plain.1, some bx, (k.ask who m).2⟩) ++ [AllO RkE (es.set i ⟨nm.plain.1, some bx, (k.ask who m).2⟩)], rfl, ⟨es.set i ⟨nm.plain.1, some bx, (k.ask who m).2⟩, q, c, by unfold err; simp_all, by rw [List.map_set]; rfl, rfl⟩, tr_fin he (hs.fit (M := [RkX bx (k.ask who m).2, AllO RkE (es.eraseIdx i), pv t 29 [.slice q es.length c], RowO Kd.e 79 q c es]) (by repeat (first | exact Give.nil | (apply Give.perI; (repeat (first | exact List.Mem.head _ | apply List.Mem.tail))) | (apply Give.own; (repeat (first | exact Pick.here | apply Pick.there))))) (by repeat (first | exact Drop.refl | apply Drop.skip)))⟩
              · refine K.skip <| K.seq ?_
                refine K.region ?_
                refine KO.q rfl (q_assign rfl) ?_
                refine KO.done ?_
                refine K.ret (fn := Tryz.f8) Tryz.func8 (fun a w hk hs => res1 Tryz.results8 hk rfl) (fun w hs => ?_)
                rw [hr1, hr2]
                exact ⟨_, TrE t q c (es.set i ⟨nm.plain.1, some bx, (k.ask who m).2⟩) ++ [AllO RkE (es.set i ⟨nm.plain.1, some bx, (k.ask who m).2⟩)], rfl, ⟨es.set i ⟨nm.plain.1, some bx, (k.ask who m).2⟩, q, c, by unfold err; simp_all, by rw [List.map_set]; rfl, rfl⟩, tr_fin he (hs.fit (M := [RkX bx (k.ask who m).2, AllO RkE (es.eraseIdx i), pv t 29 [.slice q es.length c], RowO Kd.e 79 q c es]) (by repeat (first | exact Give.nil | (apply Give.perI; (repeat (first | exact List.Mem.head _ | apply List.Mem.tail))) | (apply Give.own; (repeat (first | exact Pick.here | apply Pick.there))))) (by repeat (first | exact Drop.refl | apply Drop.skip)))⟩
end Go.Proofs.YtcpkcjabmookmaaGreat.L
