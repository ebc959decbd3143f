/- Walk: a state written by the document. -/
import Derived.Test.YtlellgnklohclaaD1
namespace Go.Proofs.Ytlellgnklohclaa.L
open Go Go.Proofs
attribute [local irreducible] pv fv pt fz RowF RowO rowP old pure_ elA Rd.int Rd.text Rd.flag Rd.msg Rd.rint Rd.rtext Rd.rflag Rd.rmsg
set_option maxRecDepth 100000
set_option linter.unusedSimpArgs false
set_option linter.unusedVariables false

theorem len_of {s : Sz} (hcnt : s.cnt s.l.length ≤ 200) : s.l.length ≤ 200 := by
  have : s.l.length ≤ s.cnt s.l.length := by
    unfold Sz.cnt
    rw [List.take_length]
    clear hcnt
    generalize s.l = l
    induction l with
    | nil => simp
    | cons o l ih =>
      have : 1 ≤ o.x.cnt := by unfold Ob.cnt; omega
      simp only [List.length_cons, List.map_cons, List.sum_cons]; omega
  omega
theorem msgs_fold (X : List UInt8) (l : List Msg) : X ++ wInt l.length ++ l.flatMap Msg.bytes = X ++ msgsBytes l := by simp [msgsBytes]
--%call poste/posteref14.ImageBytes := ref_ImageBytes _ (by assumption) (by assumption) !! ⟨_, ⟨q#, c#, rfl, rfl⟩, rfl⟩
set_option maxHeartbeats 3200000 in
theorem ref_ImageBytes (s : Sz) (hok : s.ok) (hcnt : s.cnt s.l.length ≤ 200) : Fn Try.prog 56 [.agg s.cells.toArray].toArray (StL s)
    (fun r post => ∃ q cap, r = .slice q (imgBytes s.st).length cap ∧ post = [RowF Kd.u8 q (imgBytes s.st)]) := by
  have hpre := preB_len s
  have hcm := cnt_mono s
  have hlc0 := len_of hcnt
  have hN : s.cnt s.l.length ≤ 9000000000000000000 := by omega
  refine Fn.enter (N := 117) Try.func56 rfl Try.ntmps56 (by kernel_rfl) rfl (fun ρ L => ?_)
  refine K.seq ?_
  refine K.region ?_
  refine KO.loud rfl (l_box rfl rfl) ?_
  rintro _ _ ⟨b1, rfl, rfl⟩
  refine KO.q rfl (q_assign rfl) ?_
  refine KO.done ?_
  refine K.seq <| K.seq ?_
  refine K.region ?_
  refine KO.q rfl (q_loadN ck_76 rfl rfl (by first | (apply cells_pv; (repeat (first | exact List.Mem.head _ | apply List.Mem.tail))) | (apply cells_fv; (repeat (first | exact List.Mem.head _ | apply List.Mem.tail))))) ?_
  refine KO.loud rfl (OpL.callD rfl (h := ref_RightState _ (by assumption) (by assumption))) ?_
  rintro _ _ ⟨_, ⟨rfl, rfl⟩, rfl⟩
  refine KO.q rfl (q_not rfl) ?_
  refine KO.done ?_
  refine K.bcond (s := 11) rfl (fun g11 => ?_) (fun g11 => ?_)
  · refine K.seq ?_
    have hr : imgBytes s.st = [] := if_neg (by simpa using g11)
    rw [hr]
    refine K.region ?_
    refine KO.q rfl (q_assign rfl) ?_
    refine KO.done ?_
    refine K.ret (fn := Try.f56) Try.func56 (fun a w hk hs => res1 Try.results56 hk rfl) (fun w hs => ?_)
    first
      | exact ⟨_, [RowF Kd.u8 none []], rfl, ⟨none, 0, rfl, rfl⟩, (rowF_nil (k := Kd.u8) none hs).fitD⟩
      | exact ⟨_, [RowF Kd.u8 q' s.st.bytes], rfl, ⟨q', cap', rfl, rfl⟩, hs.fitD⟩
  · refine K.skip <| K.seq ?_
    have hr : imgBytes s.st = s.st.bytes := if_pos (by simpa using g11)
    rw [hr]
    refine K.region ?_
    refine KO.q rfl (q_build st_52 rfl (by repeat (first | exact Fill.nil | (apply Fill.cons; rfl; rfl; rfl) | exact SetN.nil | apply SetN.cons | exact SetAt.here | apply SetAt.there))) ?_
    refine KO.loud rfl (l_box rfl rfl) ?_
    rintro _ _ ⟨b13, rfl, rfl⟩
    refine KO.q rfl (q_assign rfl) ?_
    refine KO.done ?_
    refine K.st (fun w h => rowO_nil (k := Kd.u8) 5 h) ?_
    refine K.seq ?_
    refine K.region ?_
    refine KO.q rfl (q_move rfl) ?_
    refine KO.q rfl (q_field fo_76_0 rfl) ?_
    refine KO.q rfl (q_load1D ck_3 rfl) ?_
    refine KO.loud rfl (OpL.callE rfl (wf_Int b13 none 0 [] _ (by simp))) ?_
    rintro _ _ ⟨_, ⟨q0, c0, rfl, rfl⟩, rfl⟩
    refine KO.done ?_
    refine K.seq ?_
    refine K.region ?_
    refine KO.q rfl (q_move rfl) ?_
    refine KO.q rfl (q_field fo_76_1 rfl) ?_
    refine KO.q rfl (q_load1D ck_74 rfl) ?_
    refine KO.q rfl (q_len Try.underlying74 rfl) ?_
    refine KO.loud rfl (OpL.callD rfl (h := wf_Int _ _ _ _ _ (by simp [wInt_length]))) ?_
    rintro _ _ ⟨_, ⟨qa, ca, rfl, rfl⟩, rfl⟩
    refine KO.done ?_
    refine K.seq <| K.seq ?_
    refine K.region ?_
    refine KO.q rfl (q_assign rfl) ?_
    refine KO.done ?_
    refine K.block ?_
    rw [preB_zero]
    refine K.rounds2 (ι := { x : Nat × Option Addr × Nat // x.1 ≤ s.l.length }) (fun x => [(4, .int .i64 x.1.1), (3, .pointer (some ⟨b13, 0, none⟩)), (1, .pointer (some ⟨b1, 0, none⟩))]) (fun x => WfL b13 x.1.2.1 x.1.2.2 (preB s x.1.1) ++ (pv b1 76 s.cells :: StL s ++ L)) (fun x => s.l.length - x.1.1) ⟨(0, qa, ca), Nat.zero_le _⟩ (by repeat (first | exact Env.sub_nil _ | refine Env.sub_cons rfl ?_)) (fun w h => h.fitD) (fun x ih => ?_)
    obtain ⟨⟨i, q', cap'⟩, hi⟩ := x
    have hpl := hpre i
    have hci := hcm i
    dsimp only at hi ⊢
    refine K.seq <| K.seq ?_
    refine K.region ?_
    refine KO.q rfl (q_move rfl) ?_
    refine KO.q rfl (q_field fo_76_1 rfl) ?_
    refine KO.q rfl (q_load1D ck_74 rfl) ?_
    refine KO.q rfl (q_len Try.underlying74 rfl) ?_
    refine KO.q rfl (q_lt rfl rfl) ?_
    refine KO.done ?_
    refine K.dcond (s := 27) rfl (fun g27 => ?_) (fun g27 => ?_)
    · obtain ⟨o, ho⟩ : ∃ e, s.l[i]? = some e := ⟨_, List.getElem?_eq_getElem (by omega)⟩
      have hmo := List.mem_of_getElem? ho
      have hcs := cnt_succ ho
      have hc1 := hcm (i + 1)
      unfold Ob.cnt at hcs
      refine K.st (fun w h => nestF_at (l := s.l) (by repeat (first | exact List.Mem.head _ | apply List.Mem.tail)) hmo h) ?_
      refine K.skip <| K.seq <| K.block <| K.seq ?_
      refine K.region ?_
      refine KO.q rfl (q_field fo_76_1 rfl) ?_
      refine KO.q rfl (q_load1D ck_74 rfl) ?_
      refine KO.q rfl (q_move rfl) ?_
      first | refine KO.q rfl (q_ix _ se_74 rfl rfl rfl isF (by repeat (first | exact List.Mem.head _ | apply List.Mem.tail)) rfl (by first | assumption | omega | exact (List.getElem?_eq_some_iff.1 (by assumption)).1 | (simp; omega))) ?_ | refine KO.q rfl (q_ix _ se_74 rfl rfl rfl isO (by repeat (first | exact List.Mem.head _ | apply List.Mem.tail)) rfl (by first | assumption | omega | exact (List.getElem?_eq_some_iff.1 (by assumption)).1 | (simp; omega))) ?_
      first | refine KO.q rfl (q_ldEN ck_108 rfl isF (by repeat (first | exact List.Mem.head _ | apply List.Mem.tail)) (by first | assumption | exact List.getElem?_eq_getElem (by first | assumption | omega | (simp; omega)))) ?_ | refine KO.q rfl (q_ldEN ck_108 rfl isO (by repeat (first | exact List.Mem.head _ | apply List.Mem.tail)) (by first | assumption | exact List.getElem?_eq_getElem (by first | assumption | omega | (simp; omega)))) ?_
      refine KO.loud rfl (l_alloc zo_108) ?_
      rintro _ _ ⟨b5, rfl, rfl⟩
      refine KO.loudN rfl (l_storeAll ck_108 rfl rfl ⟨rfl, rfl⟩ (oz_one _) (by repeat (first | exact Pick.here | apply Pick.there))) ?_
      rintro _ _ ⟨rfl, rfl⟩
      refine KO.done ?_
      refine K.seq ?_
      refine K.region ?_
      refine KO.q rfl (q_move rfl) ?_
      refine KO.q rfl (q_field fo_108_0 rfl) ?_
      refine KO.q rfl (q_load1D ck_9 rfl) ?_
      refine KO.loud rfl (OpL.callD rfl (h := wf_TextA _ _ _ _ _ (by first | omega | (simp [wInt_length, wFlag_length, wText_length]; omega)))) ?_
      rintro _ _ ⟨_, ⟨q2, c2, rfl, rfl⟩, rfl⟩
      refine KO.done ?_
      refine K.seq ?_
      refine K.region ?_
      refine KO.q rfl (q_move rfl) ?_
      refine KO.q rfl (q_field fo_108_1 rfl) ?_
      refine KO.q rfl (q_load1D ck_3 rfl) ?_
      refine KO.loud rfl (OpL.callD rfl (h := wf_Int _ _ _ _ _ (by first | omega | (simp [wInt_length, wFlag_length, wText_length]; omega)))) ?_
      rintro _ _ ⟨_, ⟨q3, c3, rfl, rfl⟩, rfl⟩
      refine KO.done ?_
      refine K.seq ?_
      refine K.region ?_
      refine KO.q rfl (q_move rfl) ?_
      refine KO.q rfl (q_field fo_108_2 rfl) ?_
      refine KO.q rfl (q_load1D ck_3 rfl) ?_
      refine KO.loud rfl (OpL.callD rfl (h := wf_Int _ _ _ _ _ (by first | omega | (simp [wInt_length, wFlag_length, wText_length]; omega)))) ?_
      rintro _ _ ⟨_, ⟨q4, c4, rfl, rfl⟩, rfl⟩
      refine KO.done ?_
      refine K.seq ?_
      refine K.region ?_
      refine KO.q rfl (q_move rfl) ?_
      refine KO.q rfl (q_field fo_108_3 rfl) ?_
      refine KO.q rfl (q_load1D ck_106 rfl) ?_
      refine KO.q rfl (q_len Try.underlying106 rfl) ?_
      refine KO.loud rfl (OpL.callD rfl (h := wf_Int _ _ _ _ _ (by first | omega | (simp [wInt_length, wFlag_length, wText_length]; omega)))) ?_
      rintro _ _ ⟨_, ⟨q5, c5, rfl, rfl⟩, rfl⟩
      refine KO.done ?_
      refine K.seq <| K.seq ?_
      obtain ⟨A, hA⟩ : ∃ A, A = preB s i ++ wText o.x.name ++ wInt o.x.kind ++ wInt o.x.limit ++ wInt o.x.rows.length := ⟨_, rfl⟩
      have hAl : A.length ≤ 100000000 := by rw [hA]; simp only [List.length_append, wInt_length, wText_length]; omega
      rw [← hA]
      refine K.region ?_
      refine KO.q rfl (q_assign rfl) ?_
      refine KO.done ?_
      refine K.block ?_
      refine K.rounds2 (ι := { x : Nat × Option Addr × Nat // x.1 ≤ o.x.rows.length }) (fun x => [(6, .int .i64 x.1.1), (5, .pointer (some ⟨b5, 0, none⟩)), (4, .int .i64 i), (3, .pointer (some ⟨b13, 0, none⟩)), (1, .pointer (some ⟨b1, 0, none⟩))]) (fun x => WfL b13 x.1.2.1 x.1.2.2 (A ++ (o.x.rows.take x.1.1).flatMap Rw.bytes) ++ (pv b5 108 o.cells :: ObL o ++ (pv b1 76 s.cells :: StL s ++ L))) (fun x => o.x.rows.length - x.1.1) ⟨(0, q5, c5), Nat.zero_le _⟩ (by repeat (first | exact Env.sub_nil _ | refine Env.sub_cons rfl ?_)) (fun w h => by rw [show A ++ (o.x.rows.take 0).flatMap Rw.bytes = A by simp]; exact h.fitD) (fun x ih2 => ?_)
      obtain ⟨⟨k, q'', cap''⟩, hk⟩ := x
      dsimp only at hk ⊢
      obtain ⟨B, hB⟩ : ∃ B, B = A ++ (o.x.rows.take k).flatMap Rw.bytes := ⟨_, rfl⟩
      have hBl : B.length ≤ 200000000 := by have := flatB_take (f := Rw.bytes) o.x.rows (fun r => r.bytes_length) k; rw [hB, List.length_append]; omega
      rw [← hB]
      refine K.seq <| K.seq ?_
      refine K.region ?_
      refine KO.q rfl (q_move rfl) ?_
      refine KO.q rfl (q_field fo_108_3 rfl) ?_
      refine KO.q rfl (q_load1D ck_106 rfl) ?_
      refine KO.q rfl (q_len Try.underlying106 rfl) ?_
      refine KO.q rfl (q_lt rfl rfl) ?_
      refine KO.done ?_
      refine K.dcond (s := 56) rfl (fun g56 => ?_) (fun g56 => ?_)
      · obtain ⟨r, hr⟩ : ∃ e, o.x.rows[k]? = some e := ⟨_, List.getElem?_eq_getElem (by omega)⟩
        refine K.skip <| K.seq <| K.block <| K.seq ?_
        refine K.region ?_
        refine KO.q rfl (q_move rfl) ?_
        refine KO.q rfl (q_field fo_108_3 rfl) ?_
        refine KO.q rfl (q_load1D ck_106 rfl) ?_
        refine KO.q rfl (q_move rfl) ?_
        first | refine KO.q rfl (q_ix _ se_106 rfl rfl rfl isF (by repeat (first | exact List.Mem.head _ | apply List.Mem.tail)) rfl (by first | assumption | omega | exact (List.getElem?_eq_some_iff.1 (by assumption)).1 | (simp; omega))) ?_ | refine KO.q rfl (q_ix _ se_106 rfl rfl rfl isO (by repeat (first | exact List.Mem.head _ | apply List.Mem.tail)) rfl (by first | assumption | omega | exact (List.getElem?_eq_some_iff.1 (by assumption)).1 | (simp; omega))) ?_
        refine KO.q rfl (q_fieldE fo_103_0 rfl) ?_
        first | refine KO.q rfl (q_ldE ck_9 rfl isF (by repeat (first | exact List.Mem.head _ | apply List.Mem.tail)) (by first | assumption | exact List.getElem?_eq_getElem (by first | assumption | omega | (simp; omega))) rfl) ?_ | refine KO.q rfl (q_ldE ck_9 rfl isO (by repeat (first | exact List.Mem.head _ | apply List.Mem.tail)) (by first | assumption | exact List.getElem?_eq_getElem (by first | assumption | omega | (simp; omega))) rfl) ?_
        refine KO.loud rfl (OpL.callD rfl (h := wf_TextA _ _ _ _ _ (by first | omega | (simp [wInt_length, wFlag_length, wText_length]; omega)))) ?_
        rintro _ _ ⟨_, ⟨q6, c6, rfl, rfl⟩, rfl⟩
        refine KO.done ?_
        refine K.region ?_
        refine KO.q rfl (q_move rfl) ?_
        refine KO.q rfl (q_field fo_108_3 rfl) ?_
        refine KO.q rfl (q_load1D ck_106 rfl) ?_
        refine KO.q rfl (q_move rfl) ?_
        first | refine KO.q rfl (q_ix _ se_106 rfl rfl rfl isF (by repeat (first | exact List.Mem.head _ | apply List.Mem.tail)) rfl (by first | assumption | omega | exact (List.getElem?_eq_some_iff.1 (by assumption)).1 | (simp; omega))) ?_ | refine KO.q rfl (q_ix _ se_106 rfl rfl rfl isO (by repeat (first | exact List.Mem.head _ | apply List.Mem.tail)) rfl (by first | assumption | omega | exact (List.getElem?_eq_some_iff.1 (by assumption)).1 | (simp; omega))) ?_
        refine KO.q rfl (q_fieldE fo_103_1 rfl) ?_
        first | refine KO.q rfl (q_ldE ck_9 rfl isF (by repeat (first | exact List.Mem.head _ | apply List.Mem.tail)) (by first | assumption | exact List.getElem?_eq_getElem (by first | assumption | omega | (simp; omega))) rfl) ?_ | refine KO.q rfl (q_ldE ck_9 rfl isO (by repeat (first | exact List.Mem.head _ | apply List.Mem.tail)) (by first | assumption | exact List.getElem?_eq_getElem (by first | assumption | omega | (simp; omega))) rfl) ?_
        refine KO.loud rfl (OpL.callD rfl (h := wf_TextA _ _ _ _ _ (by first | omega | (simp [wInt_length, wFlag_length, wText_length]; omega)))) ?_
        rintro _ _ ⟨_, ⟨q7, c7, rfl, rfl⟩, rfl⟩
        refine KO.done ?_
        refine K.inBlock ?_
        refine K.region ?_
        refine KO.q rfl (q_move rfl) ?_
        refine KO.q rfl (q_add rfl rfl (by first | omega | (simp; omega)) (by first | omega | (simp; omega))) ?_
        refine KO.q rfl (q_assign rfl) ?_
        refine KO.done ?_
        rw [hB, ← rowsB_succ A hr]
        exact K.weak (by repeat (first | exact Env.sub_nil _ | refine Env.sub_cons rfl ?_)) (fun w h => h.fitD) (ih2 ⟨(k + 1, q7, c7), by show k + 1 ≤ o.x.rows.length; omega⟩ (by show o.x.rows.length - (k + 1) < o.x.rows.length - k; omega))
      · obtain rfl : k = o.x.rows.length := by omega
        rw [List.take_length] at hB
        refine K.exit rfl ?_
        refine K.seq ?_
        refine K.region ?_
        refine KO.q rfl (q_move rfl) ?_
        refine KO.q rfl (q_field fo_108_4 rfl) ?_
        refine KO.q rfl (q_load1D ck_26 rfl) ?_
        refine KO.q rfl (q_len Try.underlying26 rfl) ?_
        refine KO.loud rfl (OpL.callD rfl (h := wf_Int _ _ _ _ _ (by first | omega | (simp [wInt_length, wFlag_length, wText_length]; omega)))) ?_
        rintro _ _ ⟨_, ⟨q8, c8, rfl, rfl⟩, rfl⟩
        refine KO.done ?_
        refine K.seq <| K.seq ?_
        obtain ⟨A2, hA2⟩ : ∃ A2, A2 = B ++ wInt o.x.msgs.length := ⟨_, rfl⟩
        have hA2l : A2.length ≤ 200000008 := by rw [hA2]; simp only [List.length_append, wInt_length]; omega
        rw [← hA2]
        refine K.region ?_
        refine KO.q rfl (q_assign rfl) ?_
        refine KO.done ?_
        refine K.block ?_
        refine K.rounds2 (ι := { x : Nat × Option Addr × Nat // x.1 ≤ o.x.msgs.length }) (fun x => [(7, .int .i64 x.1.1), (5, .pointer (some ⟨b5, 0, none⟩)), (4, .int .i64 i), (3, .pointer (some ⟨b13, 0, none⟩)), (1, .pointer (some ⟨b1, 0, none⟩))]) (fun x => WfL b13 x.1.2.1 x.1.2.2 (A2 ++ (o.x.msgs.take x.1.1).flatMap Msg.bytes) ++ (pv b5 108 o.cells :: ObL o ++ (pv b1 76 s.cells :: StL s ++ L))) (fun x => o.x.msgs.length - x.1.1) ⟨(0, q8, c8), Nat.zero_le _⟩ (by repeat (first | exact Env.sub_nil _ | refine Env.sub_cons rfl ?_)) (fun w h => by rw [show A2 ++ (o.x.msgs.take 0).flatMap Msg.bytes = A2 by simp]; exact h.fitD) (fun x ih3 => ?_)
        obtain ⟨⟨k2, q3, cap3⟩, hk2⟩ := x
        dsimp only at hk2 ⊢
        obtain ⟨B2, hB2⟩ : ∃ B2, B2 = A2 ++ (o.x.msgs.take k2).flatMap Msg.bytes := ⟨_, rfl⟩
        have hB2l : B2.length ≤ 300000000 := by have := flatB_take (f := Msg.bytes) o.x.msgs (fun r => r.bytes_length) k2; rw [hB2, List.length_append]; omega
        rw [← hB2]
        refine K.seq <| K.seq ?_
        refine K.region ?_
        refine KO.q rfl (q_move rfl) ?_
        refine KO.q rfl (q_field fo_108_4 rfl) ?_
        refine KO.q rfl (q_load1D ck_26 rfl) ?_
        refine KO.q rfl (q_len Try.underlying26 rfl) ?_
        refine KO.q rfl (q_lt rfl rfl) ?_
        refine KO.done ?_
        refine K.dcond (s := 84) rfl (fun g84 => ?_) (fun g84 => ?_)
        · obtain ⟨m, hm⟩ : ∃ e, o.x.msgs[k2]? = some e := ⟨_, List.getElem?_eq_getElem (by omega)⟩
          refine K.skip <| K.seq <| K.block ?_
          refine K.region ?_
          refine KO.q rfl (q_move rfl) ?_
          refine KO.q rfl (q_field fo_108_4 rfl) ?_
          refine KO.q rfl (q_load1D ck_26 rfl) ?_
          refine KO.q rfl (q_move rfl) ?_
          first | refine KO.q rfl (q_ix _ se_26 rfl rfl rfl isF (by repeat (first | exact List.Mem.head _ | apply List.Mem.tail)) rfl (by first | assumption | omega | exact (List.getElem?_eq_some_iff.1 (by assumption)).1 | (simp; omega))) ?_ | refine KO.q rfl (q_ix _ se_26 rfl rfl rfl isO (by repeat (first | exact List.Mem.head _ | apply List.Mem.tail)) rfl (by first | assumption | omega | exact (List.getElem?_eq_some_iff.1 (by assumption)).1 | (simp; omega))) ?_
          first | refine KO.q rfl (q_ldEN ck_24 rfl isF (by repeat (first | exact List.Mem.head _ | apply List.Mem.tail)) (by first | assumption | exact List.getElem?_eq_getElem (by first | assumption | omega | (simp; omega)))) ?_ | refine KO.q rfl (q_ldEN ck_24 rfl isO (by repeat (first | exact List.Mem.head _ | apply List.Mem.tail)) (by first | assumption | exact List.getElem?_eq_getElem (by first | assumption | omega | (simp; omega)))) ?_
          refine KO.loud rfl (OpL.callD rfl (h := ref_putMsgA _ _ _ _ _ (by first | omega | (simp [wInt_length, wFlag_length, wText_length]; omega)))) ?_
          rintro _ _ ⟨_, ⟨q9, c9, rfl, rfl⟩, rfl⟩
          refine KO.done ?_
          refine K.inBlock ?_
          refine K.region ?_
          refine KO.q rfl (q_move rfl) ?_
          refine KO.q rfl (q_add rfl rfl (by first | omega | (simp; omega)) (by first | omega | (simp; omega))) ?_
          refine KO.q rfl (q_assign rfl) ?_
          refine KO.done ?_
          rw [hB2, ← flatB_succ A2 hm]
          exact K.weak (by repeat (first | exact Env.sub_nil _ | refine Env.sub_cons rfl ?_)) (fun w h => h.fitD) (ih3 ⟨(k2 + 1, q9, c9), by show k2 + 1 ≤ o.x.msgs.length; omega⟩ (by show o.x.msgs.length - (k2 + 1) < o.x.msgs.length - k2; omega))
        · obtain rfl : k2 = o.x.msgs.length := by omega
          rw [List.take_length, hA2, msgs_fold] at hB2
          refine K.exit rfl ?_
          refine K.seq ?_
          refine K.region ?_
          refine KO.q rfl (q_move rfl) ?_
          refine KO.q rfl (q_field fo_108_5 rfl) ?_
          refine KO.q rfl (q_load1D ck_26 rfl) ?_
          refine KO.q rfl (q_len Try.underlying26 rfl) ?_
          refine KO.loud rfl (OpL.callD rfl (h := wf_Int _ _ _ _ _ (by first | omega | (simp [wInt_length, wFlag_length, wText_length]; omega)))) ?_
          rintro _ _ ⟨_, ⟨q10, c10, rfl, rfl⟩, rfl⟩
          refine KO.done ?_
          refine K.seq ?_
          obtain ⟨A3, hA3⟩ : ∃ A3, A3 = B2 ++ wInt o.x.dead.length := ⟨_, rfl⟩
          have hA3l : A3.length ≤ 300000008 := by rw [hA3]; simp only [List.length_append, wInt_length]; omega
          rw [← hA3]
          refine K.region ?_
          refine KO.q rfl (q_assign rfl) ?_
          refine KO.done ?_
          refine K.block ?_
          refine K.rounds2 (ι := { x : Nat × Option Addr × Nat // x.1 ≤ o.x.dead.length }) (fun x => [(8, .int .i64 x.1.1), (5, .pointer (some ⟨b5, 0, none⟩)), (4, .int .i64 i), (3, .pointer (some ⟨b13, 0, none⟩)), (1, .pointer (some ⟨b1, 0, none⟩))]) (fun x => WfL b13 x.1.2.1 x.1.2.2 (A3 ++ (o.x.dead.take x.1.1).flatMap Msg.bytes) ++ (pv b5 108 o.cells :: ObL o ++ (pv b1 76 s.cells :: StL s ++ L))) (fun x => o.x.dead.length - x.1.1) ⟨(0, q10, c10), Nat.zero_le _⟩ (by repeat (first | exact Env.sub_nil _ | refine Env.sub_cons rfl ?_)) (fun w h => by rw [show A3 ++ (o.x.dead.take 0).flatMap Msg.bytes = A3 by simp]; exact h.fitD) (fun x ih4 => ?_)
          obtain ⟨⟨k3, q4, cap4⟩, hk3⟩ := x
          dsimp only at hk3 ⊢
          obtain ⟨B3, hB3⟩ : ∃ B3, B3 = A3 ++ (o.x.dead.take k3).flatMap Msg.bytes := ⟨_, rfl⟩
          have hB3l : B3.length ≤ 400000000 := by have := flatB_take (f := Msg.bytes) o.x.dead (fun r => r.bytes_length) k3; rw [hB3, List.length_append]; omega
          rw [← hB3]
          refine K.seq <| K.seq ?_
          refine K.region ?_
          refine KO.q rfl (q_move rfl) ?_
          refine KO.q rfl (q_field fo_108_5 rfl) ?_
          refine KO.q rfl (q_load1D ck_26 rfl) ?_
          refine KO.q rfl (q_len Try.underlying26 rfl) ?_
          refine KO.q rfl (q_lt rfl rfl) ?_
          refine KO.done ?_
          refine K.dcond (s := 103) rfl (fun g103 => ?_) (fun g103 => ?_)
          · obtain ⟨m, hm⟩ : ∃ e, o.x.dead[k3]? = some e := ⟨_, List.getElem?_eq_getElem (by omega)⟩
            refine K.skip <| K.seq <| K.block ?_
            refine K.region ?_
            refine KO.q rfl (q_move rfl) ?_
            refine KO.q rfl (q_field fo_108_5 rfl) ?_
            refine KO.q rfl (q_load1D ck_26 rfl) ?_
            refine KO.q rfl (q_move rfl) ?_
            first | refine KO.q rfl (q_ix _ se_26 rfl rfl rfl isF (by repeat (first | exact List.Mem.head _ | apply List.Mem.tail)) rfl (by first | assumption | omega | exact (List.getElem?_eq_some_iff.1 (by assumption)).1 | (simp; omega))) ?_ | refine KO.q rfl (q_ix _ se_26 rfl rfl rfl isO (by repeat (first | exact List.Mem.head _ | apply List.Mem.tail)) rfl (by first | assumption | omega | exact (List.getElem?_eq_some_iff.1 (by assumption)).1 | (simp; omega))) ?_
            first | refine KO.q rfl (q_ldEN ck_24 rfl isF (by repeat (first | exact List.Mem.head _ | apply List.Mem.tail)) (by first | assumption | exact List.getElem?_eq_getElem (by first | assumption | omega | (simp; omega)))) ?_ | refine KO.q rfl (q_ldEN ck_24 rfl isO (by repeat (first | exact List.Mem.head _ | apply List.Mem.tail)) (by first | assumption | exact List.getElem?_eq_getElem (by first | assumption | omega | (simp; omega)))) ?_
            refine KO.loud rfl (OpL.callD rfl (h := ref_putMsgA _ _ _ _ _ (by first | omega | (simp [wInt_length, wFlag_length, wText_length]; omega)))) ?_
            rintro _ _ ⟨_, ⟨q11, c11, rfl, rfl⟩, rfl⟩
            refine KO.done ?_
            refine K.inBlock ?_
            refine K.region ?_
            refine KO.q rfl (q_move rfl) ?_
            refine KO.q rfl (q_add rfl rfl (by first | omega | (simp; omega)) (by first | omega | (simp; omega))) ?_
            refine KO.q rfl (q_assign rfl) ?_
            refine KO.done ?_
            rw [hB3, ← flatB_succ A3 hm]
            exact K.weak (by repeat (first | exact Env.sub_nil _ | refine Env.sub_cons rfl ?_)) (fun w h => h.fitD) (ih4 ⟨(k3 + 1, q11, c11), by show k3 + 1 ≤ o.x.dead.length; omega⟩ (by show o.x.dead.length - (k3 + 1) < o.x.dead.length - k3; omega))
          · obtain rfl : k3 = o.x.dead.length := by omega
            rw [List.take_length, hA3, msgs_fold] at hB3
            refine K.exit rfl ?_
            refine K.inBlock ?_
            refine K.region ?_
            refine KO.q rfl (q_move rfl) ?_
            refine KO.q rfl (q_add rfl rfl (by first | omega | (simp; omega)) (by first | omega | (simp; omega))) ?_
            refine KO.q rfl (q_assign rfl) ?_
            refine KO.done ?_
            rw [hB3, hB2, hB, hA, preB_succ ho]
            exact K.weak (by repeat (first | exact Env.sub_nil _ | refine Env.sub_cons rfl ?_)) (fun w h => h.fitD) (ih ⟨(i + 1, q4, cap4), by show i + 1 ≤ s.l.length; omega⟩ (by show s.l.length - (i + 1) < s.l.length - i; omega))
    · obtain rfl : i = s.l.length := by omega
      rw [preB_all] at hpl ⊢
      refine K.st (fun w h => rowO_freeze (h.pick (.there .here))) ?_
      refine K.exit rfl ?_
      refine K.seq ?_
      refine K.region ?_
      refine KO.q rfl (q_move rfl) ?_
      refine KO.q rfl (q_nilCheck rfl) ?_
      refine KO.q rfl (q_field fo_52_0 rfl) ?_
      refine KO.q rfl (q_load1D ck_25 rfl) ?_
      refine KO.q rfl (q_assign rfl) ?_
      refine KO.done ?_
      refine K.ret (fn := Try.f56) Try.func56 (fun a w hk hs => res1 Try.results56 hk rfl) (fun w hs => ?_)
      first
        | exact ⟨_, [RowF Kd.u8 none []], rfl, ⟨none, 0, rfl, rfl⟩, (rowF_nil (k := Kd.u8) none hs).fitD⟩
        | exact ⟨_, [RowF Kd.u8 q' s.st.bytes], rfl, ⟨q', cap', rfl, rfl⟩, hs.fitD⟩
end Go.Proofs.Ytlellgnklohclaa.L
