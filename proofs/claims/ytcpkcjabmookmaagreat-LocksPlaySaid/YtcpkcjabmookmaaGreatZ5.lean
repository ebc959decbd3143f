/- The document's table of locks, its addresses hidden. The law LocksPlay, walked. -/
import Derived.Test.YtcpkcjabmookmaaGreatZ4
import Derived.Test.YtcpkcjabmookmaaGreatK1
import Derived.Test.YtcpkcjabmookmaaGreatAN
namespace Go.Proofs.YtcpkcjabmookmaaGreat.L
open Go Go.Proofs
attribute [local irreducible] pv fv pt fz RowF RowO rowP old pure_ elA
set_option maxRecDepth 100000
set_option linter.unusedSimpArgs false
set_option linter.unusedVariables false

def TrX (t : Nat) (T : List Ent) : HP := HP.ex (fun a : TbI T => TrE t a.1.1.1 a.1.1.2 a.1.2 ++ [AllO RkE a.1.2])
theorem trX_new {ρ : World} {L : List HP} {w : World} {b : Nat} (h : St ρ (pv b 29 [.slice none 0 0] :: L) w) : St ρ (TrX b [] :: L) w :=
  St.exI (f := fun a : TbI [] => TrE b a.1.1.1 a.1.1.2 a.1.2 ++ [AllO RkE a.1.2]) ⟨((none, 0), []), rfl⟩ ((allO_nil RkE (rowO_nil (k := Kd.e) 79 h)).fit (M := TrE b none 0 [] ++ [AllO RkE []]) (by repeat (first | exact Give.nil | (apply Give.perI; (repeat (first | exact List.Mem.head _ | apply List.Mem.tail))) | (apply Give.own; (repeat (first | exact Pick.here | apply Pick.there))))) (by repeat (first | exact Drop.refl | apply Drop.skip)))
structure RF (es : List E) (n : Int) : Prop where
  sz : ∀ e ∈ es, e.k.size ≤ 1000000
  len : es.length ≤ 1000000
  inv : ∀ e ∈ es, e.k.Inv
  sum : ((sumN es : Nat) : Int) = n
  sm : sumN es ≤ 1000000
  S : szN es ≤ 10000
theorem TI.rf {es : List E} {n : Int} {N : Nat} (h : TI (es.map E.abs) n N) (hr : RI (es.map E.abs)) (hN : N ≤ 100) : RF es n := by
  obtain ⟨h1, h2, h3⟩ := (h.tok (by omega)).es rfl
  have hinv : ∀ e ∈ es, e.k.Inv := fun e he => hr.inv e.abs (List.mem_map_of_mem he)
  have hs := sumN_abs es
  have h4 := h.sum
  have h5 := h.up
  have h6 := szN_sumW (fun e he => (hinv e he).ok)
  exact ⟨h2, h3, hinv, by omega, by omega, by omega⟩
theorem rt_AskX (t : Nat) (T : List Ent) (n : Int) (N : Nat) (who : Int) (nm : Nm) (m : Int) (h : TI T n N) (hr : RI T) (hN : N ≤ 100) (hf : nm.fits) : Fn Tryz.prog 8 [.pointer (some ⟨t, 0, none⟩), .int .i64 who, .agg nm.cells.toArray, .int .i64 m].toArray [TrX t T] (fun r post => r = .int .i64 (askT T n who nm m).1 ∧ post = [TrX t (askT T n who nm m).2.1]) :=
  (Fn.exT (f' := fun a : TbI (askT T n who nm m).2.1 => TrE t a.1.1.1 a.1.1.2 a.1.2 ++ [AllO RkE a.1.2]) (Ψ := fun r M => r = .int .i64 (askT T n who nm m).1 ∧ M = []) (tbI0 T) (fun a => by
    obtain ⟨⟨⟨q, c⟩, es⟩, he⟩ := a
    have he : es.map E.abs = T := he
    subst he
    have hx := h.rf hr hN
    have ht := tr_Ask t q c es who nm m h.srt hr hx.sz hx.len hx.sm hf
    rw [hx.sum] at ht
    exact ht.mono fun r post ⟨es', q', c', e1, e2, e3⟩ => ⟨⟨((q', c'), es'), e2⟩, [], ⟨e1, rfl⟩, e3⟩)).mono fun r post ⟨M, ⟨h1, h2⟩, h3⟩ => ⟨h1, by rw [h3, h2]; rfl⟩
theorem rt_FreeX (t : Nat) (T : List Ent) (n : Int) (N : Nat) (who : Int) (h : TI T n N) (hr : RI T) (hN : N ≤ 100) : Fn Tryz.prog 11 [.pointer (some ⟨t, 0, none⟩), .int .i64 who].toArray [TrX t T] (fun r post => ∃ po co, r = .slice po (freeT T n who).1.length co ∧ post = [RowO (Kd.int .i64) 3 po co (freeT T n who).1, TrX t (freeT T n who).2.1]) :=
  (Fn.exT (f' := fun a : TbI (freeT T n who).2.1 => TrE t a.1.1.1 a.1.1.2 a.1.2 ++ [AllO RkE a.1.2]) (Ψ := fun r M => ∃ po co, r = .slice po (freeT T n who).1.length co ∧ M = [RowO (Kd.int .i64) 3 po co (freeT T n who).1]) (tbI0 T) (fun a => by
    obtain ⟨⟨⟨q, c⟩, es⟩, he⟩ := a
    have he : es.map E.abs = T := he
    subst he
    have hx := h.rf hr hN
    exact (tr_Free t n q c es who hx.sz hx.len (by rw [(free_abs es n who).1]; exact h.outs hN who)).mono fun r post ⟨po, co, es', q', c', e1, e2, e3⟩ => ⟨⟨((q', c'), es'), e2⟩, _, ⟨po, co, e1, rfl⟩, e3⟩)).mono fun r post ⟨M, ⟨po, co, h1, h2⟩, h3⟩ => ⟨po, co, h1, by rw [h3, h2]; rfl⟩
theorem rt_WaitingX (t : Nat) (T : List Ent) (n : Int) (N : Nat) (who : Int) (h : TI T n N) (hr : RI T) (hN : N ≤ 100) : Fn Tryz.prog 13 [.pointer (some ⟨t, 0, none⟩), .int .i64 who].toArray [TrX t T] (fun r post => r = .tuple #[.agg (((waitT T who).map Ent.name).getD Nm.nil).cells.toArray, .bool (waitT T who).isSome] ∧ post = [TrX t T]) :=
  (Fn.exT (f' := fun a : TbI T => TrE t a.1.1.1 a.1.1.2 a.1.2 ++ [AllO RkE a.1.2]) (Ψ := fun r M => r = .tuple #[.agg (((waitT T who).map Ent.name).getD Nm.nil).cells.toArray, .bool (waitT T who).isSome] ∧ M = []) (tbI0 T) (fun a => by
    obtain ⟨⟨⟨q, c⟩, es⟩, he⟩ := a
    have he : es.map E.abs = T := he
    subst he
    have hx := h.rf hr hN
    have ht := tr_Waiting t q c es who hx.sz (Nat.le_trans hx.len (by decide))
    rw [find_line who hx.inv] at ht
    exact ht.mono fun r post ⟨e1, e2⟩ => ⟨⟨((q, c), es), rfl⟩, [], ⟨by rw [e1, tWait_name, tWait_some], rfl⟩, e2⟩)).mono fun r post ⟨M, ⟨h1, h2⟩, h3⟩ => ⟨h1, by rw [h3, h2]; rfl⟩
theorem rt_ModeX (t : Nat) (T : List Ent) (n : Int) (N : Nat) (who : Int) (nm : Nm) (h : TI T n N) (hr : RI T) (hN : N ≤ 100) : Fn Tryz.prog 15 [.pointer (some ⟨t, 0, none⟩), .int .i64 who, .agg nm.cells.toArray].toArray [TrX t T] (fun r post => r = .int .i64 (modeT T who nm) ∧ post = [TrX t T]) :=
  (Fn.exT (f' := fun a : TbI T => TrE t a.1.1.1 a.1.1.2 a.1.2 ++ [AllO RkE a.1.2]) (Ψ := fun r M => r = .int .i64 (modeT T who nm) ∧ M = []) (tbI0 T) (fun a => by
    obtain ⟨⟨⟨q, c⟩, es⟩, he⟩ := a
    have he : es.map E.abs = T := he
    subst he
    have hx := h.rf hr hN
    have ht := tr_Mode t q c es who nm hx.sz (Nat.le_trans hx.len (by decide))
    rw [mdN_abs h.srt hr] at ht
    exact ht.mono fun r post ⟨e1, e2⟩ => ⟨⟨((q, c), es), rfl⟩, [], ⟨e1, rfl⟩, e2⟩)).mono fun r post ⟨M, ⟨h1, h2⟩, h3⟩ => ⟨h1, by rw [h3, h2]; rfl⟩
theorem rt_CountX (t : Nat) (T : List Ent) (n : Int) (N : Nat) (h : TI T n N) (hr : RI T) (hN : N ≤ 100) : Fn Tryz.prog 17 [.pointer (some ⟨t, 0, none⟩)].toArray [TrX t T] (fun r post => r = .int .i64 n ∧ post = [TrX t T]) :=
  (Fn.exT (f' := fun a : TbI T => TrE t a.1.1.1 a.1.1.2 a.1.2 ++ [AllO RkE a.1.2]) (Ψ := fun r M => r = .int .i64 n ∧ M = []) (tbI0 T) (fun a => by
    obtain ⟨⟨⟨q, c⟩, es⟩, he⟩ := a
    have he : es.map E.abs = T := he
    subst he
    have hx := h.rf hr hN
    have ht := tr_Count t q c es hx.sz (fun e he => (hx.inv e he).ok) hx.len hx.sm
    rw [hx.sum] at ht
    exact ht.mono fun r post ⟨e1, e2⟩ => ⟨⟨((q, c), es), rfl⟩, [], ⟨e1, rfl⟩, e2⟩)).mono fun r post ⟨M, ⟨h1, h2⟩, h3⟩ => ⟨h1, by rw [h3, h2]; rfl⟩
theorem rt_EdgesX (t : Nat) (T : List Ent) (n : Int) (N : Nat) (h : TI T n N) (hr : RI T) (hN : N ≤ 100) : Fn Tryz.prog 20 [.pointer (some ⟨t, 0, none⟩)].toArray [TrX t T] (fun r post => ∃ po co, r = .slice po (edgesT T).length co ∧ post = [RowO Kd.p2 84 po co (edgesT T), TrX t T]) :=
  (Fn.exT (f' := fun a : TbI T => TrE t a.1.1.1 a.1.1.2 a.1.2 ++ [AllO RkE a.1.2]) (Ψ := fun r M => ∃ po co, r = .slice po (edgesT T).length co ∧ M = [RowO Kd.p2 84 po co (edgesT T)]) (tbI0 T) (fun a => by
    obtain ⟨⟨⟨q, c⟩, es⟩, he⟩ := a
    have he : es.map E.abs = T := he
    subst he
    have hx := h.rf hr hN
    have ht := tr_Edges t q c es hx.sz hx.len hx.S
    rw [edN_eq] at ht
    exact ht.mono fun r post ⟨po, co, e1, e2⟩ => ⟨⟨((q, c), es), rfl⟩, _, ⟨po, co, e1, rfl⟩, e2⟩)).mono fun r post ⟨M, ⟨po, co, h1, h2⟩, h3⟩ => ⟨po, co, h1, by rw [h3, h2]; rfl⟩
theorem edges_le {T : List Ent} (h : (prsT T).length ≤ 1000000000) : (edgesT T).length ≤ 1000000000000 := by
  unfold edgesT
  refine Nat.le_trans (compactL_len _) ?_
  rw [List.length_mergeSort]; omega
set_option maxHeartbeats 6400000 in
theorem law_LocksPlay (q : Option Addr) (cap : Nat) (l : List Act3) (hc : l.length ≤ cap) (hf : ∀ a ∈ l, a.fits) : Fn Tryz.prog 3 [.slice q l.length cap].toArray [RowF Kd.act3 q l] (fun r post => r = .bool true ∧ post = []) := by
  refine Fn.enter (N := 145) Tryz.func3 rfl Tryz.ntmps3 (by kernel_rfl) rfl (fun ρ L => ?_)
  refine K.seq ?_
  refine K.region ?_
  refine KO.q rfl (q_assign rfl) ?_
  refine KO.done ?_
  refine K.seq ?_
  refine K.region ?_
  refine KO.loud rfl (OpL.callD rfl (h := l13_alive)) ?_
  rintro _ _ ⟨_, ⟨rfl, rfl⟩, rfl⟩
  refine KO.q rfl (q_assign rfl) ?_
  refine KO.done ?_
  refine K.seq <| K.seq ?_
  refine K.region ?_
  refine KO.q rfl (q_move rfl) ?_
  refine KO.q rfl (q_not rfl) ?_
  refine KO.q rfl (q_move rfl) ?_
  refine KO.q rfl (q_move rfl) ?_
  refine KO.q rfl (q_len Tryz.underlying22 rfl) ?_
  refine KO.q rfl (q_gt rfl rfl) ?_
  refine KO.q rfl (q_pickF rfl rfl) ?_
  refine KO.done ?_
  refine K.dcond (s := 20) rfl (fun g20 => ?_) (fun g20 => ?_)
  · refine K.seq ?_
    refine K.region ?_
    refine KO.q rfl (q_move rfl) ?_
    refine KO.q rfl (q_assign rfl) ?_
    refine KO.done ?_
    refine K.ret (fn := Tryz.f3) Tryz.func3 (fun a w hk hs => res1 Tryz.results3 hk rfl) (fun w hs => ?_)
    exact ⟨_, [], rfl, ⟨rfl, rfl⟩, hs.fitD⟩
  · refine K.skip <| K.seq ?_
    refine K.region ?_
    refine KO.loud rfl (OpL.callG rfl (by repeat (first | exact Give.nil | (apply Give.perI; (repeat (first | exact List.Mem.head _ | apply List.Mem.tail))) | (apply Give.own; (repeat (first | exact Pick.here | apply Pick.there))))) tb_New) ?_
    rintro _ _ ⟨_, ⟨t, rfl, rfl⟩, rfl⟩
    refine KO.q rfl (q_assign rfl) ?_
    refine KO.done ?_
    refine K.seq ?_
    refine K.region ?_
    refine KO.loud rfl (OpL.callG rfl (by repeat (first | exact Give.nil | (apply Give.perI; (repeat (first | exact List.Mem.head _ | apply List.Mem.tail))) | (apply Give.own; (repeat (first | exact Pick.here | apply Pick.there))))) tb_New) ?_
    rintro _ _ ⟨_, ⟨o, rfl, rfl⟩, rfl⟩
    refine KO.q rfl (q_assign rfl) ?_
    refine KO.done ?_
    refine K.seq ?_
    refine K.region ?_
    refine KO.q rfl (q_build st_29 rfl (by repeat (first | exact Fill.nil | (apply Fill.cons; rfl; rfl; rfl) | exact SetN.nil | apply SetN.cons | exact SetAt.here | apply SetAt.there))) ?_
    refine KO.loud rfl (l_box rfl rfl) ?_
    rintro _ _ ⟨b25, rfl, rfl⟩
    refine KO.q rfl (q_assign rfl) ?_
    refine KO.done ?_
    refine K.st (fun w h => trX_new h) ?_
    refine K.seq <| K.seq ?_
    refine K.region ?_
    refine KO.q rfl (q_move rfl) ?_
    refine KO.q rfl (q_pnil Tryz.underlying24 rfl rfl) ?_
    refine KO.q rfl (q_move rfl) ?_
    refine KO.q rfl (q_move rfl) ?_
    refine KO.q rfl (q_pnil Tryz.underlying24 rfl rfl) ?_
    refine KO.q rfl (q_pickF rfl rfl) ?_
    refine KO.done ?_
    refine K.no rfl ?_
    refine K.skip <| K.seq <| K.seq ?_
    refine K.region ?_
    refine KO.q rfl (q_assign rfl) ?_
    refine KO.done ?_
    refine K.block ?_
    refine K.rounds2 (ι := { s : Nat × (List Ent × Int) × (List Ent × Int) // s.1 ≤ l.length ∧ TI s.2.1.1 s.2.1.2 s.1 ∧ RI s.2.1.1 ∧ TI s.2.2.1 s.2.2.2 s.1 }) (fun s => [(7, .int .i64 s.1.1), (0, .slice q l.length cap), (4, .pointer (some ⟨t, 0, none⟩)), (5, .pointer (some ⟨o, 0, none⟩)), (6, .pointer (some ⟨b25, 0, none⟩))]) (fun s => [TbX t s.1.2.1.2 s.1.2.1.1, TbX o s.1.2.2.2 s.1.2.2.1, TrX b25 s.1.2.1.1, RowF Kd.act3 q l] ++ L) (fun s => l.length - s.1.1) ⟨(0, ([], 0), ([], 0)), Nat.zero_le _, TI.nil, RI.nil, TI.nil⟩ (by repeat (first | exact Env.sub_nil _ | refine Env.sub_cons rfl ?_)) (fun w h => h.fitD) (fun s ih => ?_)
    obtain ⟨⟨i, ⟨T, n⟩, ⟨To, no⟩⟩, hi, ht, hri, hto⟩ := s
    dsimp only at hi ht hri hto ⊢
    refine K.seq <| K.seq ?_
    refine K.region ?_
    refine KO.q rfl (q_move rfl) ?_
    refine KO.q rfl (q_move rfl) ?_
    refine KO.q rfl (q_len Tryz.underlying22 rfl) ?_
    refine KO.q rfl (q_lt rfl rfl) ?_
    refine KO.done ?_
    refine K.dcond (s := 35) rfl (fun g35 => ?_) (fun g35 => ?_)
    · obtain ⟨a, ha⟩ : ∃ a, l[i]? = some a := ⟨_, List.getElem?_eq_getElem (by omega)⟩
      have hfa : a.name.fits := (hf a (List.mem_of_getElem? ha)).2.2.2
      have hN : i ≤ 100 := by omega
      have hN1 : i + 1 ≤ 100 := by omega
      have htok := ht.tok (by omega)
      have htoko := hto.tok (by omega)
      have hto2 := (hto.ask i a.name 5).1
      obtain ⟨so, hso⟩ : ∃ so, so = (askT To no i a.name 5).2 := ⟨_, rfl⟩
      rw [← hso] at hto2
      refine K.skip <| K.seq <| K.block <| K.seq ?_
      refine K.region ?_
      refine KO.q rfl (q_move rfl) ?_
      refine KO.q rfl (q_move rfl) ?_
      first | refine KO.q rfl (q_ix _ se_22 rfl rfl rfl isF (by repeat (first | exact List.Mem.head _ | apply List.Mem.tail)) rfl (by first | assumption | omega | exact (List.getElem?_eq_some_iff.1 (by assumption)).1 | (simp; omega))) ?_ | refine KO.q rfl (q_ix _ se_22 rfl rfl rfl isO (by repeat (first | exact List.Mem.head _ | apply List.Mem.tail)) rfl (by first | assumption | omega | exact (List.getElem?_eq_some_iff.1 (by assumption)).1 | (simp; omega))) ?_
      refine KO.q rfl (q_ldEN (xs := l) (enc := Act3.cells) ck_33 rfl isF (by repeat (first | exact List.Mem.head _ | apply List.Mem.tail)) ha) ?_
      refine KO.loud rfl (l_alloc zo_33) ?_
      rintro _ _ ⟨b8, rfl, rfl⟩
      refine KO.loudN rfl (l_storeAll ck_33 rfl rfl ⟨rfl, rfl⟩ (act3_one _) (by repeat (first | exact Pick.here | apply Pick.there))) ?_
      rintro _ _ ⟨rfl, rfl⟩
      refine KO.done ?_
      refine K.seq <| K.seq ?_
      refine K.region ?_
      refine KO.q rfl (q_field fo_33_3 rfl) ?_
      refine KO.q rfl (q_field fo_31_1 rfl) ?_
      refine KO.q rfl (q_load1D ck_9 rfl) ?_
      refine KO.q rfl (q_lenS Tryz.underlying9 rfl) ?_
      refine KO.q rfl (q_gt rfl rfl) ?_
      refine KO.q rfl (q_move rfl) ?_
      refine KO.dsplit 47 rfl (fun g47 => ?_) (fun g47 => ?_)
      · refine KO.skip rfl ?_
        refine KO.skip rfl ?_
        refine KO.skip rfl ?_
        refine KO.skip rfl ?_
        refine KO.skip rfl ?_
        refine KO.q rfl (q_pickT rfl rfl) ?_
        refine KO.done ?_
        refine K.yes rfl ?_
        refine K.seq ?_
        refine K.region ?_
        refine KO.q rfl (q_assign rfl) ?_
        refine KO.done ?_
        refine K.ret (fn := Tryz.f3) Tryz.func3 (fun a w hk hs => res1 Tryz.results3 hk rfl) (fun w hs => ?_)
        exact ⟨_, [], rfl, ⟨rfl, rfl⟩, hs.fitD⟩
      · refine KO.q rfl (q_field fo_33_3 rfl) ?_
        refine KO.q rfl (q_field fo_31_2 rfl) ?_
        refine KO.q rfl (q_load1D ck_9 rfl) ?_
        refine KO.q rfl (q_lenS Tryz.underlying9 rfl) ?_
        refine KO.q rfl (q_gt rfl rfl) ?_
        refine KO.q rfl (q_pickF rfl rfl) ?_
        refine KO.done ?_
        refine K.dcond (s := 53) rfl (fun g53 => ?_) (fun g53 => ?_)
        · refine K.seq ?_
          refine K.region ?_
          refine KO.q rfl (q_assign rfl) ?_
          refine KO.done ?_
          refine K.ret (fn := Tryz.f3) Tryz.func3 (fun a w hk hs => res1 Tryz.results3 hk rfl) (fun w hs => ?_)
          exact ⟨_, [], rfl, ⟨rfl, rfl⟩, hs.fitD⟩
        · refine K.skip <| K.seq ?_
          refine K.region ?_
          refine KO.q rfl (q_move rfl) ?_
          refine KO.q rfl (q_move rfl) ?_
          refine KO.q rfl (q_field fo_33_3 rfl) ?_
          refine KO.q rfl (q_ldPS sub_act3_name nm_sz ck_31 rfl (by repeat (first | exact List.Mem.head _ | apply List.Mem.tail))) ?_
          refine KO.loud rfl (OpL.callD rfl (h := tb_AskX o no To i a.name 5 htoko)) ?_
          rintro _ _ ⟨_, ⟨rfl, rfl⟩, rfl⟩
          rw [← hso]
          refine KO.done ?_
          refine K.seq <| K.seq ?_
          refine K.region ?_
          refine KO.q rfl (q_field fo_33_0 rfl) ?_
          refine KO.q rfl (q_load1D ck_3 rfl) ?_
          refine KO.done ?_
          refine K.block <| K.seq ?_
          refine K.region ?_
          refine KO.q rfl (q_eq rfl rfl) ?_
          refine KO.q rfl (q_assign rfl) ?_
          refine KO.done ?_
          refine K.dcond (s := 61) rfl (fun g61 => ?_) (fun g61 => ?_)
          · obtain ⟨s', hs'⟩ : ∃ s', s' = (askT T n a.who a.name a.mode).2 := ⟨_, rfl⟩
            have ht2 := (ht.ask a.who a.name a.mode).1
            have hri2 := hri.ask n a.who a.mode hfa
            rw [← hs'] at ht2 hri2
            have htok2 := ht2.tok (by omega)
            have hprs2 := ht2.prs hN1
            have hedl := edges_le hprs2
            refine K.seq ?_
            refine K.drawU (by repeat (first | apply SubL.pers | apply SubL.own (b := b8) | apply SubL.drop | exact SubL.none)) mixed ?_
            refine D.q 0 rfl (by kernel_rfl) (by kernel_rfl) (q_move rfl) (fun _ h => h.subD) ?_
            refine D.q 1 rfl (by kernel_rfl) (by kernel_rfl) (q_field fo_33_1 rfl) (fun _ h => h.subD) ?_
            refine D.q 2 rfl (by kernel_rfl) (by kernel_rfl) (q_load1D ck_3 rfl) (fun _ h => h.subD) ?_
            refine D.q 3 rfl (by kernel_rfl) (by kernel_rfl) (q_field fo_33_3 rfl) (fun _ h => h.subD) ?_
            refine D.q 4 rfl (by kernel_rfl) (by kernel_rfl) (q_ldPS sub_act3_name nm_sz ck_31 rfl (by repeat (first | exact List.Mem.head _ | apply List.Mem.tail))) (fun _ h => h.subD) ?_
            refine D.q 5 rfl (by kernel_rfl) (by kernel_rfl) (q_field fo_33_2 rfl) (fun _ h => h.subD) ?_
            refine D.q 6 rfl (by kernel_rfl) (by kernel_rfl) (q_load1D ck_3 rfl) (fun _ h => h.subD) ?_
            refine D.q 9 rfl (by kernel_rfl) (by kernel_rfl) (q_move rfl) (fun _ h => h.subD) ?_
            refine D.q 10 rfl (by kernel_rfl) (by kernel_rfl) (q_field fo_33_1 rfl) (fun _ h => h.subD) ?_
            refine D.q 11 rfl (by kernel_rfl) (by kernel_rfl) (q_load1D ck_3 rfl) (fun _ h => h.subD) ?_
            refine D.q 12 rfl (by kernel_rfl) (by kernel_rfl) (q_field fo_33_3 rfl) (fun _ h => h.subD) ?_
            refine D.q 13 rfl (by kernel_rfl) (by kernel_rfl) (q_ldPS sub_act3_name nm_sz ck_31 rfl (by repeat (first | exact List.Mem.head _ | apply List.Mem.tail))) (fun _ h => h.subD) ?_
            refine D.q 14 rfl (by kernel_rfl) (by kernel_rfl) (q_field fo_33_2 rfl) (fun _ h => h.subD) ?_
            refine D.q 15 rfl (by kernel_rfl) (by kernel_rfl) (q_load1D ck_3 rfl) (fun _ h => h.subD) ?_
            refine D.all (rs := [7]) (by kernel_rfl) rfl (DAll.cons rfl (by kernel_rfl) (OpL.callD rfl (h := tb_AskX t n T a.who a.name a.mode htok)) (.inr (by rintro _ _ ⟨_, ⟨rfl, rfl⟩, rfl⟩ w h; exact h.subD)) rfl ?_ DAll.nil)
            rintro _ _ ⟨_, ⟨rfl, rfl⟩, rfl⟩
            rw [← hs']
            refine D.all (rs := [8]) (by kernel_rfl) rfl (DAll.cons rfl (by kernel_rfl) (OpL.callD rfl (h := l13_num _)) (.inr (by rintro _ _ ⟨_, ⟨rfl, rfl⟩, rfl⟩ w h; exact h.subD)) rfl ?_ DAll.nil)
            rintro _ _ ⟨_, ⟨rfl, rfl⟩, rfl⟩
            refine D.all (rs := [16]) (by kernel_rfl) rfl (DAll.cons rfl (by kernel_rfl) (OpL.callD rfl (h := rt_AskX b25 T n i a.who a.name a.mode ht hri hN hfa)) (.inr (by rintro _ _ ⟨_, ⟨rfl, rfl⟩, rfl⟩ w h; exact h.subD)) rfl ?_ DAll.nil)
            rintro _ _ ⟨_, ⟨rfl, rfl⟩, rfl⟩
            rw [← hs']
            refine D.q 17 rfl (by kernel_rfl) (by kernel_rfl) (q_neF rfl rfl (rfl)) (fun _ h => h.subD) ?_
            refine D.done (by kernel_rfl) ?_
            refine K.no rfl ?_
            refine K.skip <| K.inBlock <| K.seq ?_
            refine K.region ?_
            refine KO.q rfl (q_move rfl) ?_
            refine KO.q rfl (q_field fo_33_1 rfl) ?_
            refine KO.q rfl (q_load1D ck_3 rfl) ?_
            refine KO.loud rfl (OpL.callD rfl (h := tb_WaitingX t s'.2 s'.1 a.who htok2)) ?_
            rintro _ _ ⟨_, ⟨rfl, rfl⟩, rfl⟩
            refine KO.q rfl (q_move rfl) ?_
            refine KO.q rfl (q_extract rfl rfl) ?_
            refine KO.q rfl (q_extract rfl rfl) ?_
            refine KO.loud rfl (l_alloc zo_31) ?_
            rintro _ _ ⟨b9, rfl, rfl⟩
            refine KO.loudN rfl (l_storeAll ck_31 rfl rfl ⟨rfl, rfl⟩ (nm_one _) (by repeat (first | exact Pick.here | apply Pick.there))) ?_
            rintro _ _ ⟨rfl, rfl⟩
            refine KO.q rfl (q_assign rfl) ?_
            refine KO.done ?_
            refine K.seq ?_
            refine K.region ?_
            refine KO.q rfl (q_move rfl) ?_
            refine KO.q rfl (q_field fo_33_1 rfl) ?_
            refine KO.q rfl (q_load1D ck_3 rfl) ?_
            refine KO.loud rfl (OpL.callD rfl (h := rt_WaitingX b25 s'.1 s'.2 (i + 1) a.who ht2 hri2 hN1)) ?_
            rintro _ _ ⟨_, ⟨rfl, rfl⟩, rfl⟩
            refine KO.q rfl (q_move rfl) ?_
            refine KO.q rfl (q_extract rfl rfl) ?_
            refine KO.q rfl (q_extract rfl rfl) ?_
            refine KO.loud rfl (l_alloc zo_31) ?_
            rintro _ _ ⟨b11, rfl, rfl⟩
            refine KO.loudN rfl (l_storeAll ck_31 rfl rfl ⟨rfl, rfl⟩ (nm_one _) (by repeat (first | exact Pick.here | apply Pick.there))) ?_
            rintro _ _ ⟨rfl, rfl⟩
            refine KO.q rfl (q_assign rfl) ?_
            refine KO.done ?_
            refine K.seq ?_
            refine K.drawU (by repeat (first | apply SubL.pers | apply SubL.own (b := b9) | apply SubL.own (b := b11) | apply SubL.own (b := b8) | apply SubL.drop | exact SubL.none)) mixed ?_
            refine D.q 0 rfl (by kernel_rfl) (by kernel_rfl) (q_loadN ck_31 rfl rfl (by first | (apply cells_pv; (repeat (first | exact List.Mem.head _ | apply List.Mem.tail))) | (apply cells_fv; (repeat (first | exact List.Mem.head _ | apply List.Mem.tail))))) (fun _ h => h.subD) ?_
            refine D.q 1 rfl (by kernel_rfl) (by kernel_rfl) (q_loadN ck_31 rfl rfl (by first | (apply cells_pv; (repeat (first | exact List.Mem.head _ | apply List.Mem.tail))) | (apply cells_fv; (repeat (first | exact List.Mem.head _ | apply List.Mem.tail))))) (fun _ h => h.subD) ?_
            refine D.q 2 rfl (by kernel_rfl) (by kernel_rfl) (q_recNG Tryz.underlying31 nm_hp nm_hg rfl rfl (nm_eqD _ _ Tryz.underlying31)) (fun _ h => h.subD) ?_
            refine D.q 3 rfl (by kernel_rfl) (by kernel_rfl) (q_move rfl) (fun _ h => h.subD) ?_
            refine D.dsplit 110 rfl (fun g110 => ?_) (fun g110 => ?_)
            · exact absurd rfl g110
            · refine D.q 4 rfl (by kernel_rfl) (by kernel_rfl) (q_move rfl) (fun _ h => h.subD) ?_
              refine D.q 5 rfl (by kernel_rfl) (by kernel_rfl) (q_move rfl) (fun _ h => h.subD) ?_
              refine D.q 6 rfl (by kernel_rfl) (by kernel_rfl) (q_bneF Tryz.underlying4 rfl rfl (rfl)) (fun _ h => h.subD) ?_
              refine D.q 7 rfl (by kernel_rfl) (by kernel_rfl) (q_pickF rfl rfl) (fun _ h => h.subD) ?_
              refine D.q 8 rfl (by kernel_rfl) (by kernel_rfl) (q_move rfl) (fun _ h => h.subD) ?_
              refine D.q 9 rfl (by kernel_rfl) (by kernel_rfl) (q_move rfl) (fun _ h => h.subD) ?_
              refine D.q 10 rfl (by kernel_rfl) (by kernel_rfl) (q_field fo_33_1 rfl) (fun _ h => h.subD) ?_
              refine D.q 11 rfl (by kernel_rfl) (by kernel_rfl) (q_load1D ck_3 rfl) (fun _ h => h.subD) ?_
              refine D.q 12 rfl (by kernel_rfl) (by kernel_rfl) (q_field fo_33_3 rfl) (fun _ h => h.subD) ?_
              refine D.q 13 rfl (by kernel_rfl) (by kernel_rfl) (q_ldPS sub_act3_name nm_sz ck_31 rfl (by repeat (first | exact List.Mem.head _ | apply List.Mem.tail))) (fun _ h => h.subD) ?_
              refine D.q 15 rfl (by kernel_rfl) (by kernel_rfl) (q_move rfl) (fun _ h => h.subD) ?_
              refine D.q 16 rfl (by kernel_rfl) (by kernel_rfl) (q_field fo_33_1 rfl) (fun _ h => h.subD) ?_
              refine D.q 17 rfl (by kernel_rfl) (by kernel_rfl) (q_load1D ck_3 rfl) (fun _ h => h.subD) ?_
              refine D.q 18 rfl (by kernel_rfl) (by kernel_rfl) (q_field fo_33_3 rfl) (fun _ h => h.subD) ?_
              refine D.q 19 rfl (by kernel_rfl) (by kernel_rfl) (q_ldPS sub_act3_name nm_sz ck_31 rfl (by repeat (first | exact List.Mem.head _ | apply List.Mem.tail))) (fun _ h => h.subD) ?_
              refine D.all (rs := [14]) (by kernel_rfl) rfl (DAll.cons rfl (by kernel_rfl) (OpL.callD rfl (h := tb_ModeX t s'.2 s'.1 a.who a.name htok2)) (.inr (by rintro _ _ ⟨_, ⟨rfl, rfl⟩, rfl⟩ w h; exact h.subD)) rfl ?_ DAll.nil)
              rintro _ _ ⟨_, ⟨rfl, rfl⟩, rfl⟩
              refine D.all (rs := [20]) (by kernel_rfl) rfl (DAll.cons rfl (by kernel_rfl) (OpL.callD rfl (h := rt_ModeX b25 s'.1 s'.2 (i + 1) a.who a.name ht2 hri2 hN1)) (.inr (by rintro _ _ ⟨_, ⟨rfl, rfl⟩, rfl⟩ w h; exact h.subD)) rfl ?_ DAll.nil)
              rintro _ _ ⟨_, ⟨rfl, rfl⟩, rfl⟩
              refine D.q 21 rfl (by kernel_rfl) (by kernel_rfl) (q_neF rfl rfl (rfl)) (fun _ h => h.subD) ?_
              refine D.q 22 rfl (by kernel_rfl) (by kernel_rfl) (q_pickF rfl rfl) (fun _ h => h.subD) ?_
              refine D.q 23 rfl (by kernel_rfl) (by kernel_rfl) (q_move rfl) (fun _ h => h.subD) ?_
              refine D.q 24 rfl (by kernel_rfl) (by kernel_rfl) (q_move rfl) (fun _ h => h.subD) ?_
              refine D.q 26 rfl (by kernel_rfl) (by kernel_rfl) (q_move rfl) (fun _ h => h.subD) ?_
              refine D.all (rs := [25]) (by kernel_rfl) rfl (DAll.cons rfl (by kernel_rfl) (OpL.callD rfl (h := tb_CountX t s'.2 s'.1)) (.inr (by rintro _ _ ⟨_, ⟨rfl, rfl⟩, rfl⟩ w h; exact h.subD)) rfl ?_ DAll.nil)
              rintro _ _ ⟨_, ⟨rfl, rfl⟩, rfl⟩
              refine D.all (rs := [27]) (by kernel_rfl) rfl (DAll.cons rfl (by kernel_rfl) (OpL.callD rfl (h := rt_CountX b25 s'.1 s'.2 (i + 1) ht2 hri2 hN1)) (.inr (by rintro _ _ ⟨_, ⟨rfl, rfl⟩, rfl⟩ w h; exact h.subD)) rfl ?_ DAll.nil)
              rintro _ _ ⟨_, ⟨rfl, rfl⟩, rfl⟩
              refine D.q 28 rfl (by kernel_rfl) (by kernel_rfl) (q_neF rfl rfl (rfl)) (fun _ h => h.subD) ?_
              refine D.q 29 rfl (by kernel_rfl) (by kernel_rfl) (q_pickF rfl rfl) (fun _ h => h.subD) ?_
              refine D.q 30 rfl (by kernel_rfl) (by kernel_rfl) (q_move rfl) (fun _ h => h.subD) ?_
              refine D.q 31 rfl (by kernel_rfl) (by kernel_rfl) (q_move rfl) (fun _ h => h.subD) ?_
              refine D.q 33 rfl (by kernel_rfl) (by kernel_rfl) (q_move rfl) (fun _ h => h.subD) ?_
              refine D.all (rs := [32]) (by kernel_rfl) rfl (DAll.cons rfl (by kernel_rfl) (OpL.callD rfl (h := tb_EdgesX t s'.2 s'.1 htok2 hprs2)) (.inr (by rintro _ _ ⟨_, ⟨p3, d3, rfl, rfl⟩, rfl⟩ w h; exact h.subD)) rfl ?_ DAll.nil)
              rintro _ _ ⟨_, ⟨p3, d3, rfl, rfl⟩, rfl⟩
              refine D.all (rs := [34]) (by kernel_rfl) rfl (DAll.cons rfl (by kernel_rfl) (OpL.callD rfl (h := rt_EdgesX b25 s'.1 s'.2 (i + 1) ht2 hri2 hN1)) (.inr (by rintro _ _ ⟨_, ⟨p4, d4, rfl, rfl⟩, rfl⟩ w h; exact h.subD)) rfl ?_ DAll.nil)
              rintro _ _ ⟨_, ⟨p4, d4, rfl, rfl⟩, rfl⟩
              refine D.all (rs := [35]) (by kernel_rfl) rfl (DAll.cons rfl (by kernel_rfl) (OpL.callD rfl (h := rf_SameEdges (RowO Kd.p2 84 p3 d3 _) (RowO Kd.p2 84 p4 d4 _) p3 p4 d3 d4 (edgesT s'.1) (edgesT s'.1) isO isO hedl hedl)) (.inr (by rintro _ _ ⟨_, ⟨rfl, rfl⟩, rfl⟩ w h; exact h.subD)) rfl ?_ DAll.nil)
              rintro _ _ ⟨_, ⟨rfl, rfl⟩, rfl⟩
              rw [decide_eq_true rfl]
              refine D.q 36 rfl (by kernel_rfl) (by kernel_rfl) (q_not rfl) (fun _ h => h.subD) ?_
              refine D.q 37 rfl (by kernel_rfl) (by kernel_rfl) (q_pickF rfl rfl) (fun _ h => h.subD) ?_
              refine D.done (by kernel_rfl) ?_
              refine K.no rfl ?_
              refine K.skip <| K.inBlock ?_
              refine K.region ?_
              refine KO.q rfl (q_move rfl) ?_
              refine KO.q rfl (q_add rfl rfl (by first | omega | (simp; omega)) (by first | omega | (simp; omega))) ?_
              refine KO.q rfl (q_assign rfl) ?_
              refine KO.done ?_
              exact K.weak (by repeat (first | exact Env.sub_nil _ | refine Env.sub_cons rfl ?_)) (fun w h => h.fitD) (ih ⟨(i + 1, s', so), by show i + 1 ≤ _; omega, ht2, hri2, hto2⟩ (by show l.length - (i + 1) < l.length - i; omega))
          · refine K.seq ?_
            refine K.region ?_
            refine KO.q rfl (q_eq rfl rfl) ?_
            refine KO.q rfl (q_assign rfl) ?_
            refine KO.done ?_
            refine K.dcond (s := 81) rfl (fun g81 => ?_) (fun g81 => ?_)
            · obtain ⟨s', hs'⟩ : ∃ s', s' = (freeT T n a.who).2 := ⟨_, rfl⟩
              have ht2 := ((ht.free a.who).1).more (Nat.le_succ i)
              have hri2 := hri.free n a.who
              have houts := ht.outs hN a.who
              have hfl : (freeT T n a.who).1.length ≤ 1000000000000 := by show (T.flatMap (outT a.who)).length ≤ _; omega
              rw [← hs'] at ht2 hri2
              have htok2 := ht2.tok (by omega)
              have hprs2 := ht2.prs hN1
              have hedl := edges_le hprs2
              refine K.seq ?_
              refine K.drawU (by repeat (first | apply SubL.pers | apply SubL.own (b := b8) | apply SubL.drop | exact SubL.none)) mixed ?_
              refine D.q 0 rfl (by kernel_rfl) (by kernel_rfl) (q_move rfl) (fun _ h => h.subD) ?_
              refine D.q 1 rfl (by kernel_rfl) (by kernel_rfl) (q_field fo_33_1 rfl) (fun _ h => h.subD) ?_
              refine D.q 2 rfl (by kernel_rfl) (by kernel_rfl) (q_load1D ck_3 rfl) (fun _ h => h.subD) ?_
              refine D.q 4 rfl (by kernel_rfl) (by kernel_rfl) (q_move rfl) (fun _ h => h.subD) ?_
              refine D.q 5 rfl (by kernel_rfl) (by kernel_rfl) (q_field fo_33_1 rfl) (fun _ h => h.subD) ?_
              refine D.q 6 rfl (by kernel_rfl) (by kernel_rfl) (q_load1D ck_3 rfl) (fun _ h => h.subD) ?_
              refine D.all (rs := [3]) (by kernel_rfl) rfl (DAll.cons rfl (by kernel_rfl) (OpL.callD rfl (h := tb_FreeX t n T a.who htok houts)) (.inr (by rintro _ _ ⟨_, ⟨p1, d1, rfl, rfl⟩, rfl⟩ w h; exact h.subD)) rfl ?_ DAll.nil)
              rintro _ _ ⟨_, ⟨p1, d1, rfl, rfl⟩, rfl⟩
              rw [← hs']
              refine D.all (rs := [7]) (by kernel_rfl) rfl (DAll.cons rfl (by kernel_rfl) (OpL.callD rfl (h := rt_FreeX b25 T n i a.who ht hri hN)) (.inr (by rintro _ _ ⟨_, ⟨p2, d2, rfl, rfl⟩, rfl⟩ w h; exact h.subD)) rfl ?_ DAll.nil)
              rintro _ _ ⟨_, ⟨p2, d2, rfl, rfl⟩, rfl⟩
              rw [← hs']
              refine D.all (rs := [8]) (by kernel_rfl) rfl (DAll.cons rfl (by kernel_rfl) (OpL.callD rfl (h := rf_SameInts (RowO (Kd.int .i64) 3 p1 d1 _) (RowO (Kd.int .i64) 3 p2 d2 _) p1 p2 d1 d2 (freeT T n a.who).1 (freeT T n a.who).1 isO isO hfl hfl)) (.inr (by rintro _ _ ⟨_, ⟨rfl, rfl⟩, rfl⟩ w h; exact h.subD)) rfl ?_ DAll.nil)
              rintro _ _ ⟨_, ⟨rfl, rfl⟩, rfl⟩
              rw [decide_eq_true rfl]
              refine D.q 9 rfl (by kernel_rfl) (by kernel_rfl) (q_not rfl) (fun _ h => h.subD) ?_
              refine D.done (by kernel_rfl) ?_
              refine K.no rfl ?_
              refine K.skip <| K.inBlock <| K.seq ?_
              refine K.region ?_
              refine KO.q rfl (q_move rfl) ?_
              refine KO.q rfl (q_field fo_33_1 rfl) ?_
              refine KO.q rfl (q_load1D ck_3 rfl) ?_
              refine KO.loud rfl (OpL.callD rfl (h := tb_WaitingX t s'.2 s'.1 a.who htok2)) ?_
              rintro _ _ ⟨_, ⟨rfl, rfl⟩, rfl⟩
              refine KO.q rfl (q_move rfl) ?_
              refine KO.q rfl (q_extract rfl rfl) ?_
              refine KO.q rfl (q_extract rfl rfl) ?_
              refine KO.loud rfl (l_alloc zo_31) ?_
              rintro _ _ ⟨b9, rfl, rfl⟩
              refine KO.loudN rfl (l_storeAll ck_31 rfl rfl ⟨rfl, rfl⟩ (nm_one _) (by repeat (first | exact Pick.here | apply Pick.there))) ?_
              rintro _ _ ⟨rfl, rfl⟩
              refine KO.q rfl (q_assign rfl) ?_
              refine KO.done ?_
              refine K.seq ?_
              refine K.region ?_
              refine KO.q rfl (q_move rfl) ?_
              refine KO.q rfl (q_field fo_33_1 rfl) ?_
              refine KO.q rfl (q_load1D ck_3 rfl) ?_
              refine KO.loud rfl (OpL.callD rfl (h := rt_WaitingX b25 s'.1 s'.2 (i + 1) a.who ht2 hri2 hN1)) ?_
              rintro _ _ ⟨_, ⟨rfl, rfl⟩, rfl⟩
              refine KO.q rfl (q_move rfl) ?_
              refine KO.q rfl (q_extract rfl rfl) ?_
              refine KO.q rfl (q_extract rfl rfl) ?_
              refine KO.loud rfl (l_alloc zo_31) ?_
              rintro _ _ ⟨b11, rfl, rfl⟩
              refine KO.loudN rfl (l_storeAll ck_31 rfl rfl ⟨rfl, rfl⟩ (nm_one _) (by repeat (first | exact Pick.here | apply Pick.there))) ?_
              rintro _ _ ⟨rfl, rfl⟩
              refine KO.q rfl (q_assign rfl) ?_
              refine KO.done ?_
              refine K.seq ?_
              refine K.drawU (by repeat (first | apply SubL.pers | apply SubL.own (b := b9) | apply SubL.own (b := b11) | apply SubL.own (b := b8) | apply SubL.drop | exact SubL.none)) mixed ?_
              refine D.q 0 rfl (by kernel_rfl) (by kernel_rfl) (q_loadN ck_31 rfl rfl (by first | (apply cells_pv; (repeat (first | exact List.Mem.head _ | apply List.Mem.tail))) | (apply cells_fv; (repeat (first | exact List.Mem.head _ | apply List.Mem.tail))))) (fun _ h => h.subD) ?_
              refine D.q 1 rfl (by kernel_rfl) (by kernel_rfl) (q_loadN ck_31 rfl rfl (by first | (apply cells_pv; (repeat (first | exact List.Mem.head _ | apply List.Mem.tail))) | (apply cells_fv; (repeat (first | exact List.Mem.head _ | apply List.Mem.tail))))) (fun _ h => h.subD) ?_
              refine D.q 2 rfl (by kernel_rfl) (by kernel_rfl) (q_recNG Tryz.underlying31 nm_hp nm_hg rfl rfl (nm_eqD _ _ Tryz.underlying31)) (fun _ h => h.subD) ?_
              refine D.q 3 rfl (by kernel_rfl) (by kernel_rfl) (q_move rfl) (fun _ h => h.subD) ?_
              refine D.dsplit 110 rfl (fun g110 => ?_) (fun g110 => ?_)
              · exact absurd rfl g110
              · refine D.q 4 rfl (by kernel_rfl) (by kernel_rfl) (q_move rfl) (fun _ h => h.subD) ?_
                refine D.q 5 rfl (by kernel_rfl) (by kernel_rfl) (q_move rfl) (fun _ h => h.subD) ?_
                refine D.q 6 rfl (by kernel_rfl) (by kernel_rfl) (q_bneF Tryz.underlying4 rfl rfl (rfl)) (fun _ h => h.subD) ?_
                refine D.q 7 rfl (by kernel_rfl) (by kernel_rfl) (q_pickF rfl rfl) (fun _ h => h.subD) ?_
                refine D.q 8 rfl (by kernel_rfl) (by kernel_rfl) (q_move rfl) (fun _ h => h.subD) ?_
                refine D.q 9 rfl (by kernel_rfl) (by kernel_rfl) (q_move rfl) (fun _ h => h.subD) ?_
                refine D.q 10 rfl (by kernel_rfl) (by kernel_rfl) (q_field fo_33_1 rfl) (fun _ h => h.subD) ?_
                refine D.q 11 rfl (by kernel_rfl) (by kernel_rfl) (q_load1D ck_3 rfl) (fun _ h => h.subD) ?_
                refine D.q 12 rfl (by kernel_rfl) (by kernel_rfl) (q_field fo_33_3 rfl) (fun _ h => h.subD) ?_
                refine D.q 13 rfl (by kernel_rfl) (by kernel_rfl) (q_ldPS sub_act3_name nm_sz ck_31 rfl (by repeat (first | exact List.Mem.head _ | apply List.Mem.tail))) (fun _ h => h.subD) ?_
                refine D.q 15 rfl (by kernel_rfl) (by kernel_rfl) (q_move rfl) (fun _ h => h.subD) ?_
                refine D.q 16 rfl (by kernel_rfl) (by kernel_rfl) (q_field fo_33_1 rfl) (fun _ h => h.subD) ?_
                refine D.q 17 rfl (by kernel_rfl) (by kernel_rfl) (q_load1D ck_3 rfl) (fun _ h => h.subD) ?_
                refine D.q 18 rfl (by kernel_rfl) (by kernel_rfl) (q_field fo_33_3 rfl) (fun _ h => h.subD) ?_
                refine D.q 19 rfl (by kernel_rfl) (by kernel_rfl) (q_ldPS sub_act3_name nm_sz ck_31 rfl (by repeat (first | exact List.Mem.head _ | apply List.Mem.tail))) (fun _ h => h.subD) ?_
                refine D.all (rs := [14]) (by kernel_rfl) rfl (DAll.cons rfl (by kernel_rfl) (OpL.callD rfl (h := tb_ModeX t s'.2 s'.1 a.who a.name htok2)) (.inr (by rintro _ _ ⟨_, ⟨rfl, rfl⟩, rfl⟩ w h; exact h.subD)) rfl ?_ DAll.nil)
                rintro _ _ ⟨_, ⟨rfl, rfl⟩, rfl⟩
                refine D.all (rs := [20]) (by kernel_rfl) rfl (DAll.cons rfl (by kernel_rfl) (OpL.callD rfl (h := rt_ModeX b25 s'.1 s'.2 (i + 1) a.who a.name ht2 hri2 hN1)) (.inr (by rintro _ _ ⟨_, ⟨rfl, rfl⟩, rfl⟩ w h; exact h.subD)) rfl ?_ DAll.nil)
                rintro _ _ ⟨_, ⟨rfl, rfl⟩, rfl⟩
                refine D.q 21 rfl (by kernel_rfl) (by kernel_rfl) (q_neF rfl rfl (rfl)) (fun _ h => h.subD) ?_
                refine D.q 22 rfl (by kernel_rfl) (by kernel_rfl) (q_pickF rfl rfl) (fun _ h => h.subD) ?_
                refine D.q 23 rfl (by kernel_rfl) (by kernel_rfl) (q_move rfl) (fun _ h => h.subD) ?_
                refine D.q 24 rfl (by kernel_rfl) (by kernel_rfl) (q_move rfl) (fun _ h => h.subD) ?_
                refine D.q 26 rfl (by kernel_rfl) (by kernel_rfl) (q_move rfl) (fun _ h => h.subD) ?_
                refine D.all (rs := [25]) (by kernel_rfl) rfl (DAll.cons rfl (by kernel_rfl) (OpL.callD rfl (h := tb_CountX t s'.2 s'.1)) (.inr (by rintro _ _ ⟨_, ⟨rfl, rfl⟩, rfl⟩ w h; exact h.subD)) rfl ?_ DAll.nil)
                rintro _ _ ⟨_, ⟨rfl, rfl⟩, rfl⟩
                refine D.all (rs := [27]) (by kernel_rfl) rfl (DAll.cons rfl (by kernel_rfl) (OpL.callD rfl (h := rt_CountX b25 s'.1 s'.2 (i + 1) ht2 hri2 hN1)) (.inr (by rintro _ _ ⟨_, ⟨rfl, rfl⟩, rfl⟩ w h; exact h.subD)) rfl ?_ DAll.nil)
                rintro _ _ ⟨_, ⟨rfl, rfl⟩, rfl⟩
                refine D.q 28 rfl (by kernel_rfl) (by kernel_rfl) (q_neF rfl rfl (rfl)) (fun _ h => h.subD) ?_
                refine D.q 29 rfl (by kernel_rfl) (by kernel_rfl) (q_pickF rfl rfl) (fun _ h => h.subD) ?_
                refine D.q 30 rfl (by kernel_rfl) (by kernel_rfl) (q_move rfl) (fun _ h => h.subD) ?_
                refine D.q 31 rfl (by kernel_rfl) (by kernel_rfl) (q_move rfl) (fun _ h => h.subD) ?_
                refine D.q 33 rfl (by kernel_rfl) (by kernel_rfl) (q_move rfl) (fun _ h => h.subD) ?_
                refine D.all (rs := [32]) (by kernel_rfl) rfl (DAll.cons rfl (by kernel_rfl) (OpL.callD rfl (h := tb_EdgesX t s'.2 s'.1 htok2 hprs2)) (.inr (by rintro _ _ ⟨_, ⟨p3, d3, rfl, rfl⟩, rfl⟩ w h; exact h.subD)) rfl ?_ DAll.nil)
                rintro _ _ ⟨_, ⟨p3, d3, rfl, rfl⟩, rfl⟩
                refine D.all (rs := [34]) (by kernel_rfl) rfl (DAll.cons rfl (by kernel_rfl) (OpL.callD rfl (h := rt_EdgesX b25 s'.1 s'.2 (i + 1) ht2 hri2 hN1)) (.inr (by rintro _ _ ⟨_, ⟨p4, d4, rfl, rfl⟩, rfl⟩ w h; exact h.subD)) rfl ?_ DAll.nil)
                rintro _ _ ⟨_, ⟨p4, d4, rfl, rfl⟩, rfl⟩
                refine D.all (rs := [35]) (by kernel_rfl) rfl (DAll.cons rfl (by kernel_rfl) (OpL.callD rfl (h := rf_SameEdges (RowO Kd.p2 84 p3 d3 _) (RowO Kd.p2 84 p4 d4 _) p3 p4 d3 d4 (edgesT s'.1) (edgesT s'.1) isO isO hedl hedl)) (.inr (by rintro _ _ ⟨_, ⟨rfl, rfl⟩, rfl⟩ w h; exact h.subD)) rfl ?_ DAll.nil)
                rintro _ _ ⟨_, ⟨rfl, rfl⟩, rfl⟩
                rw [decide_eq_true rfl]
                refine D.q 36 rfl (by kernel_rfl) (by kernel_rfl) (q_not rfl) (fun _ h => h.subD) ?_
                refine D.q 37 rfl (by kernel_rfl) (by kernel_rfl) (q_pickF rfl rfl) (fun _ h => h.subD) ?_
                refine D.done (by kernel_rfl) ?_
                refine K.no rfl ?_
                refine K.skip <| K.inBlock ?_
                refine K.region ?_
                refine KO.q rfl (q_move rfl) ?_
                refine KO.q rfl (q_add rfl rfl (by first | omega | (simp; omega)) (by first | omega | (simp; omega))) ?_
                refine KO.q rfl (q_assign rfl) ?_
                refine KO.done ?_
                exact K.weak (by repeat (first | exact Env.sub_nil _ | refine Env.sub_cons rfl ?_)) (fun w h => h.fitD) (ih ⟨(i + 1, s', so), by show i + 1 ≤ _; omega, ht2, hri2, hto2⟩ (by show l.length - (i + 1) < l.length - i; omega))
            · obtain ⟨s', hs'⟩ : ∃ s', s' = (T, n) := ⟨_, rfl⟩
              have ht2 : TI s'.1 s'.2 (i + 1) := by rw [hs']; exact ht.more (Nat.le_succ i)
              have hri2 : RI s'.1 := by rw [hs']; exact hri
              obtain ⟨rfl, rfl⟩ : T = s'.1 ∧ n = s'.2 := by rw [hs']; exact ⟨rfl, rfl⟩
              have htok2 := ht2.tok (by omega)
              have hprs2 := ht2.prs hN1
              have hedl := edges_le hprs2
              refine K.skip <| K.inBlock <| K.seq ?_
              refine K.region ?_
              refine KO.q rfl (q_move rfl) ?_
              refine KO.q rfl (q_field fo_33_1 rfl) ?_
              refine KO.q rfl (q_load1D ck_3 rfl) ?_
              refine KO.loud rfl (OpL.callD rfl (h := tb_WaitingX t s'.2 s'.1 a.who htok2)) ?_
              rintro _ _ ⟨_, ⟨rfl, rfl⟩, rfl⟩
              refine KO.q rfl (q_move rfl) ?_
              refine KO.q rfl (q_extract rfl rfl) ?_
              refine KO.q rfl (q_extract rfl rfl) ?_
              refine KO.loud rfl (l_alloc zo_31) ?_
              rintro _ _ ⟨b9, rfl, rfl⟩
              refine KO.loudN rfl (l_storeAll ck_31 rfl rfl ⟨rfl, rfl⟩ (nm_one _) (by repeat (first | exact Pick.here | apply Pick.there))) ?_
              rintro _ _ ⟨rfl, rfl⟩
              refine KO.q rfl (q_assign rfl) ?_
              refine KO.done ?_
              refine K.seq ?_
              refine K.region ?_
              refine KO.q rfl (q_move rfl) ?_
              refine KO.q rfl (q_field fo_33_1 rfl) ?_
              refine KO.q rfl (q_load1D ck_3 rfl) ?_
              refine KO.loud rfl (OpL.callD rfl (h := rt_WaitingX b25 s'.1 s'.2 (i + 1) a.who ht2 hri2 hN1)) ?_
              rintro _ _ ⟨_, ⟨rfl, rfl⟩, rfl⟩
              refine KO.q rfl (q_move rfl) ?_
              refine KO.q rfl (q_extract rfl rfl) ?_
              refine KO.q rfl (q_extract rfl rfl) ?_
              refine KO.loud rfl (l_alloc zo_31) ?_
              rintro _ _ ⟨b11, rfl, rfl⟩
              refine KO.loudN rfl (l_storeAll ck_31 rfl rfl ⟨rfl, rfl⟩ (nm_one _) (by repeat (first | exact Pick.here | apply Pick.there))) ?_
              rintro _ _ ⟨rfl, rfl⟩
              refine KO.q rfl (q_assign rfl) ?_
              refine KO.done ?_
              refine K.seq ?_
              refine K.drawU (by repeat (first | apply SubL.pers | apply SubL.own (b := b9) | apply SubL.own (b := b11) | apply SubL.own (b := b8) | apply SubL.drop | exact SubL.none)) mixed ?_
              refine D.q 0 rfl (by kernel_rfl) (by kernel_rfl) (q_loadN ck_31 rfl rfl (by first | (apply cells_pv; (repeat (first | exact List.Mem.head _ | apply List.Mem.tail))) | (apply cells_fv; (repeat (first | exact List.Mem.head _ | apply List.Mem.tail))))) (fun _ h => h.subD) ?_
              refine D.q 1 rfl (by kernel_rfl) (by kernel_rfl) (q_loadN ck_31 rfl rfl (by first | (apply cells_pv; (repeat (first | exact List.Mem.head _ | apply List.Mem.tail))) | (apply cells_fv; (repeat (first | exact List.Mem.head _ | apply List.Mem.tail))))) (fun _ h => h.subD) ?_
              refine D.q 2 rfl (by kernel_rfl) (by kernel_rfl) (q_recNG Tryz.underlying31 nm_hp nm_hg rfl rfl (nm_eqD _ _ Tryz.underlying31)) (fun _ h => h.subD) ?_
              refine D.q 3 rfl (by kernel_rfl) (by kernel_rfl) (q_move rfl) (fun _ h => h.subD) ?_
              refine D.dsplit 110 rfl (fun g110 => ?_) (fun g110 => ?_)
              · exact absurd rfl g110
              · refine D.q 4 rfl (by kernel_rfl) (by kernel_rfl) (q_move rfl) (fun _ h => h.subD) ?_
                refine D.q 5 rfl (by kernel_rfl) (by kernel_rfl) (q_move rfl) (fun _ h => h.subD) ?_
                refine D.q 6 rfl (by kernel_rfl) (by kernel_rfl) (q_bneF Tryz.underlying4 rfl rfl (rfl)) (fun _ h => h.subD) ?_
                refine D.q 7 rfl (by kernel_rfl) (by kernel_rfl) (q_pickF rfl rfl) (fun _ h => h.subD) ?_
                refine D.q 8 rfl (by kernel_rfl) (by kernel_rfl) (q_move rfl) (fun _ h => h.subD) ?_
                refine D.q 9 rfl (by kernel_rfl) (by kernel_rfl) (q_move rfl) (fun _ h => h.subD) ?_
                refine D.q 10 rfl (by kernel_rfl) (by kernel_rfl) (q_field fo_33_1 rfl) (fun _ h => h.subD) ?_
                refine D.q 11 rfl (by kernel_rfl) (by kernel_rfl) (q_load1D ck_3 rfl) (fun _ h => h.subD) ?_
                refine D.q 12 rfl (by kernel_rfl) (by kernel_rfl) (q_field fo_33_3 rfl) (fun _ h => h.subD) ?_
                refine D.q 13 rfl (by kernel_rfl) (by kernel_rfl) (q_ldPS sub_act3_name nm_sz ck_31 rfl (by repeat (first | exact List.Mem.head _ | apply List.Mem.tail))) (fun _ h => h.subD) ?_
                refine D.q 15 rfl (by kernel_rfl) (by kernel_rfl) (q_move rfl) (fun _ h => h.subD) ?_
                refine D.q 16 rfl (by kernel_rfl) (by kernel_rfl) (q_field fo_33_1 rfl) (fun _ h => h.subD) ?_
                refine D.q 17 rfl (by kernel_rfl) (by kernel_rfl) (q_load1D ck_3 rfl) (fun _ h => h.subD) ?_
                refine D.q 18 rfl (by kernel_rfl) (by kernel_rfl) (q_field fo_33_3 rfl) (fun _ h => h.subD) ?_
                refine D.q 19 rfl (by kernel_rfl) (by kernel_rfl) (q_ldPS sub_act3_name nm_sz ck_31 rfl (by repeat (first | exact List.Mem.head _ | apply List.Mem.tail))) (fun _ h => h.subD) ?_
                refine D.all (rs := [14]) (by kernel_rfl) rfl (DAll.cons rfl (by kernel_rfl) (OpL.callD rfl (h := tb_ModeX t s'.2 s'.1 a.who a.name htok2)) (.inr (by rintro _ _ ⟨_, ⟨rfl, rfl⟩, rfl⟩ w h; exact h.subD)) rfl ?_ DAll.nil)
                rintro _ _ ⟨_, ⟨rfl, rfl⟩, rfl⟩
                refine D.all (rs := [20]) (by kernel_rfl) rfl (DAll.cons rfl (by kernel_rfl) (OpL.callD rfl (h := rt_ModeX b25 s'.1 s'.2 (i + 1) a.who a.name ht2 hri2 hN1)) (.inr (by rintro _ _ ⟨_, ⟨rfl, rfl⟩, rfl⟩ w h; exact h.subD)) rfl ?_ DAll.nil)
                rintro _ _ ⟨_, ⟨rfl, rfl⟩, rfl⟩
                refine D.q 21 rfl (by kernel_rfl) (by kernel_rfl) (q_neF rfl rfl (rfl)) (fun _ h => h.subD) ?_
                refine D.q 22 rfl (by kernel_rfl) (by kernel_rfl) (q_pickF rfl rfl) (fun _ h => h.subD) ?_
                refine D.q 23 rfl (by kernel_rfl) (by kernel_rfl) (q_move rfl) (fun _ h => h.subD) ?_
                refine D.q 24 rfl (by kernel_rfl) (by kernel_rfl) (q_move rfl) (fun _ h => h.subD) ?_
                refine D.q 26 rfl (by kernel_rfl) (by kernel_rfl) (q_move rfl) (fun _ h => h.subD) ?_
                refine D.all (rs := [25]) (by kernel_rfl) rfl (DAll.cons rfl (by kernel_rfl) (OpL.callD rfl (h := tb_CountX t s'.2 s'.1)) (.inr (by rintro _ _ ⟨_, ⟨rfl, rfl⟩, rfl⟩ w h; exact h.subD)) rfl ?_ DAll.nil)
                rintro _ _ ⟨_, ⟨rfl, rfl⟩, rfl⟩
                refine D.all (rs := [27]) (by kernel_rfl) rfl (DAll.cons rfl (by kernel_rfl) (OpL.callD rfl (h := rt_CountX b25 s'.1 s'.2 (i + 1) ht2 hri2 hN1)) (.inr (by rintro _ _ ⟨_, ⟨rfl, rfl⟩, rfl⟩ w h; exact h.subD)) rfl ?_ DAll.nil)
                rintro _ _ ⟨_, ⟨rfl, rfl⟩, rfl⟩
                refine D.q 28 rfl (by kernel_rfl) (by kernel_rfl) (q_neF rfl rfl (rfl)) (fun _ h => h.subD) ?_
                refine D.q 29 rfl (by kernel_rfl) (by kernel_rfl) (q_pickF rfl rfl) (fun _ h => h.subD) ?_
                refine D.q 30 rfl (by kernel_rfl) (by kernel_rfl) (q_move rfl) (fun _ h => h.subD) ?_
                refine D.q 31 rfl (by kernel_rfl) (by kernel_rfl) (q_move rfl) (fun _ h => h.subD) ?_
                refine D.q 33 rfl (by kernel_rfl) (by kernel_rfl) (q_move rfl) (fun _ h => h.subD) ?_
                refine D.all (rs := [32]) (by kernel_rfl) rfl (DAll.cons rfl (by kernel_rfl) (OpL.callD rfl (h := tb_EdgesX t s'.2 s'.1 htok2 hprs2)) (.inr (by rintro _ _ ⟨_, ⟨p3, d3, rfl, rfl⟩, rfl⟩ w h; exact h.subD)) rfl ?_ DAll.nil)
                rintro _ _ ⟨_, ⟨p3, d3, rfl, rfl⟩, rfl⟩
                refine D.all (rs := [34]) (by kernel_rfl) rfl (DAll.cons rfl (by kernel_rfl) (OpL.callD rfl (h := rt_EdgesX b25 s'.1 s'.2 (i + 1) ht2 hri2 hN1)) (.inr (by rintro _ _ ⟨_, ⟨p4, d4, rfl, rfl⟩, rfl⟩ w h; exact h.subD)) rfl ?_ DAll.nil)
                rintro _ _ ⟨_, ⟨p4, d4, rfl, rfl⟩, rfl⟩
                refine D.all (rs := [35]) (by kernel_rfl) rfl (DAll.cons rfl (by kernel_rfl) (OpL.callD rfl (h := rf_SameEdges (RowO Kd.p2 84 p3 d3 _) (RowO Kd.p2 84 p4 d4 _) p3 p4 d3 d4 (edgesT s'.1) (edgesT s'.1) isO isO hedl hedl)) (.inr (by rintro _ _ ⟨_, ⟨rfl, rfl⟩, rfl⟩ w h; exact h.subD)) rfl ?_ DAll.nil)
                rintro _ _ ⟨_, ⟨rfl, rfl⟩, rfl⟩
                rw [decide_eq_true rfl]
                refine D.q 36 rfl (by kernel_rfl) (by kernel_rfl) (q_not rfl) (fun _ h => h.subD) ?_
                refine D.q 37 rfl (by kernel_rfl) (by kernel_rfl) (q_pickF rfl rfl) (fun _ h => h.subD) ?_
                refine D.done (by kernel_rfl) ?_
                refine K.no rfl ?_
                refine K.skip <| K.inBlock ?_
                refine K.region ?_
                refine KO.q rfl (q_move rfl) ?_
                refine KO.q rfl (q_add rfl rfl (by first | omega | (simp; omega)) (by first | omega | (simp; omega))) ?_
                refine KO.q rfl (q_assign rfl) ?_
                refine KO.done ?_
                exact K.weak (by repeat (first | exact Env.sub_nil _ | refine Env.sub_cons rfl ?_)) (fun w h => h.fitD) (ih ⟨(i + 1, s', so), by show i + 1 ≤ _; omega, ht2, hri2, hto2⟩ (by show l.length - (i + 1) < l.length - i; omega))
    · clear ih
      refine K.exit rfl ?_
      refine K.seq ?_
      refine K.region ?_
      refine KO.q rfl (q_assign rfl) ?_
      refine KO.done ?_
      refine K.ret (fn := Tryz.f3) Tryz.func3 (fun a w hk hs => res1 Tryz.results3 hk rfl) (fun w hs => ?_)
      exact ⟨_, [], rfl, ⟨rfl, rfl⟩, hs.fitD⟩
end Go.Proofs.YtcpkcjabmookmaaGreat.L
