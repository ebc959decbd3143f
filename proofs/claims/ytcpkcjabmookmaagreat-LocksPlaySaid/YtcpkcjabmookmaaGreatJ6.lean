/- The locks' table, its addresses hidden. -/
import Derived.Test.YtcpkcjabmookmaaGreatJ5
namespace Go.Proofs.YtcpkcjabmookmaaGreat.L
open Go Go.Proofs
attribute [local irreducible] pv fv pt fz RowF RowO rowP old pure_ elA
set_option maxRecDepth 100000
set_option linter.unusedSimpArgs false
set_option linter.unusedVariables false

abbrev TbI (T : List Ent) := { a : (Option Addr × Nat) × List E // a.2.map E.abs = T }
def TbX (t : Nat) (n : Int) (T : List Ent) : HP := HP.ex (fun a : TbI T => TbE t n a.1.1.1 a.1.1.2 a.1.2 ++ [AllO LkE a.1.2])
def tbI0 (T : List Ent) : TbI T := ⟨((none, 0), T.map (fun e => ⟨e.name, none, e.k⟩)), by
  show (T.map fun e => (⟨e.name, none, e.k⟩ : E)).map E.abs = T
  rw [List.map_map]
  exact List.map_id' T⟩
structure TOk (T : List Ent) (n : Int) : Prop where
  srt : SrtT T
  sz : ∀ e ∈ T, e.k.size ≤ 1000000
  len : T.length ≤ 1000000
  cnt : 0 ≤ n ∧ n ≤ 1000000
theorem TOk.es {T : List Ent} {n : Int} (h : TOk T n) {es : List E} (he : es.map E.abs = T) : Srt es ∧ (∀ e ∈ es, e.k.size ≤ 1000000) ∧ es.length ≤ 1000000 := by
  subst he
  refine ⟨(srt_abs es).2 h.srt, fun e hm => h.sz e.abs (List.mem_map_of_mem hm), ?_⟩
  have := h.len
  rwa [List.length_map] at this
theorem tb_AskX (t : Nat) (n : Int) (T : List Ent) (who : Int) (nm : Nm) (m : Int) (h : TOk T n) : Fn Tryz.prog 6 [.pointer (some ⟨t, 0, none⟩), .int .i64 who, .agg nm.cells.toArray, .int .i64 m].toArray [TbX t n T] (fun r post => r = .int .i64 (askT T n who nm m).1 ∧ post = [TbX t (askT T n who nm m).2.2 (askT T n who nm m).2.1]) :=
  (Fn.exT (f' := fun a : TbI (askT T n who nm m).2.1 => TbE t (askT T n who nm m).2.2 a.1.1.1 a.1.1.2 a.1.2 ++ [AllO LkE a.1.2]) (Ψ := fun r M => r = .int .i64 (askT T n who nm m).1 ∧ M = []) (tbI0 T) (fun a => by
    obtain ⟨⟨⟨q, c⟩, es⟩, he⟩ := a
    obtain ⟨h1, h2, h3⟩ := h.es he
    have he : es.map E.abs = T := he
    subst he
    exact (tb_Ask t n q c es who nm m h1 h2 h3 h.cnt).mono fun r post ⟨es', q', c', e1, e2, e3⟩ => ⟨⟨((q', c'), es'), e2⟩, [], ⟨e1, rfl⟩, e3⟩)).mono fun r post ⟨M, ⟨h1, h2⟩, h3⟩ => ⟨h1, by rw [h3, h2]; rfl⟩
--%call (*poste/locks.Table).Count := tb_CountX _ _ _
theorem tb_CountX (t : Nat) (n : Int) (T : List Ent) : Fn Tryz.prog 16 [.pointer (some ⟨t, 0, none⟩)].toArray [TbX t n T] (fun r post => r = .int .i64 n ∧ post = [TbX t n T]) :=
  (Fn.exT (f' := fun a : TbI T => TbE t n a.1.1.1 a.1.1.2 a.1.2 ++ [AllO LkE a.1.2]) (Ψ := fun r M => r = .int .i64 n ∧ M = []) (tbI0 T) (fun a => ⟨(tb_Count t n (.int .i64 0)).1, fun ρ L w hs => ((tb_Count t n (.slice a.1.1.1 a.1.2.length a.1.1.2)).2 ρ ([RowO Kd.e 63 a.1.1.1 a.1.1.2 a.1.2, AllO LkE a.1.2] ++ L) w hs).mono fun e w' ⟨v, post, he, ⟨h1, h2⟩, h3⟩ => ⟨v, TbE t n a.1.1.1 a.1.1.2 a.1.2 ++ [AllO LkE a.1.2], he, ⟨a, [], ⟨h1, rfl⟩, rfl⟩, by subst h2; exact h3⟩⟩)).mono fun r post ⟨M, ⟨h1, h2⟩, h3⟩ => ⟨h1, by rw [h3, h2]; rfl⟩
theorem tbX_new {ρ : World} {L : List HP} {w : World} {b : Nat} (h : St ρ (pv b 53 [.int .i64 0, .slice none 0 0] :: L) w) : St ρ (TbX b 0 [] :: L) w :=
  St.exI (f := fun a : TbI [] => TbE b 0 a.1.1.1 a.1.1.2 a.1.2 ++ [AllO LkE a.1.2]) ⟨((none, 0), []), rfl⟩ ((allO_nil LkE (rowO_nil (k := Kd.e) 63 h)).fit (M := TbE b 0 none 0 [] ++ [AllO LkE []]) (by repeat (first | exact Give.nil | (apply Give.perI; (repeat (first | exact List.Mem.head _ | apply List.Mem.tail))) | (apply Give.own; (repeat (first | exact Pick.here | apply Pick.there))))) (by repeat (first | exact Drop.refl | apply Drop.skip)))
--%call poste/locks.New := tb_New !! ⟨_, ⟨t#, rfl, rfl⟩, rfl⟩
theorem tb_New : Fn Tryz.prog 5 ([] : List Value).toArray [] (fun r post => ∃ b, r = .pointer (some ⟨b, 0, none⟩) ∧ post = [TbX b 0 []]) := by
  refine Fn.enter (N := 3) Tryz.func5 rfl Tryz.ntmps5 (by kernel_rfl) rfl (fun ρ L => ?_)
  refine K.seq ?_
  refine K.region ?_
  refine KO.q rfl (q_assign rfl) ?_
  refine KO.done ?_
  refine K.seq ?_
  refine K.region ?_
  refine KO.q rfl (q_build st_53 rfl (by repeat (first | exact Fill.nil | (apply Fill.cons; rfl; rfl; rfl) | exact SetN.nil | apply SetN.cons | exact SetAt.here | apply SetAt.there))) ?_
  refine KO.loud rfl (l_box rfl rfl) ?_
  rintro _ _ ⟨b2, rfl, rfl⟩
  refine KO.q rfl (q_assign rfl) ?_
  refine KO.done ?_
  refine K.st (fun w h => tbX_new h) ?_
  refine K.ret (fn := Tryz.f5) Tryz.func5 (fun a w hk hs => res1 Tryz.results5 hk rfl) (fun w hs => ?_)
  exact ⟨_, [TbX b2 0 []], rfl, ⟨b2, rfl, rfl⟩, hs.fitD⟩
--%call poste/postelaw13.num := l13_num _
theorem l13_num (n : Int) : Fn Tryz.prog 7 [.int .i64 n].toArray [] (fun r post => r = .int .i64 n ∧ post = []) := by
  refine Fn.enter (N := 4) Tryz.func7 rfl Tryz.ntmps7 (by kernel_rfl) rfl (fun ρ L => ?_)
  refine K.seq ?_
  refine K.region ?_
  refine KO.q rfl (q_assign rfl) ?_
  refine KO.done ?_
  refine K.seq ?_
  refine K.region ?_
  refine KO.q rfl (q_move rfl) ?_
  refine KO.q rfl (q_assign rfl) ?_
  refine KO.done ?_
  refine K.ret (fn := Tryz.f7) Tryz.func7 (fun a w hk hs => res1 Tryz.results7 hk rfl) (fun w hs => ?_)
  exact ⟨_, [], rfl, ⟨rfl, rfl⟩, hs.fitD⟩
set_option maxHeartbeats 1600000 in
theorem tb_Mode (t : Nat) (n : Int) (q : Option Addr) (c : Nat) (es : List E) (who : Int) (nm : Nm) (hs0 : Srt es) (hz : ∀ e ∈ es, e.k.size ≤ 1000000) (hl : es.length ≤ 1000000) : Fn Tryz.prog 14 [.pointer (some ⟨t, 0, none⟩), .int .i64 who, .agg nm.cells.toArray].toArray (TbE t n q c es ++ [AllO LkE es]) (fun r post => r = .int .i64 (modeT (es.map E.abs) who nm) ∧ post = TbE t n q c es ++ [AllO LkE es]) := by
  have hl2 : es.length ≤ 1000000000 := by omega
  refine Fn.enter (N := 45) Tryz.func14 rfl Tryz.ntmps14 (by kernel_rfl) rfl (fun ρ L => ?_)
  refine K.seq ?_
  refine K.region ?_
  refine KO.loud rfl (l_box rfl rfl) ?_
  rintro _ _ ⟨b5, rfl, rfl⟩
  refine KO.q rfl (q_assign rfl) ?_
  refine KO.done ?_
  refine K.seq ?_
  refine K.region ?_
  refine KO.q rfl (q_loadN ck_31 rfl rfl (by first | (apply cells_pv; (repeat (first | exact List.Mem.head _ | apply List.Mem.tail))) | (apply cells_fv; (repeat (first | exact List.Mem.head _ | apply List.Mem.tail))))) ?_
  refine KO.loud rfl (OpL.callD rfl (h := nm_plain _)) ?_
  rintro _ _ ⟨_, ⟨rfl, rfl⟩, rfl⟩
  refine KO.q rfl (q_move rfl) ?_
  refine KO.q rfl (q_extract rfl rfl) ?_
  refine KO.q rfl (q_extract rfl rfl) ?_
  refine KO.loudN rfl (l_storeAll ck_31 rfl rfl ⟨rfl, rfl⟩ (nm_one _) (by repeat (first | exact Pick.here | apply Pick.there))) ?_
  rintro _ _ ⟨rfl, rfl⟩
  refine KO.q rfl (q_assign rfl) ?_
  refine KO.done ?_
  refine K.seq <| K.seq ?_
  refine K.region ?_
  refine KO.q rfl (q_move rfl) ?_
  refine KO.q rfl (q_pnil Tryz.underlying24 rfl rfl) ?_
  refine KO.q rfl (q_move rfl) ?_
  refine KO.q rfl (q_move rfl) ?_
  refine KO.q rfl (q_not rfl) ?_
  refine KO.q rfl (q_pickF rfl rfl) ?_
  refine KO.done ?_
  refine K.bcond (s := 22) rfl (fun g22 => ?_) (fun g22 => ?_)
  · have hr : modeT (es.map E.abs) who nm = 0 := by unfold modeT; rw [if_neg]; intro h; simp [h.1] at g22
    refine K.seq ?_
    refine K.region ?_
    refine KO.q rfl (q_assign rfl) ?_
    refine KO.done ?_
    refine K.ret (fn := Tryz.f14) Tryz.func14 (fun a w hk hs => res1 Tryz.results14 hk rfl) (fun w hs => ?_)
    rw [hr]
    exact ⟨_, TbE t n q c es ++ [AllO LkE es], rfl, ⟨rfl, rfl⟩, hs.fitD⟩
  · have hpl : nm.plain.2 = true := by simpa using g22
    refine K.skip <| K.seq ?_
    refine K.region ?_
    refine KO.q rfl (q_move rfl) ?_
    refine KO.q rfl (q_loadN ck_31 rfl rfl (by first | (apply cells_pv; (repeat (first | exact List.Mem.head _ | apply List.Mem.tail))) | (apply cells_fv; (repeat (first | exact List.Mem.head _ | apply List.Mem.tail))))) ?_
    refine KO.loud rfl (OpL.callD rfl (h := tb_find t n q c es nm.plain.1 hs0 hl2)) ?_
    rintro _ _ ⟨_, ⟨rfl, rfl⟩, rfl⟩
    refine KO.q rfl (q_move rfl) ?_
    refine KO.q rfl (q_extract rfl rfl) ?_
    refine KO.q rfl (q_extract rfl rfl) ?_
    refine KO.q rfl (q_assign rfl) ?_
    refine KO.q rfl (q_assign rfl) ?_
    refine KO.done ?_
    refine K.seq <| K.seq ?_
    refine K.region ?_
    refine KO.q rfl (q_move rfl) ?_
    refine KO.q rfl (q_not rfl) ?_
    refine KO.done ?_
    refine K.bcond (s := 30) rfl (fun g30 => ?_) (fun g30 => ?_)
    · have hr : modeT (es.map E.abs) who nm = 0 := by unfold modeT; rw [if_neg]; intro h; rw [← fndN_abs] at h; simp [h.2] at g30
      refine K.seq ?_
      refine K.region ?_
      refine KO.q rfl (q_assign rfl) ?_
      refine KO.done ?_
      refine K.ret (fn := Tryz.f14) Tryz.func14 (fun a w hk hs => res1 Tryz.results14 hk rfl) (fun w hs => ?_)
      rw [hr]
      exact ⟨_, TbE t n q c es ++ [AllO LkE es], rfl, ⟨rfl, rfl⟩, hs.fitD⟩
    · have hfn : fndN es nm.plain.1 = true := by simpa using g30
      obtain ⟨e, he, hen⟩ := fndN_at hfn
      have hez := hz e (List.mem_of_getElem? he)
      have hkT : kAt (es.map E.abs) (lbT (es.map E.abs) nm.plain.1) = e.k := by rw [← lbN_abs]; exact kAt_abs he
      have hil := (List.getElem?_eq_some_iff.1 he).1
      have hr : modeT (es.map E.abs) who nm = (e.k.my who).mode := by unfold modeT; rw [if_pos ⟨hpl, by rw [← fndN_abs]; exact hfn⟩, hkT]
      obtain ⟨i, hi⟩ : ∃ i, i = lbN es nm.plain.1 := ⟨_, rfl⟩
      rw [← hi] at he hil ⊢
      refine K.ex (fun w h => tb_open he (h.pick (by repeat (first | exact Pick.here | apply Pick.there)))) (fun bb => ?_)
      obtain ⟨bb, hbb⟩ := bb
      obtain ⟨nm', pp, k⟩ := e
      have hbb : pp = some bb := hbb
      subst hbb
      have hez : k.size ≤ 1000000 := hez
      refine K.skip <| K.seq ?_
      refine K.region ?_
      refine KO.q rfl (q_move rfl) ?_
      refine KO.q rfl (q_nilCheck rfl) ?_
      refine KO.q rfl (q_field fo_53_1 rfl) ?_
      refine KO.q rfl (q_load1D ck_51 rfl) ?_
      refine KO.q rfl (q_move rfl) ?_
      refine KO.q rfl (q_ix (xs := es) i se_51 rfl rfl rfl isO (by repeat (first | exact List.Mem.head _ | apply List.Mem.tail)) rfl hil) ?_
      refine KO.q rfl (q_ldEN (xs := es) ck_63 rfl isO (by repeat (first | exact List.Mem.head _ | apply List.Mem.tail)) he) ?_
      refine KO.q rfl (q_move rfl) ?_
      refine KO.loud rfl (OpL.callD rfl (h := en_hold nm' bb k who hez)) ?_
      rintro _ _ ⟨_, ⟨rfl, rfl⟩, rfl⟩
      refine KO.q rfl (q_move rfl) ?_
      refine KO.q rfl (q_extract rfl rfl) ?_
      refine KO.q rfl (q_extract rfl rfl) ?_
      refine KO.loud rfl (l_alloc zo_59) ?_
      rintro _ _ ⟨b10, rfl, rfl⟩
      refine KO.loudN rfl (l_storeAll ck_59 rfl rfl ⟨rfl, rfl⟩ (hold_one _) (by repeat (first | exact Pick.here | apply Pick.there))) ?_
      rintro _ _ ⟨rfl, rfl⟩
      refine KO.q rfl (q_assign rfl) ?_
      refine KO.done ?_
      refine K.seq ?_
      refine K.region ?_
      refine KO.q rfl (q_field fo_59_1 rfl) ?_
      refine KO.q rfl (q_load1D ck_3 rfl) ?_
      refine KO.q rfl (q_assign rfl) ?_
      refine KO.done ?_
      refine K.ret (fn := Tryz.f14) Tryz.func14 (fun a w hk hs => res1 Tryz.results14 hk rfl) (fun w hs => ?_)
      rw [hr]
      exact ⟨_, TbE t n q c es ++ [AllO LkE es], rfl, ⟨rfl, rfl⟩, (tb_back he rfl (hs.fit (M := [LkX bb k, AllO LkE (es.eraseIdx i), pv t 53 [.int .i64 n, .slice q es.length c], RowO Kd.e 63 q c es]) (by repeat (first | exact Give.nil | (apply Give.perI; (repeat (first | exact List.Mem.head _ | apply List.Mem.tail))) | (apply Give.own; (repeat (first | exact Pick.here | apply Pick.there))))) (by repeat (first | exact Drop.refl | apply Drop.skip)))).fitD⟩
--%call (*poste/locks.Table).Mode := tb_ModeX _ _ _ _ _ (by assumption)
theorem tb_ModeX (t : Nat) (n : Int) (T : List Ent) (who : Int) (nm : Nm) (h : TOk T n) : Fn Tryz.prog 14 [.pointer (some ⟨t, 0, none⟩), .int .i64 who, .agg nm.cells.toArray].toArray [TbX t n T] (fun r post => r = .int .i64 (modeT T who nm) ∧ post = [TbX t n T]) :=
  (Fn.exT (f' := fun a : TbI T => TbE t n a.1.1.1 a.1.1.2 a.1.2 ++ [AllO LkE a.1.2]) (Ψ := fun r M => r = .int .i64 (modeT T who nm) ∧ M = []) (tbI0 T) (fun a => by
    obtain ⟨⟨⟨q, c⟩, es⟩, he⟩ := a
    obtain ⟨h1, h2, h3⟩ := h.es he
    have he : es.map E.abs = T := he
    subst he
    exact (tb_Mode t n q c es who nm h1 h2 h3).mono fun r post ⟨e1, e2⟩ => ⟨⟨((q, c), es), rfl⟩, [], ⟨e1, rfl⟩, e2⟩)).mono fun r post ⟨M, ⟨h1, h2⟩, h3⟩ => ⟨h1, by rw [h3, h2]; rfl⟩
--%call poste/postelaw13.alive := l13_alive
theorem tok_nil : TOk [] 0 := ⟨List.Pairwise.nil, (fun e h => by cases h), (by decide), (by decide)⟩
set_option maxHeartbeats 1600000 in
theorem l13_alive : Fn Tryz.prog 4 ([] : List Value).toArray [] (fun r post => r = .bool true ∧ post = []) := by
  have e1 : askT [] 0 1 Nm.nil 5 = (0, [⟨Nm.nil, ⟨[⟨1, 5⟩], []⟩⟩], 1) := by kernel_rfl
  have e2 : askT [⟨Nm.nil, ⟨[⟨1, 5⟩], []⟩⟩] 1 2 Nm.nil 1 = (13, [⟨Nm.nil, ⟨[⟨1, 5⟩], [⟨2, 1⟩]⟩⟩], 2) := by kernel_rfl
  have h1 : TOk [⟨Nm.nil, ⟨[⟨1, 5⟩], []⟩⟩] 1 := ⟨List.pairwise_singleton _ _, (fun e h => by rw [List.mem_singleton.1 h]; decide), (by decide), (by decide)⟩
  refine Fn.enter (N := 33) Tryz.func4 rfl Tryz.ntmps4 (by kernel_rfl) rfl (fun ρ L => ?_)
  refine K.seq ?_
  refine K.region ?_
  refine KO.q rfl (q_assign rfl) ?_
  refine KO.done ?_
  refine K.seq ?_
  refine K.region ?_
  refine KO.loud rfl (OpL.callD rfl (h := tb_New)) ?_
  rintro _ _ ⟨_, ⟨t1, rfl, rfl⟩, rfl⟩
  refine KO.q rfl (q_assign rfl) ?_
  refine KO.done ?_
  refine K.seq <| K.seq ?_
  refine K.region ?_
  refine KO.q rfl (q_move rfl) ?_
  refine KO.q rfl (q_pnil Tryz.underlying24 rfl rfl) ?_
  refine KO.done ?_
  refine K.no rfl ?_
  refine K.skip <| K.seq ?_
  refine K.region ?_
  refine KO.q rfl (q_move rfl) ?_
  refine KO.loud rfl (OpL.callD rfl (h := tb_CountX _ 0 [])) ?_
  rintro _ _ ⟨_, ⟨rfl, rfl⟩, rfl⟩
  refine KO.q rfl (q_assign rfl) ?_
  refine KO.done ?_
  refine K.seq ?_
  refine K.region ?_
  refine KO.q rfl (q_move rfl) ?_
  refine KO.q rfl (q_as_nm (q_build st_31 rfl (by repeat (first | exact Fill.nil | (apply Fill.cons; rfl; rfl; rfl) | exact SetN.nil | apply SetN.cons | exact SetAt.here | apply SetAt.there))) (by rfl)) ?_
  refine KO.loud rfl (OpL.callD rfl (h := tb_AskX _ 0 [] 1 Nm.nil 5 tok_nil)) ?_
  rintro _ _ ⟨_, ⟨rfl, rfl⟩, rfl⟩
  rw [e1]
  refine KO.q rfl (q_assign rfl) ?_
  refine KO.done ?_
  refine K.seq ?_
  refine K.region ?_
  refine KO.q rfl (q_move rfl) ?_
  refine KO.q rfl (q_as_nm (q_build st_31 rfl (by repeat (first | exact Fill.nil | (apply Fill.cons; rfl; rfl; rfl) | exact SetN.nil | apply SetN.cons | exact SetAt.here | apply SetAt.there))) (by rfl)) ?_
  refine KO.loud rfl (OpL.callD rfl (h := tb_AskX _ 1 [⟨Nm.nil, ⟨[⟨1, 5⟩], []⟩⟩] 2 Nm.nil 1 h1)) ?_
  rintro _ _ ⟨_, ⟨rfl, rfl⟩, rfl⟩
  rw [e2]
  refine KO.q rfl (q_assign rfl) ?_
  refine KO.done ?_
  refine K.seq ?_
  refine K.region ?_
  refine KO.q rfl (q_move rfl) ?_
  refine KO.q rfl (q_eqT rfl rfl (rfl)) ?_
  refine KO.q rfl (q_move rfl) ?_
  refine KO.q rfl (q_move rfl) ?_
  refine KO.loud rfl (OpL.callD rfl (h := l13_num _)) ?_
  rintro _ _ ⟨_, ⟨rfl, rfl⟩, rfl⟩
  refine KO.q rfl (q_eqT rfl rfl (rfl)) ?_
  refine KO.q rfl (q_pickT rfl rfl) ?_
  refine KO.q rfl (q_move rfl) ?_
  refine KO.q rfl (q_move rfl) ?_
  refine KO.loud rfl (OpL.callD rfl (h := l13_num _)) ?_
  rintro _ _ ⟨_, ⟨rfl, rfl⟩, rfl⟩
  refine KO.q rfl (q_eqT rfl rfl (rfl)) ?_
  refine KO.q rfl (q_pickT rfl rfl) ?_
  refine KO.q rfl (q_move rfl) ?_
  refine KO.q rfl (q_move rfl) ?_
  refine KO.loud rfl (OpL.callD rfl (h := tb_CountX _ 2 [⟨Nm.nil, ⟨[⟨1, 5⟩], [⟨2, 1⟩]⟩⟩])) ?_
  rintro _ _ ⟨_, ⟨rfl, rfl⟩, rfl⟩
  refine KO.q rfl (q_eqT rfl rfl (rfl)) ?_
  refine KO.q rfl (q_pickT rfl rfl) ?_
  refine KO.q rfl (q_assign rfl) ?_
  refine KO.done ?_
  refine K.ret (fn := Tryz.f4) Tryz.func4 (fun a w hk hs => res1 Tryz.results4 hk rfl) (fun w hs => ?_)
  exact ⟨_, [], rfl, ⟨rfl, rfl⟩, hs.fitD⟩
end Go.Proofs.YtcpkcjabmookmaaGreat.L
