/- The locks' table with its addresses hidden: who waits for whom, freeing, for what somebody waits. The law LocksIntents, walked. -/
import Derived.Test.YtfpkeanimkgpaaaJ7
import Derived.Test.YtfpkeanimkgpaaaPQ
namespace Go.Proofs.Ytfpkeanimkgpaaa.L
open Go Go.Proofs
attribute [local irreducible] pv fv pt fz RowF RowO rowP old pure_ elA
set_option maxRecDepth 100000
set_option linter.unusedSimpArgs false
set_option linter.unusedVariables false

theorem tb_EdgesX (t : Nat) (n : Int) (T : List Ent) (h : TOk T n) (hp : (prsT T).length ≤ 1000000000) : Fn Try.prog 39 [.pointer (some ⟨t, 0, none⟩)].toArray [TbX t n T] (fun r post => ∃ po co, r = .slice po (edgesT T).length co ∧ post = [RowO Kd.p2 39 po co (edgesT T), TbX t n T]) :=
  (Fn.exT (f' := fun a : TbI T => TbE t n a.1.1.1 a.1.1.2 a.1.2 ++ [AllO LkE a.1.2]) (Ψ := fun r M => ∃ po co, r = .slice po (edgesT T).length co ∧ M = [RowO Kd.p2 39 po co (edgesT T)]) (tbI0 T) (fun a => by
    obtain ⟨⟨⟨q, c⟩, es⟩, he⟩ := a
    obtain ⟨h1, h2, h3⟩ := h.es he
    have he : es.map E.abs = T := he
    subst he
    exact (tb_Edges t n q c es h2 h3 (by rw [prsN_abs]; exact hp)).mono fun r post ⟨po, co, e1, e2⟩ => ⟨⟨((q, c), es), rfl⟩, _, ⟨po, co, e1, rfl⟩, e2⟩)).mono fun r post ⟨M, ⟨po, co, h1, h2⟩, h3⟩ => ⟨po, co, h1, by rw [h3, h2]; rfl⟩
theorem tb_FreeX (t : Nat) (n : Int) (T : List Ent) (who : Int) (h : TOk T n) (hp : (T.flatMap (outT who)).length ≤ 1000000000) : Fn Try.prog 41 [.pointer (some ⟨t, 0, none⟩), .int .i64 who].toArray [TbX t n T] (fun r post => ∃ po co, r = .slice po (freeT T n who).1.length co ∧ post = [RowO (Kd.int .i64) 3 po co (freeT T n who).1, TbX t (freeT T n who).2.2 (freeT T n who).2.1]) :=
  (Fn.exT (f' := fun a : TbI (freeT T n who).2.1 => TbE t (freeT T n who).2.2 a.1.1.1 a.1.1.2 a.1.2 ++ [AllO LkE a.1.2]) (Ψ := fun r M => ∃ po co, r = .slice po (freeT T n who).1.length co ∧ M = [RowO (Kd.int .i64) 3 po co (freeT T n who).1]) (tbI0 T) (fun a => by
    obtain ⟨⟨⟨q, c⟩, es⟩, he⟩ := a
    obtain ⟨h1, h2, h3⟩ := h.es he
    have he : es.map E.abs = T := he
    subst he
    exact (tb_Free t n q c es who h2 h3 h.cnt (by rw [(free_abs es n who).1]; exact hp)).mono fun r post ⟨po, co, es', q', c', e1, e2, e3⟩ => ⟨⟨((q', c'), es'), e2⟩, _, ⟨po, co, e1, rfl⟩, e3⟩)).mono fun r post ⟨M, ⟨po, co, h1, h2⟩, h3⟩ => ⟨po, co, h1, by rw [h3, h2]; rfl⟩
theorem tb_WaitingX (t : Nat) (n : Int) (T : List Ent) (who : Int) (h : TOk T n) : Fn Try.prog 42 [.pointer (some ⟨t, 0, none⟩), .int .i64 who].toArray [TbX t n T] (fun r post => r = .tuple #[.agg (((waitT T who).map Ent.name).getD Nm.nil).cells.toArray, .bool (waitT T who).isSome] ∧ post = [TbX t n T]) :=
  (Fn.exT (f' := fun a : TbI T => TbE t n a.1.1.1 a.1.1.2 a.1.2 ++ [AllO LkE a.1.2]) (Ψ := fun r M => r = .tuple #[.agg (((waitT T who).map Ent.name).getD Nm.nil).cells.toArray, .bool (waitT T who).isSome] ∧ M = []) (tbI0 T) (fun a => by
    obtain ⟨⟨⟨q, c⟩, es⟩, he⟩ := a
    obtain ⟨h1, h2, h3⟩ := h.es he
    have he : es.map E.abs = T := he
    subst he
    exact (tb_Waiting t n q c es who h2 (Nat.le_trans h3 (by decide))).mono fun r post ⟨e1, e2⟩ => ⟨⟨((q, c), es), rfl⟩, [], ⟨by rw [e1, tWait_name, tWait_some], rfl⟩, e2⟩)).mono fun r post ⟨M, ⟨h1, h2⟩, h3⟩ => ⟨h1, by rw [h3, h2]; rfl⟩
--%call poste/postelaw13.more := l13_more _ _
theorem l13_more (b : Bool) (n : Int) : Fn Try.prog 40 [.bool b, .int .i64 n].toArray [] (fun r post => r = .int .i64 (if b = true then n else 0) ∧ post = []) := by
  refine Fn.enter (N := 7) Try.func40 rfl Try.ntmps40 (by kernel_rfl) rfl (fun ρ L => ?_)
  refine K.seq ?_
  refine K.region ?_
  refine KO.q rfl (q_assign rfl) ?_
  refine KO.done ?_
  refine K.seq <| K.seq ?_
  refine K.region ?_
  refine KO.q rfl (q_move rfl) ?_
  refine KO.done ?_
  first | refine K.dcond (s := 5) rfl (fun g5 => ?_) (fun g5 => ?_) | refine K.bcond (s := 5) rfl (fun g5 => ?_) (fun g5 => ?_)
  · rw [if_pos (by assumption)]
    refine K.seq ?_
    refine K.region ?_
    refine KO.q rfl (q_move rfl) ?_
    refine KO.q rfl (q_assign rfl) ?_
    refine KO.done ?_
    refine K.ret (fn := Try.f40) Try.func40 (fun a w hk hs => res1 Try.results40 hk rfl) (fun w hs => ?_)
    exact ⟨_, [], rfl, ⟨rfl, rfl⟩, hs.fitD⟩
  · rw [if_neg (by simp [*])]
    refine K.skip <| K.seq ?_
    refine K.region ?_
    refine KO.q rfl (q_assign rfl) ?_
    refine KO.done ?_
    refine K.ret (fn := Try.f40) Try.func40 (fun a w hk hs => res1 Try.results40 hk rfl) (fun w hs => ?_)
    exact ⟨_, [], rfl, ⟨rfl, rfl⟩, hs.fitD⟩
set_option maxHeartbeats 3200000 in
theorem law_LocksIntents (n m : Int) : Fn Try.prog 13 [.int .i64 n, .int .i64 m].toArray [] (fun r post => r = .bool true ∧ post = []) := by
  refine Fn.enter (N := 95) Try.func13 rfl Try.ntmps13 (by kernel_rfl) rfl (fun ρ L => ?_)
  refine K.seq ?_
  refine K.region ?_
  refine KO.q rfl (q_assign rfl) ?_
  refine KO.done ?_
  refine K.seq ?_
  refine K.region ?_
  refine KO.loud rfl (OpL.callD rfl (h := l13_alive)) ?_
  rintro _ _ ⟨_, ⟨rfl, rfl⟩, rfl⟩
  refine KO.q rfl (q_assign rfl) ?_
  refine KO.done ?_
  refine K.seq <| K.seq ?_
  refine K.region ?_
  refine KO.q rfl (q_move rfl) ?_
  refine KO.q rfl (q_not rfl) ?_
  refine KO.q rfl (q_move rfl) ?_
  refine KO.q rfl (q_move rfl) ?_
  refine KO.q rfl (q_lt rfl rfl) ?_
  refine KO.q rfl (q_pickF rfl rfl) ?_
  refine KO.q rfl (q_move rfl) ?_
  refine KO.dsplit 20 rfl (fun g20 => ?_) (fun g20 => ?_)
  · refine KO.skip rfl ?_
    refine KO.skip rfl ?_
    refine KO.q rfl (q_pickT rfl rfl) ?_
    refine KO.q rfl (q_move rfl) ?_
    refine KO.skip rfl ?_
    refine KO.skip rfl ?_
    refine KO.q rfl (q_pickT rfl rfl) ?_
    refine KO.q rfl (q_move rfl) ?_
    refine KO.skip rfl ?_
    refine KO.skip rfl ?_
    refine KO.q rfl (q_pickT rfl rfl) ?_
    refine KO.done ?_
    refine K.yes rfl ?_
    refine K.seq ?_
    refine K.region ?_
    refine KO.q rfl (q_move rfl) ?_
    refine KO.q rfl (q_assign rfl) ?_
    refine KO.done ?_
    refine K.ret (fn := Try.f13) Try.func13 (fun a w hk hs => res1 Try.results13 hk rfl) (fun w hs => ?_)
    exact ⟨_, [], rfl, ⟨rfl, rfl⟩, hs.fitD⟩
  · refine KO.q rfl (q_move rfl) ?_
    refine KO.q rfl (q_gt rfl rfl) ?_
    refine KO.q rfl (q_pickF rfl rfl) ?_
    refine KO.q rfl (q_move rfl) ?_
    refine KO.dsplit 24 rfl (fun g24 => ?_) (fun g24 => ?_)
    · refine KO.skip rfl ?_
      refine KO.skip rfl ?_
      refine KO.q rfl (q_pickT rfl rfl) ?_
      refine KO.q rfl (q_move rfl) ?_
      refine KO.skip rfl ?_
      refine KO.skip rfl ?_
      refine KO.q rfl (q_pickT rfl rfl) ?_
      refine KO.done ?_
      refine K.yes rfl ?_
      refine K.seq ?_
      refine K.region ?_
      refine KO.q rfl (q_move rfl) ?_
      refine KO.q rfl (q_assign rfl) ?_
      refine KO.done ?_
      refine K.ret (fn := Try.f13) Try.func13 (fun a w hk hs => res1 Try.results13 hk rfl) (fun w hs => ?_)
      exact ⟨_, [], rfl, ⟨rfl, rfl⟩, hs.fitD⟩
    · refine KO.q rfl (q_move rfl) ?_
      refine KO.q rfl (q_lt rfl rfl) ?_
      refine KO.q rfl (q_pickF rfl rfl) ?_
      refine KO.q rfl (q_move rfl) ?_
      refine KO.dsplit 28 rfl (fun g28 => ?_) (fun g28 => ?_)
      · refine KO.skip rfl ?_
        refine KO.skip rfl ?_
        refine KO.q rfl (q_pickT rfl rfl) ?_
        refine KO.done ?_
        refine K.yes rfl ?_
        refine K.seq ?_
        refine K.region ?_
        refine KO.q rfl (q_move rfl) ?_
        refine KO.q rfl (q_assign rfl) ?_
        refine KO.done ?_
        refine K.ret (fn := Try.f13) Try.func13 (fun a w hk hs => res1 Try.results13 hk rfl) (fun w hs => ?_)
        exact ⟨_, [], rfl, ⟨rfl, rfl⟩, hs.fitD⟩
      · refine KO.q rfl (q_move rfl) ?_
        refine KO.q rfl (q_gt rfl rfl) ?_
        refine KO.q rfl (q_pickF rfl rfl) ?_
        refine KO.done ?_
        refine K.dcond (s := 31) rfl (fun g31 => ?_) (fun g31 => ?_)
        · refine K.seq ?_
          refine K.region ?_
          refine KO.q rfl (q_move rfl) ?_
          refine KO.q rfl (q_assign rfl) ?_
          refine KO.done ?_
          refine K.ret (fn := Try.f13) Try.func13 (fun a w hk hs => res1 Try.results13 hk rfl) (fun w hs => ?_)
          exact ⟨_, [], rfl, ⟨rfl, rfl⟩, hs.fitD⟩
        · refine K.skip <| K.seq ?_
          obtain ⟨N, rfl⟩ : ∃ N : Nat, n = N := ⟨n.toNat, by omega⟩
          rename_i L
          refine K.region ?_
          refine KO.loud rfl (OpL.callG rfl (by repeat (first | exact Give.nil | (apply Give.perI; (repeat (first | exact List.Mem.head _ | apply List.Mem.tail))) | (apply Give.own; (repeat (first | exact Pick.here | apply Pick.there))))) tb_New) ?_
          rintro _ _ ⟨_, ⟨t, rfl, rfl⟩, rfl⟩
          refine KO.q rfl (q_assign rfl) ?_
          refine KO.done ?_
          refine K.seq <| K.seq ?_
          refine K.region ?_
          refine KO.q rfl (q_move rfl) ?_
          refine KO.q rfl (q_pnil Try.underlying23 rfl rfl) ?_
          refine KO.done ?_
          refine K.no rfl ?_
          refine K.skip <| K.seq <| K.seq ?_
          refine K.region ?_
          refine KO.q rfl (q_assign rfl) ?_
          refine KO.done ?_
          refine K.block ?_
          refine K.rounds2 (ι := { s : Nat // s ≤ N }) (fun s => [(7, .int .i64 s.1), (0, .int .i64 N), (1, .int .i64 m), (6, .pointer (some ⟨t, 0, none⟩))]) (fun s => [TbX t (itS s.1).2 (itS s.1).1] ++ L) (fun s => N - s.1) ⟨0, Nat.zero_le _⟩ (by repeat (first | exact Env.sub_nil _ | refine Env.sub_cons rfl ?_)) (fun w h => h.fitD) (fun s ih => ?_)
          obtain ⟨i, hi⟩ := s
          dsimp only at hi ⊢
          refine K.seq <| K.seq ?_
          refine K.region ?_
          refine KO.q rfl (q_move rfl) ?_
          refine KO.q rfl (q_move rfl) ?_
          refine KO.q rfl (q_lt rfl rfl) ?_
          refine KO.done ?_
          refine K.dcond (s := 38) rfl (fun g38 => ?_) (fun g38 => ?_)
          · obtain ⟨o1, e1, o2, e2, o3, e3, o4⟩ := it_step (i := i) (by omega)
            refine K.skip <| K.seq <| K.block <| K.seq ?_
            refine K.region ?_
            refine KO.q rfl (q_move rfl) ?_
            refine KO.q rfl (q_move rfl) ?_
            refine KO.q rfl (q_as_nm (q_build st_28 rfl (by repeat (first | exact Fill.nil | (apply Fill.cons; rfl; rfl; rfl) | exact SetN.nil | apply SetN.cons | exact SetAt.here | apply SetAt.there))) (by rfl)) ?_
            refine KO.loud rfl (OpL.callD rfl (h := tb_AskX t (itS i).2 (itS i).1 i Nm.nil 2 o1)) ?_
            rintro _ _ ⟨_, ⟨rfl, rfl⟩, rfl⟩
            refine KO.q rfl (q_assign rfl) ?_
            refine KO.done ?_
            refine K.seq ?_
            refine K.region ?_
            refine KO.q rfl (q_move rfl) ?_
            refine KO.q rfl (q_move rfl) ?_
            refine KO.q rfl (q_as_nm (q_build st_28 rfl (by repeat (first | exact Fill.nil | (apply Fill.cons; rfl; rfl; rfl) | exact SetN.nil | apply SetN.cons | exact SetAt.here | apply SetAt.there))) (by rfl)) ?_
            refine KO.loud rfl (OpL.callD rfl (h := tb_AskX t (itA (itS i) i).2.2 (itA (itS i) i).2.1 i nmT 2 o2)) ?_
            rintro _ _ ⟨_, ⟨rfl, rfl⟩, rfl⟩
            refine KO.q rfl (q_assign rfl) ?_
            refine KO.done ?_
            refine K.seq ?_
            refine K.region ?_
            refine KO.q rfl (q_move rfl) ?_
            refine KO.q rfl (q_move rfl) ?_
            refine KO.q rfl (q_move rfl) ?_
            refine KO.q rfl (q_move rfl) ?_
            refine KO.q rfl (q_add rfl rfl (by first | omega | (simp; omega)) (by first | omega | (simp; omega))) ?_
            refine KO.q rfl (q_scut (s := abcs) (l := i) (h := i + 1) Try.underlying9 rfl rfl rfl (by omega) (by show i + 1 ≤ 20; omega)) ?_
            refine KO.q rfl (q_as_nm (q_build st_28 rfl (by repeat (first | exact Fill.nil | (apply Fill.cons; rfl; rfl; rfl) | exact SetN.nil | apply SetN.cons | exact SetAt.here | apply SetAt.there))) (by rfl)) ?_
            refine KO.loud rfl (OpL.callD rfl (h := tb_AskX t (itB (itA (itS i) i).2 i).2.2 (itB (itA (itS i) i).2 i).2.1 i (nmR i) 5 o3)) ?_
            rintro _ _ ⟨_, ⟨rfl, rfl⟩, rfl⟩
            refine KO.q rfl (q_assign rfl) ?_
            refine KO.done ?_
            refine K.seq ?_
            refine K.region ?_
            refine KO.q rfl (q_move rfl) ?_
            refine KO.loud rfl (OpL.callD rfl (h := l13_num _)) ?_
            rintro _ _ ⟨_, ⟨rfl, rfl⟩, rfl⟩
            refine KO.q rfl (q_neF rfl rfl (by rw [show (askT (itS i).1 (itS i).2 i Nm.nil 2).1 = 0 from e1])) ?_
            refine KO.q rfl (q_move rfl) ?_
            refine KO.q rfl (q_move rfl) ?_
            refine KO.loud rfl (OpL.callD rfl (h := l13_num _)) ?_
            rintro _ _ ⟨_, ⟨rfl, rfl⟩, rfl⟩
            refine KO.q rfl (q_neF rfl rfl (by rw [show (askT (itA (itS i) i).2.1 (itA (itS i) i).2.2 i nmT 2).1 = 0 from e2])) ?_
            refine KO.q rfl (q_pickF rfl rfl) ?_
            refine KO.q rfl (q_move rfl) ?_
            refine KO.q rfl (q_move rfl) ?_
            refine KO.loud rfl (OpL.callD rfl (h := l13_num _)) ?_
            rintro _ _ ⟨_, ⟨rfl, rfl⟩, rfl⟩
            refine KO.q rfl (q_neF rfl rfl (by rw [show (askT (itB (itA (itS i) i).2 i).2.1 (itB (itA (itS i) i).2 i).2.2 i (nmR i) 5).1 = 0 from e3])) ?_
            refine KO.q rfl (q_pickF rfl rfl) ?_
            refine KO.done ?_
            refine K.no rfl ?_
            refine K.skip <| K.inBlock ?_
            refine K.region ?_
            refine KO.q rfl (q_move rfl) ?_
            refine KO.q rfl (q_add rfl rfl (by first | omega | (simp; omega)) (by first | omega | (simp; omega))) ?_
            refine KO.q rfl (q_assign rfl) ?_
            refine KO.done ?_
            exact K.weak (by repeat (first | exact Env.sub_nil _ | refine Env.sub_cons rfl ?_)) (fun w h => h.fitD) (ih ⟨i + 1, by omega⟩ (by show N - (i + 1) < N - i; omega))
          · obtain rfl : i = N := by omega
            clear ih
            obtain ⟨f1, f2, f3, f4⟩ := it_last (n := i) (m := m) (by omega) (by omega) (by omega) (by omega)
            have oN : TOk (itS i).1 (itS i).2 := by
              have h7 := (it_step (i := i - 1) (by omega)).2.2.2.2.2.2
              rwa [show i - 1 + 1 = i by omega] at h7
            refine K.exit rfl ?_
            refine K.seq ?_
            refine K.region ?_
            refine KO.q rfl (q_move rfl) ?_
            refine KO.q rfl (q_as_nm (q_build st_28 rfl (by repeat (first | exact Fill.nil | (apply Fill.cons; rfl; rfl; rfl) | exact SetN.nil | apply SetN.cons | exact SetAt.here | apply SetAt.there))) (by rfl)) ?_
            refine KO.q rfl (q_move rfl) ?_
            refine KO.loud rfl (OpL.callD rfl (h := tb_AskX t (itS i).2 (itS i).1 99 nmT m oN)) ?_
            rintro _ _ ⟨_, ⟨rfl, rfl⟩, rfl⟩
            refine KO.q rfl (q_assign rfl) ?_
            refine KO.done ?_
            refine K.seq ?_
            refine K.region ?_
            refine KO.q rfl (q_move rfl) ?_
            refine KO.q rfl (q_eq rfl rfl) ?_
            refine KO.q rfl (q_move rfl) ?_
            refine KO.dsplit 76 rfl (fun g76 => ?_) (fun g76 => ?_)
            · refine KO.skip rfl ?_
              refine KO.skip rfl ?_
              refine KO.q rfl (q_pickT rfl rfl) ?_
              refine KO.q rfl (q_assign rfl) ?_
              refine KO.done ?_
              refine K.seq ?_
              refine K.region ?_
              refine KO.q rfl (q_move rfl) ?_
              refine KO.loud rfl (OpL.callD rfl (h := l13_num _)) ?_
              rintro _ _ ⟨_, ⟨rfl, rfl⟩, rfl⟩
              refine KO.q rfl (q_eq rfl rfl) ?_
              refine KO.q rfl (q_move rfl) ?_
              refine KO.q rfl (q_beqT Try.underlying4 rfl rfl (by
                have f1' : (askT (itS i).1 (itS i).2 99 nmT m).1 = 0 ↔ m = 1 ∨ m = 2 := f1
                first | exact decide_eq_true (f1'.2 (.inl g76)) | exact decide_eq_decide.2 (by rw [f1']; simp [g76]))) ?_
              refine KO.q rfl (q_move rfl) ?_
              refine KO.q rfl (q_move rfl) ?_
              refine KO.loud rfl (OpL.callD rfl (h := tb_EdgesX t (itE i m).2.2 (itE i m).2.1 f2 f4)) ?_
              rintro _ _ ⟨_, ⟨pe, ce, rfl, rfl⟩, rfl⟩
              refine KO.q rfl (q_len Try.underlying32 rfl) ?_
              refine KO.q rfl (q_move rfl) ?_
              refine KO.q rfl (q_not rfl) ?_
              refine KO.q rfl (q_move rfl) ?_
              refine KO.loud rfl (OpL.callD rfl (h := l13_more _ _)) ?_
              rintro _ _ ⟨_, ⟨rfl, rfl⟩, rfl⟩
              refine KO.q rfl (q_eqT rfl rfl (by
                rw [f3]
                by_cases h2 : m = 2 <;> simp [g76, h2])) ?_
              refine KO.q rfl (q_pickT rfl rfl) ?_
              refine KO.q rfl (q_assign rfl) ?_
              refine KO.done ?_
              refine K.ret (fn := Try.f13) Try.func13 (fun a w hk hs => res1 Try.results13 hk rfl) (fun w hs => ?_)
              exact ⟨_, [], rfl, ⟨rfl, rfl⟩, hs.fitD⟩
            · refine KO.q rfl (q_move rfl) ?_
              refine KO.q rfl (q_eq rfl rfl) ?_
              refine KO.q rfl (q_pickF rfl rfl) ?_
              refine KO.q rfl (q_assign rfl) ?_
              refine KO.done ?_
              refine K.seq ?_
              refine K.region ?_
              refine KO.q rfl (q_move rfl) ?_
              refine KO.loud rfl (OpL.callD rfl (h := l13_num _)) ?_
              rintro _ _ ⟨_, ⟨rfl, rfl⟩, rfl⟩
              refine KO.q rfl (q_eq rfl rfl) ?_
              refine KO.q rfl (q_move rfl) ?_
              refine KO.q rfl (q_beqT Try.underlying4 rfl rfl (by
                have f1' : (askT (itS i).1 (itS i).2 99 nmT m).1 = 0 ↔ m = 1 ∨ m = 2 := f1
                first | exact decide_eq_true (f1'.2 (.inl g76)) | exact decide_eq_decide.2 (by rw [f1']; simp [g76]))) ?_
              refine KO.q rfl (q_move rfl) ?_
              refine KO.q rfl (q_move rfl) ?_
              refine KO.loud rfl (OpL.callD rfl (h := tb_EdgesX t (itE i m).2.2 (itE i m).2.1 f2 f4)) ?_
              rintro _ _ ⟨_, ⟨pe, ce, rfl, rfl⟩, rfl⟩
              refine KO.q rfl (q_len Try.underlying32 rfl) ?_
              refine KO.q rfl (q_move rfl) ?_
              refine KO.q rfl (q_not rfl) ?_
              refine KO.q rfl (q_move rfl) ?_
              refine KO.loud rfl (OpL.callD rfl (h := l13_more _ _)) ?_
              rintro _ _ ⟨_, ⟨rfl, rfl⟩, rfl⟩
              refine KO.q rfl (q_eqT rfl rfl (by
                rw [f3]
                by_cases h2 : m = 2 <;> simp [g76, h2])) ?_
              refine KO.q rfl (q_pickT rfl rfl) ?_
              refine KO.q rfl (q_assign rfl) ?_
              refine KO.done ?_
              refine K.ret (fn := Try.f13) Try.func13 (fun a w hk hs => res1 Try.results13 hk rfl) (fun w hs => ?_)
              exact ⟨_, [], rfl, ⟨rfl, rfl⟩, hs.fitD⟩
end Go.Proofs.Ytfpkeanimkgpaaa.L
