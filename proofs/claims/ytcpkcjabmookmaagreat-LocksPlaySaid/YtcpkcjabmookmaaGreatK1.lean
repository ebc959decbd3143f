/- The locks' table with its addresses hidden: who waits for whom, freeing, for what somebody waits. The law LocksIntents, walked. -/
import Derived.Test.YtcpkcjabmookmaaGreatJ7
import Derived.Test.YtcpkcjabmookmaaGreatPQ
namespace Go.Proofs.YtcpkcjabmookmaaGreat.L
open Go Go.Proofs
attribute [local irreducible] pv fv pt fz RowF RowO rowP old pure_ elA
set_option maxRecDepth 100000
set_option linter.unusedSimpArgs false
set_option linter.unusedVariables false

theorem tb_EdgesX (t : Nat) (n : Int) (T : List Ent) (h : TOk T n) (hp : (prsT T).length ≤ 1000000000) : Fn Tryz.prog 19 [.pointer (some ⟨t, 0, none⟩)].toArray [TbX t n T] (fun r post => ∃ po co, r = .slice po (edgesT T).length co ∧ post = [RowO Kd.p2 84 po co (edgesT T), TbX t n T]) :=
  (Fn.exT (f' := fun a : TbI T => TbE t n a.1.1.1 a.1.1.2 a.1.2 ++ [AllO LkE a.1.2]) (Ψ := fun r M => ∃ po co, r = .slice po (edgesT T).length co ∧ M = [RowO Kd.p2 84 po co (edgesT T)]) (tbI0 T) (fun a => by
    obtain ⟨⟨⟨q, c⟩, es⟩, he⟩ := a
    obtain ⟨h1, h2, h3⟩ := h.es he
    have he : es.map E.abs = T := he
    subst he
    exact (tb_Edges t n q c es h2 h3 (by rw [prsN_abs]; exact hp)).mono fun r post ⟨po, co, e1, e2⟩ => ⟨⟨((q, c), es), rfl⟩, _, ⟨po, co, e1, rfl⟩, e2⟩)).mono fun r post ⟨M, ⟨po, co, h1, h2⟩, h3⟩ => ⟨po, co, h1, by rw [h3, h2]; rfl⟩
theorem tb_FreeX (t : Nat) (n : Int) (T : List Ent) (who : Int) (h : TOk T n) (hp : (T.flatMap (outT who)).length ≤ 1000000000) : Fn Tryz.prog 10 [.pointer (some ⟨t, 0, none⟩), .int .i64 who].toArray [TbX t n T] (fun r post => ∃ po co, r = .slice po (freeT T n who).1.length co ∧ post = [RowO (Kd.int .i64) 3 po co (freeT T n who).1, TbX t (freeT T n who).2.2 (freeT T n who).2.1]) :=
  (Fn.exT (f' := fun a : TbI (freeT T n who).2.1 => TbE t (freeT T n who).2.2 a.1.1.1 a.1.1.2 a.1.2 ++ [AllO LkE a.1.2]) (Ψ := fun r M => ∃ po co, r = .slice po (freeT T n who).1.length co ∧ M = [RowO (Kd.int .i64) 3 po co (freeT T n who).1]) (tbI0 T) (fun a => by
    obtain ⟨⟨⟨q, c⟩, es⟩, he⟩ := a
    obtain ⟨h1, h2, h3⟩ := h.es he
    have he : es.map E.abs = T := he
    subst he
    exact (tb_Free t n q c es who h2 h3 h.cnt (by rw [(free_abs es n who).1]; exact hp)).mono fun r post ⟨po, co, es', q', c', e1, e2, e3⟩ => ⟨⟨((q', c'), es'), e2⟩, _, ⟨po, co, e1, rfl⟩, e3⟩)).mono fun r post ⟨M, ⟨po, co, h1, h2⟩, h3⟩ => ⟨po, co, h1, by rw [h3, h2]; rfl⟩
theorem tb_WaitingX (t : Nat) (n : Int) (T : List Ent) (who : Int) (h : TOk T n) : Fn Tryz.prog 12 [.pointer (some ⟨t, 0, none⟩), .int .i64 who].toArray [TbX t n T] (fun r post => r = .tuple #[.agg (((waitT T who).map Ent.name).getD Nm.nil).cells.toArray, .bool (waitT T who).isSome] ∧ post = [TbX t n T]) :=
  (Fn.exT (f' := fun a : TbI T => TbE t n a.1.1.1 a.1.1.2 a.1.2 ++ [AllO LkE a.1.2]) (Ψ := fun r M => r = .tuple #[.agg (((waitT T who).map Ent.name).getD Nm.nil).cells.toArray, .bool (waitT T who).isSome] ∧ M = []) (tbI0 T) (fun a => by
    obtain ⟨⟨⟨q, c⟩, es⟩, he⟩ := a
    obtain ⟨h1, h2, h3⟩ := h.es he
    have he : es.map E.abs = T := he
    subst he
    exact (tb_Waiting t n q c es who h2 (Nat.le_trans h3 (by decide))).mono fun r post ⟨e1, e2⟩ => ⟨⟨((q, c), es), rfl⟩, [], ⟨by rw [e1, tWait_name, tWait_some], rfl⟩, e2⟩)).mono fun r post ⟨M, ⟨h1, h2⟩, h3⟩ => ⟨h1, by rw [h3, h2]; rfl⟩
end Go.Proofs.YtcpkcjabmookmaaGreat.L
