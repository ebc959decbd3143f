/- Walks: lists read. -/
import Derived.Test.YtlellgnklohclaaPD
namespace Go.Proofs.Ytlellgnklohclaa.L
open Go Go.Proofs
attribute [local irreducible] pv fv pt fz RowF RowO rowP old pure_ elA Rd.int Rd.text Rd.flag Rd.msg Rd.rint Rd.rtext Rd.rflag Rd.rmsg
set_option maxRecDepth 100000
set_option linter.unusedSimpArgs false
set_option linter.unusedVariables false
attribute [local irreducible] Rd.eff Rd.reff

theorem St.exG {ι : Type} {f : ι → List HP} {ρ : World} {L L' : List HP} {w : World} (i : ι) (g : Give L (f i) L') (h : St ρ L w) : St ρ (HP.ex f :: L') w := St.exI i (h.give g)
abbrev IR (p rb : Nat) (w : Bool) (q : Option Addr) (cap : Nat) (s : Rd) : List HP := pv p 117 [.pointer (some ⟨rb, 0, none⟩), .bool w] :: RdL rb q cap s
set_option maxHeartbeats 1600000 in
theorem im_list {α : Type} (R : List α → HP) (one : RwM α) (P : α → Prop) (N : Nat) (f : FuncId) (cs : List Value) (p rb : Nat) (hp : Prog one) (hP : ∀ s : RdW, s.1.bs.length ≤ N → P (one s).1)
    (hf : ∀ (q : Option Addr) (cap : Nat) (s : Rd) (w : Bool) (acc : List α), s.bs.length ≤ cap → s.f = false → Gs P N acc (s, w) → Fn Try.prog f cs.toArray (R acc :: IR p rb w q cap s) (fun v post => ∃ q' cap', v = .tuple #[] ∧ post = R (acc ++ [(one (s, w)).1]) :: IR p rb (one (s, w)).2.2 q' cap' (one (s, w)).2.1 ∧ (one (s, w)).2.1.bs.length ≤ cap'))
    (q : Option Addr) (cap : Nat) (s0 : Rd) (w0 : Bool) (hc : s0.bs.length ≤ cap) (hN : s0.bs.length ≤ N) :
    Fn Try.prog 90 [.pointer (some ⟨p, 0, none⟩), .func (.func f) #[] cs.toArray].toArray (R [] :: IR p rb w0 q cap s0)
      (fun v post => ∃ q' cap', v = .tuple #[] ∧ post = R (lsM one (s0, w0)).1 :: IR p rb (lsM one (s0, w0)).2.2 q' cap' (lsM one (s0, w0)).2.1 ∧ (lsM one (s0, w0)).2.1.bs.length ≤ cap') := by
  have hg0 := Gs.nil (P := P) (N := N) (s := (s0, w0)) hN
  have hrng := s0.int_rng
  have hls := lsM_eq one (s0, w0)
  dsimp only at hg0 hls
  refine Fn.enter (N := 37) Try.func90 rfl Try.ntmps90 (by kernel_rfl) rfl (fun ρ L => ?_)
  refine K.seq ?_
  refine K.region ?_
  refine KO.q rfl (q_move rfl) ?_
  refine KO.q rfl (q_nilCheck rfl) ?_
  refine KO.q rfl (q_field fo_117_0 rfl) ?_
  refine KO.q rfl (q_load1D ck_38 rfl) ?_
  refine KO.loud rfl (OpL.callD rfl (h := rd_Int _ _ _ _ (by assumption))) ?_
  rintro _ _ ⟨_, ⟨q1, c1, rfl, rfl, hc1⟩, rfl⟩
  refine KO.q rfl (q_assign rfl) ?_
  refine KO.done ?_
  refine K.seq ?_
  refine K.region ?_
  refine KO.q rfl (q_move rfl) ?_
  refine KO.q rfl (q_move rfl) ?_
  refine KO.q rfl (q_nilCheck rfl) ?_
  refine KO.q rfl (q_field fo_117_1 rfl) ?_
  refine KO.q rfl (q_load1D ck_4 rfl) ?_
  refine KO.q rfl (q_move rfl) ?_
  first | refine KO.dsplit 16 rfl (fun g16 => ?_) (fun g16 => ?_) | refine KO.split 16 rfl (fun g16 => ?_) (fun g16 => ?_)
  · obtain rfl : w0 = true := g16
    rw [Bool.true_or] at hls hg0
    refine KO.skip rfl ?_
    refine KO.skip rfl ?_
    refine KO.q rfl (q_pickT rfl rfl) ?_
    refine KO.q rfl (q_nilCheck rfl) ?_
    refine KO.q rfl (q_field fo_117_1 rfl) ?_
    refine KO.loudN rfl (l_store1 ck_4 rfl rfl rfl (by repeat (first | exact Pick.here | apply Pick.there)) (by repeat (first | exact SetAt.here | apply SetAt.there))) ?_
    rintro _ _ ⟨rfl, rfl⟩
    refine KO.done ?_
    refine K.seq ?_
    refine K.region ?_
    refine KO.q rfl (q_assign rfl) ?_
    refine KO.done ?_
    refine K.block ?_
    refine K.rounds2 (ι := { x : Nat × List α × Rd × Bool × Option Addr × Nat // x.1 ≤ s0.int.1.toNat ∧ x.2.2.1.bs.length ≤ x.2.2.2.2.2 ∧ Gs P N x.2.1 (x.2.2.1, x.2.2.2.1) ∧ lsM one (s0, _) = lsGo one (s0.int.1.toNat - x.1) x.2.1 (x.2.2.1, x.2.2.2.1) }) (fun x => [(5, .int .i64 x.1.1), (4, .int .i64 s0.int.1), (0, .pointer (some ⟨p, 0, none⟩)), (1, .func (.func f) #[] cs.toArray)]) (fun x => R x.1.2.1 :: IR p rb x.1.2.2.2.1 x.1.2.2.2.2.1 x.1.2.2.2.2.2 x.1.2.2.1 ++ L) (fun x => s0.int.1.toNat - x.1.1) ⟨(0, [], s0.int.2, _, q1, c1), Nat.zero_le _, hc1, hg0, hls⟩ (by repeat (first | exact Env.sub_nil _ | refine Env.sub_cons rfl ?_)) (fun w h => h.fitD) (fun x ih => ?_)
    obtain ⟨⟨i, acc, s, wf, q', cap'⟩, hi, hcs, hgs, hinv⟩ := x
    dsimp only at hi hcs hgs hinv ⊢
    refine K.seq <| K.seq ?_
    refine K.region ?_
    refine KO.q rfl (q_move rfl) ?_
    refine KO.q rfl (q_move rfl) ?_
    refine KO.q rfl (q_lt rfl rfl) ?_
    refine KO.q rfl (q_move rfl) ?_
    refine KO.dsplit 25 rfl (fun g25 => ?_) (fun g25 => ?_)
    · refine KO.q rfl (q_move rfl) ?_
      refine KO.q rfl (q_nilCheck rfl) ?_
      refine KO.q rfl (q_field fo_117_0 rfl) ?_
      refine KO.q rfl (q_load1D ck_38 rfl) ?_
      refine KO.loud rfl (OpL.callD rfl (h := rd_Failed _ _ _ _)) ?_
      rintro _ _ ⟨_, ⟨rfl, rfl⟩, rfl⟩
      refine KO.q rfl (q_not rfl) ?_
      refine KO.q rfl (q_pickT rfl rfl) ?_
      refine KO.done ?_
      refine K.bcond (s := 32) rfl (fun g32 => ?_) (fun g32 => ?_)
      · have hsf : s.f = false := by simpa using g32
        have hst := lsGo_succ one (s0.int.1.toNat - (i + 1)) acc (s, wf)
        rw [show s0.int.1.toNat - (i + 1) + 1 = s0.int.1.toNat - i by omega, if_neg (by simp [hsf])] at hst
        refine K.skip <| K.seq <| K.block ?_
        refine K.region ?_
        refine KO.q rfl (q_move rfl) ?_
        refine KO.loud rfl (OpL.callCG (first := []) (captured := cs) rfl rfl (by repeat (first | exact Give.nil | (apply Give.perI; (repeat (first | exact List.Mem.head _ | apply List.Mem.tail))) | (apply Give.own; (repeat (first | exact Pick.here | apply Pick.there))))) (hf q' cap' s wf acc hcs hsf hgs)) ?_
        rintro _ _ ⟨_, ⟨q2, c2, rfl, rfl, hc2⟩, rfl⟩
        refine KO.done ?_
        refine K.inBlock ?_
        refine K.region ?_
        refine KO.q rfl (q_move rfl) ?_
        refine KO.q rfl (q_add rfl rfl (by first | omega | (simp; omega)) (by first | omega | (simp; omega))) ?_
        refine KO.q rfl (q_assign rfl) ?_
        refine KO.done ?_
        refine K.weak ?_ ?_ (ih ⟨(i + 1, acc ++ [(one (s, wf)).1], (one (s, wf)).2.1, (one (s, wf)).2.2, q2, c2), ?_, hc2, hgs.step hp hP hsf, hinv.trans hst⟩ ?_)
        · exact (by repeat (first | exact Env.sub_nil _ | refine Env.sub_cons rfl ?_))
        · intro w h
          dsimp only
          exact h.fitD
        · show i + 1 ≤ s0.int.1.toNat
          omega
        · show s0.int.1.toNat - (i + 1) < s0.int.1.toNat - i
          omega
      · refine K.exit rfl ?_
        refine K.fin (fn := Try.f90) Try.func90 (fun a w hk hs => res0 Try.results90) (fun w hs => ?_)
        have hz : lsGo one (s0.int.1.toNat - i) acc (s, wf) = (acc, (s, wf)) := by
          first
            | exact lsGo_f _ _ _ _ (by simpa using g32)
            | (rw [show s0.int.1.toNat - i = 0 by omega]; exact lsGo_zero _ _ _)
        rw [hz] at hinv
        rw [hinv]
        exact ⟨_, R acc :: IR p rb wf q' cap' s, rfl, ⟨q', cap', rfl, rfl, hcs⟩, hs.fitD⟩
    · refine KO.skip rfl ?_
      refine KO.skip rfl ?_
      refine KO.skip rfl ?_
      refine KO.skip rfl ?_
      refine KO.skip rfl ?_
      refine KO.skip rfl ?_
      refine KO.q rfl (q_pickF rfl rfl) ?_
      refine KO.done ?_
      refine K.no rfl ?_
      refine K.exit rfl ?_
      refine K.fin (fn := Try.f90) Try.func90 (fun a w hk hs => res0 Try.results90) (fun w hs => ?_)
      have hz : lsGo one (s0.int.1.toNat - i) acc (s, wf) = (acc, (s, wf)) := by
        first
          | exact lsGo_f _ _ _ _ (by simpa using g32)
          | (rw [show s0.int.1.toNat - i = 0 by omega]; exact lsGo_zero _ _ _)
      rw [hz] at hinv
      rw [hinv]
      exact ⟨_, R acc :: IR p rb wf q' cap' s, rfl, ⟨q', cap', rfl, rfl, hcs⟩, hs.fitD⟩
  · obtain rfl : w0 = false := g16
    rw [Bool.false_or] at hls hg0
    refine KO.q rfl (q_move rfl) ?_
    refine KO.q rfl (q_lt rfl rfl) ?_
    refine KO.q rfl (q_pickF rfl rfl) ?_
    refine KO.q rfl (q_nilCheck rfl) ?_
    refine KO.q rfl (q_field fo_117_1 rfl) ?_
    refine KO.loudN rfl (l_store1 ck_4 rfl rfl rfl (by repeat (first | exact Pick.here | apply Pick.there)) (by repeat (first | exact SetAt.here | apply SetAt.there))) ?_
    rintro _ _ ⟨rfl, rfl⟩
    refine KO.done ?_
    refine K.seq ?_
    refine K.region ?_
    refine KO.q rfl (q_assign rfl) ?_
    refine KO.done ?_
    refine K.block ?_
    refine K.rounds2 (ι := { x : Nat × List α × Rd × Bool × Option Addr × Nat // x.1 ≤ s0.int.1.toNat ∧ x.2.2.1.bs.length ≤ x.2.2.2.2.2 ∧ Gs P N x.2.1 (x.2.2.1, x.2.2.2.1) ∧ lsM one (s0, _) = lsGo one (s0.int.1.toNat - x.1) x.2.1 (x.2.2.1, x.2.2.2.1) }) (fun x => [(5, .int .i64 x.1.1), (4, .int .i64 s0.int.1), (0, .pointer (some ⟨p, 0, none⟩)), (1, .func (.func f) #[] cs.toArray)]) (fun x => R x.1.2.1 :: IR p rb x.1.2.2.2.1 x.1.2.2.2.2.1 x.1.2.2.2.2.2 x.1.2.2.1 ++ L) (fun x => s0.int.1.toNat - x.1.1) ⟨(0, [], s0.int.2, _, q1, c1), Nat.zero_le _, hc1, hg0, hls⟩ (by repeat (first | exact Env.sub_nil _ | refine Env.sub_cons rfl ?_)) (fun w h => h.fitD) (fun x ih => ?_)
    obtain ⟨⟨i, acc, s, wf, q', cap'⟩, hi, hcs, hgs, hinv⟩ := x
    dsimp only at hi hcs hgs hinv ⊢
    refine K.seq <| K.seq ?_
    refine K.region ?_
    refine KO.q rfl (q_move rfl) ?_
    refine KO.q rfl (q_move rfl) ?_
    refine KO.q rfl (q_lt rfl rfl) ?_
    refine KO.q rfl (q_move rfl) ?_
    refine KO.dsplit 25 rfl (fun g25 => ?_) (fun g25 => ?_)
    · refine KO.q rfl (q_move rfl) ?_
      refine KO.q rfl (q_nilCheck rfl) ?_
      refine KO.q rfl (q_field fo_117_0 rfl) ?_
      refine KO.q rfl (q_load1D ck_38 rfl) ?_
      refine KO.loud rfl (OpL.callD rfl (h := rd_Failed _ _ _ _)) ?_
      rintro _ _ ⟨_, ⟨rfl, rfl⟩, rfl⟩
      refine KO.q rfl (q_not rfl) ?_
      refine KO.q rfl (q_pickT rfl rfl) ?_
      refine KO.done ?_
      refine K.bcond (s := 32) rfl (fun g32 => ?_) (fun g32 => ?_)
      · have hsf : s.f = false := by simpa using g32
        have hst := lsGo_succ one (s0.int.1.toNat - (i + 1)) acc (s, wf)
        rw [show s0.int.1.toNat - (i + 1) + 1 = s0.int.1.toNat - i by omega, if_neg (by simp [hsf])] at hst
        refine K.skip <| K.seq <| K.block ?_
        refine K.region ?_
        refine KO.q rfl (q_move rfl) ?_
        refine KO.loud rfl (OpL.callCG (first := []) (captured := cs) rfl rfl (by repeat (first | exact Give.nil | (apply Give.perI; (repeat (first | exact List.Mem.head _ | apply List.Mem.tail))) | (apply Give.own; (repeat (first | exact Pick.here | apply Pick.there))))) (hf q' cap' s wf acc hcs hsf hgs)) ?_
        rintro _ _ ⟨_, ⟨q2, c2, rfl, rfl, hc2⟩, rfl⟩
        refine KO.done ?_
        refine K.inBlock ?_
        refine K.region ?_
        refine KO.q rfl (q_move rfl) ?_
        refine KO.q rfl (q_add rfl rfl (by first | omega | (simp; omega)) (by first | omega | (simp; omega))) ?_
        refine KO.q rfl (q_assign rfl) ?_
        refine KO.done ?_
        refine K.weak ?_ ?_ (ih ⟨(i + 1, acc ++ [(one (s, wf)).1], (one (s, wf)).2.1, (one (s, wf)).2.2, q2, c2), ?_, hc2, hgs.step hp hP hsf, hinv.trans hst⟩ ?_)
        · exact (by repeat (first | exact Env.sub_nil _ | refine Env.sub_cons rfl ?_))
        · intro w h
          dsimp only
          exact h.fitD
        · show i + 1 ≤ s0.int.1.toNat
          omega
        · show s0.int.1.toNat - (i + 1) < s0.int.1.toNat - i
          omega
      · refine K.exit rfl ?_
        refine K.fin (fn := Try.f90) Try.func90 (fun a w hk hs => res0 Try.results90) (fun w hs => ?_)
        have hz : lsGo one (s0.int.1.toNat - i) acc (s, wf) = (acc, (s, wf)) := by
          first
            | exact lsGo_f _ _ _ _ (by simpa using g32)
            | (rw [show s0.int.1.toNat - i = 0 by omega]; exact lsGo_zero _ _ _)
        rw [hz] at hinv
        rw [hinv]
        exact ⟨_, R acc :: IR p rb wf q' cap' s, rfl, ⟨q', cap', rfl, rfl, hcs⟩, hs.fitD⟩
    · refine KO.skip rfl ?_
      refine KO.skip rfl ?_
      refine KO.skip rfl ?_
      refine KO.skip rfl ?_
      refine KO.skip rfl ?_
      refine KO.skip rfl ?_
      refine KO.q rfl (q_pickF rfl rfl) ?_
      refine KO.done ?_
      refine K.no rfl ?_
      refine K.exit rfl ?_
      refine K.fin (fn := Try.f90) Try.func90 (fun a w hk hs => res0 Try.results90) (fun w hs => ?_)
      have hz : lsGo one (s0.int.1.toNat - i) acc (s, wf) = (acc, (s, wf)) := by
        first
          | exact lsGo_f _ _ _ _ (by simpa using g32)
          | (rw [show s0.int.1.toNat - i = 0 by omega]; exact lsGo_zero _ _ _)
      rw [hz] at hinv
      rw [hinv]
      exact ⟨_, R acc :: IR p rb wf q' cap' s, rfl, ⟨q', cap', rfl, rfl, hcs⟩, hs.fitD⟩
end Go.Proofs.Ytlellgnklohclaa.L
