/- Walks: changes read, by the program and by the document. -/
import Derived.Test.YtlellgnklohclaaE2
import Derived.Test.YtlellgnklohclaaE2r
import Derived.Test.YtlellgnklohclaaEP
import Derived.Test.YtlellgnklohclaaOps12
namespace Go.Proofs.Ytlellgnklohclaa.L
open Go Go.Proofs
attribute [local irreducible] pv fv pt fz RowF RowO rowP old pure_ elA Rd.int Rd.text Rd.flag Rd.msg Rd.rint Rd.rtext Rd.rflag Rd.rmsg
set_option maxRecDepth 100000
set_option linter.unusedSimpArgs false
set_option linter.unusedVariables false

--%kd uint8 Kd.u8
--%call poste/effect.read := eff_read _ _ _ _ (by assumption) !! ⟨_, ⟨q#, c#, rfl, rfl, hc#⟩, rfl⟩
set_option maxHeartbeats 800000 in
theorem eff_read (p : Nat) (q : Option Addr) (cap : Nat) (s : Rd) (hc : s.bs.length ≤ cap) : Fn Try.prog 82 [.pointer (some ⟨p, 0, none⟩)].toArray (RdL p q cap s)
    (fun r post => ∃ q' cap', r = .agg s.eff.1.cells.toArray ∧ post = RdL p q' cap' s.eff.2 ∧ s.eff.2.bs.length ≤ cap') := by
  refine Fn.enter (N := 29) Try.func82 rfl Try.ntmps82 (by kernel_rfl) rfl (fun ρ L => ?_)
  repeat (first | refine K.seq ?_ | refine K.skip ?_ | refine K.block ?_ | refine K.inBlock ?_ | refine K.label ?_)
  refine K.region ?_
  refine KO.loud rfl (l_alloc zo_63) ?_
  rintro _ _ ⟨b2, rfl, rfl⟩
  refine KO.done ?_
  repeat (first | refine K.seq ?_ | refine K.skip ?_ | refine K.block ?_ | refine K.inBlock ?_ | refine K.label ?_)
  refine K.region ?_
  refine KO.q rfl (q_move rfl) ?_
  refine KO.loud rfl (OpL.callG rfl (by repeat (first | exact Give.nil | (apply Give.perI; (repeat (first | exact List.Mem.head _ | apply List.Mem.tail))) | (apply Give.own; (repeat (first | exact Pick.here | apply Pick.there))))) (rd_Int _ _ _ _ (by assumption))) ?_
  rintro _ _ ⟨_, ⟨q1, c1, rfl, rfl, hc1⟩, rfl⟩
  refine KO.q rfl (q_as_eff (q_build st_63 rfl (by repeat (first | exact Fill.nil | (apply Fill.cons; rfl; rfl; rfl) | exact SetN.nil | apply SetN.cons | exact SetAt.here | apply SetAt.there))) (by rfl)) ?_
  refine KO.loud rfl (l_alloc zo_63) ?_
  rintro _ _ ⟨b3, rfl, rfl⟩
  refine KO.loudN rfl (l_storeAll ck_63 rfl rfl ⟨rfl, rfl⟩ (eff_one _) (by repeat (first | exact Pick.here | apply Pick.there))) ?_
  rintro _ _ ⟨rfl, rfl⟩
  refine KO.done ?_
  repeat (first | refine K.seq ?_ | refine K.skip ?_ | refine K.block ?_ | refine K.inBlock ?_ | refine K.label ?_)
  refine K.region ?_
  refine KO.q rfl (q_move rfl) ?_
  refine KO.loud rfl (OpL.callG rfl (by repeat (first | exact Give.nil | (apply Give.perI; (repeat (first | exact List.Mem.head _ | apply List.Mem.tail))) | (apply Give.own; (repeat (first | exact Pick.here | apply Pick.there))))) (rd_Text _ _ _ _ (by assumption))) ?_
  rintro _ _ ⟨_, ⟨q2, c2, rfl, rfl, hc2⟩, rfl⟩
  refine KO.q rfl (q_field fo_63_1 rfl) ?_
  refine KO.loudN rfl (l_store1 ck_9 rfl rfl rfl (by repeat (first | exact Pick.here | apply Pick.there)) (by repeat (first | exact SetAt.here | apply SetAt.there))) ?_
  rintro _ _ ⟨rfl, rfl⟩
  refine KO.done ?_
  repeat (first | refine K.seq ?_ | refine K.skip ?_ | refine K.block ?_ | refine K.inBlock ?_ | refine K.label ?_)
  refine K.region ?_
  refine KO.q rfl (q_move rfl) ?_
  refine KO.loud rfl (OpL.callG rfl (by repeat (first | exact Give.nil | (apply Give.perI; (repeat (first | exact List.Mem.head _ | apply List.Mem.tail))) | (apply Give.own; (repeat (first | exact Pick.here | apply Pick.there))))) (rd_Text _ _ _ _ (by assumption))) ?_
  rintro _ _ ⟨_, ⟨q3, c3, rfl, rfl, hc3⟩, rfl⟩
  refine KO.q rfl (q_field fo_63_2 rfl) ?_
  refine KO.loudN rfl (l_store1 ck_9 rfl rfl rfl (by repeat (first | exact Pick.here | apply Pick.there)) (by repeat (first | exact SetAt.here | apply SetAt.there))) ?_
  rintro _ _ ⟨rfl, rfl⟩
  refine KO.done ?_
  repeat (first | refine K.seq ?_ | refine K.skip ?_ | refine K.block ?_ | refine K.inBlock ?_ | refine K.label ?_)
  refine K.region ?_
  refine KO.q rfl (q_move rfl) ?_
  refine KO.loud rfl (OpL.callG rfl (by repeat (first | exact Give.nil | (apply Give.perI; (repeat (first | exact List.Mem.head _ | apply List.Mem.tail))) | (apply Give.own; (repeat (first | exact Pick.here | apply Pick.there))))) (rd_Text _ _ _ _ (by assumption))) ?_
  rintro _ _ ⟨_, ⟨q4, c4, rfl, rfl, hc4⟩, rfl⟩
  refine KO.q rfl (q_field fo_63_3 rfl) ?_
  refine KO.loudN rfl (l_store1 ck_9 rfl rfl rfl (by repeat (first | exact Pick.here | apply Pick.there)) (by repeat (first | exact SetAt.here | apply SetAt.there))) ?_
  rintro _ _ ⟨rfl, rfl⟩
  refine KO.done ?_
  repeat (first | refine K.seq ?_ | refine K.skip ?_ | refine K.block ?_ | refine K.inBlock ?_ | refine K.label ?_)
  refine K.region ?_
  refine KO.q rfl (q_move rfl) ?_
  refine KO.loud rfl (OpL.callG rfl (by repeat (first | exact Give.nil | (apply Give.perI; (repeat (first | exact List.Mem.head _ | apply List.Mem.tail))) | (apply Give.own; (repeat (first | exact Pick.here | apply Pick.there))))) (rd_Int _ _ _ _ (by assumption))) ?_
  rintro _ _ ⟨_, ⟨q5, c5, rfl, rfl, hc5⟩, rfl⟩
  refine KO.q rfl (q_field fo_63_4 rfl) ?_
  refine KO.loudN rfl (l_store1 ck_3 rfl rfl rfl (by repeat (first | exact Pick.here | apply Pick.there)) (by repeat (first | exact SetAt.here | apply SetAt.there))) ?_
  rintro _ _ ⟨rfl, rfl⟩
  refine KO.done ?_
  repeat (first | refine K.seq ?_ | refine K.skip ?_ | refine K.block ?_ | refine K.inBlock ?_ | refine K.label ?_)
  refine K.region ?_
  refine KO.q rfl (q_move rfl) ?_
  refine KO.loud rfl (OpL.callG rfl (by repeat (first | exact Give.nil | (apply Give.perI; (repeat (first | exact List.Mem.head _ | apply List.Mem.tail))) | (apply Give.own; (repeat (first | exact Pick.here | apply Pick.there))))) (rd_Int _ _ _ _ (by assumption))) ?_
  rintro _ _ ⟨_, ⟨q6, c6, rfl, rfl, hc6⟩, rfl⟩
  refine KO.q rfl (q_field fo_63_5 rfl) ?_
  refine KO.loudN rfl (l_store1 ck_3 rfl rfl rfl (by repeat (first | exact Pick.here | apply Pick.there)) (by repeat (first | exact SetAt.here | apply SetAt.there))) ?_
  rintro _ _ ⟨rfl, rfl⟩
  refine KO.done ?_
  repeat (first | refine K.seq ?_ | refine K.skip ?_ | refine K.block ?_ | refine K.inBlock ?_ | refine K.label ?_)
  refine K.region ?_
  refine KO.q rfl (q_move rfl) ?_
  refine KO.loud rfl (OpL.callG rfl (by repeat (first | exact Give.nil | (apply Give.perI; (repeat (first | exact List.Mem.head _ | apply List.Mem.tail))) | (apply Give.own; (repeat (first | exact Pick.here | apply Pick.there))))) (rd_Flag _ _ _ _ (by assumption))) ?_
  rintro _ _ ⟨_, ⟨q7, c7, rfl, rfl, hc7⟩, rfl⟩
  refine KO.q rfl (q_field fo_63_6 rfl) ?_
  refine KO.loudN rfl (l_store1 ck_4 rfl rfl rfl (by repeat (first | exact Pick.here | apply Pick.there)) (by repeat (first | exact SetAt.here | apply SetAt.there))) ?_
  rintro _ _ ⟨rfl, rfl⟩
  refine KO.done ?_
  repeat (first | refine K.seq ?_ | refine K.skip ?_ | refine K.block ?_ | refine K.inBlock ?_ | refine K.label ?_)
  refine K.region ?_
  refine KO.q rfl (q_move rfl) ?_
  refine KO.loud rfl (OpL.callG rfl (by repeat (first | exact Give.nil | (apply Give.perI; (repeat (first | exact List.Mem.head _ | apply List.Mem.tail))) | (apply Give.own; (repeat (first | exact Pick.here | apply Pick.there))))) (msg_Read _ _ _ _ (by assumption))) ?_
  rintro _ _ ⟨_, ⟨q8, c8, rfl, rfl, hc8⟩, rfl⟩
  refine KO.q rfl (q_field fo_63_7 rfl) ?_
  refine KO.loudN rfl (l_storeN ck_24 rfl rfl rfl (msg_one _) (by repeat (first | exact Pick.here | apply Pick.there)) (by repeat (first | exact SetN.nil | apply SetN.cons | exact SetAt.here | apply SetAt.there))) ?_
  rintro _ _ ⟨rfl, rfl⟩
  refine KO.done ?_
  repeat (first | refine K.seq ?_ | refine K.skip ?_ | refine K.block ?_ | refine K.inBlock ?_ | refine K.label ?_)
  refine K.region ?_
  refine KO.q rfl (q_as_eff (q_loadN ck_63 rfl rfl (by first | (apply cells_pv; (repeat (first | exact List.Mem.head _ | apply List.Mem.tail))) | (apply cells_fv; (repeat (first | exact List.Mem.head _ | apply List.Mem.tail))))) (by rfl)) ?_
  refine KO.loudN rfl (l_storeAll ck_63 rfl rfl ⟨rfl, rfl⟩ (eff_one _) (by repeat (first | exact Pick.here | apply Pick.there))) ?_
  rintro _ _ ⟨rfl, rfl⟩
  refine KO.done ?_
  refine K.ret (fn := Try.f82) Try.func82 (fun a w hk hs => resC Try.results82 hk rfl ck_63 rfl (cells_pv (by repeat (first | exact List.Mem.head _ | apply List.Mem.tail)) w hs)) (fun w hs => ?_)
  exact ⟨_, RdL p q8 c8 s.eff.2, rfl, ⟨q8, c8, rfl, rfl, hc8⟩, hs.fit (by repeat (first | exact Give.nil | (apply Give.perI; (repeat (first | exact List.Mem.head _ | apply List.Mem.tail))) | (apply Give.own; (repeat (first | exact Pick.here | apply Pick.there))))) (by repeat (first | exact Drop.refl | apply Drop.skip))⟩
theorem reff_fold (s : Rd) : (⟨s.rint.1, s.rint.2.rtext.1, s.rint.2.rtext.2.rtext.1, s.rint.2.rtext.2.rtext.2.rtext.1, s.rint.2.rtext.2.rtext.2.rtext.2.rint.1, s.rint.2.rtext.2.rtext.2.rtext.2.rint.2.rint.1, s.rint.2.rtext.2.rtext.2.rtext.2.rint.2.rint.2.rflag.1, s.rint.2.rtext.2.rtext.2.rtext.2.rint.2.rint.2.rflag.2.rmsg.1⟩ : Eff) = s.reff.1 := rfl
theorem reff_fold2 (s : Rd) : s.rint.2.rtext.2.rtext.2.rtext.2.rint.2.rint.2.rflag.2.rmsg.2 = s.reff.2 := rfl
attribute [local irreducible] Rd.eff Rd.reff
set_option maxHeartbeats 800000 in
theorem eff_Read (q : Option Addr) (cap : Nat) (bs : List UInt8) (hb : bs.length ≤ 1099511627776) : Fn Try.prog 49 [.slice q bs.length cap].toArray [RowF Kd.u8 q bs]
    (fun r post => ∃ q' cap', r = .tuple #[.slice q' ((effRead bs).getD []).length cap', .int .i64 (if (effRead bs).isSome then 0 else 11)] ∧ post = [RowF Kd.eff q' ((effRead bs).getD [])] ∧ ((effRead bs).getD []).length ≤ cap') := by
  obtain ⟨n0, s0, ha⟩ : ∃ n0 s0, Rd.int ⟨bs, false⟩ = (n0, s0) := ⟨_, _, rfl⟩
  refine Fn.enter (N := 43) Try.func49 rfl Try.ntmps49 (by kernel_rfl) rfl (fun ρ L => ?_)
  repeat (first | refine K.seq ?_ | refine K.skip ?_ | refine K.block ?_ | refine K.inBlock ?_ | refine K.label ?_)
  refine K.region ?_
  refine KO.q rfl (q_assign rfl) ?_
  refine KO.q rfl (q_assign rfl) ?_
  refine KO.done ?_
  repeat (first | refine K.seq ?_ | refine K.skip ?_ | refine K.block ?_ | refine K.inBlock ?_ | refine K.label ?_)
  refine K.region ?_
  refine KO.q rfl (q_move rfl) ?_
  refine KO.loud rfl (OpL.callG rfl (by repeat (first | exact Give.nil | (apply Give.perI; (repeat (first | exact List.Mem.head _ | apply List.Mem.tail))) | (apply Give.own; (repeat (first | exact Pick.here | apply Pick.there))))) (rd_New _ _ _ (by first | omega | (simp; omega)))) ?_
  rintro _ _ ⟨_, ⟨p1, q1, c1, rfl, rfl, hc1⟩, rfl⟩
  refine KO.q rfl (q_assign rfl) ?_
  refine KO.done ?_
  repeat (first | refine K.seq ?_ | refine K.skip ?_ | refine K.block ?_ | refine K.inBlock ?_ | refine K.label ?_)
  refine K.region ?_
  refine KO.q rfl (q_move rfl) ?_
  refine KO.loud rfl (OpL.callG rfl (by repeat (first | exact Give.nil | (apply Give.perI; (repeat (first | exact List.Mem.head _ | apply List.Mem.tail))) | (apply Give.own; (repeat (first | exact Pick.here | apply Pick.there))))) (rd_Int _ _ _ _ (by assumption))) ?_
  rintro _ _ ⟨_, ⟨q2, c2, rfl, rfl, hc2⟩, rfl⟩
  refine KO.q rfl (q_assign rfl) ?_
  refine KO.done ?_
  simp only [ha] at hc2 ⊢
  repeat (first | refine K.seq ?_ | refine K.skip ?_ | refine K.block ?_ | refine K.inBlock ?_ | refine K.label ?_)
  refine K.region ?_
  refine KO.q rfl (q_move rfl) ?_
  refine KO.loud rfl (OpL.callG rfl (by repeat (first | exact Give.nil | (apply Give.perI; (repeat (first | exact List.Mem.head _ | apply List.Mem.tail))) | (apply Give.own; (repeat (first | exact Pick.here | apply Pick.there))))) (rd_Failed _ _ _ _)) ?_
  rintro _ _ ⟨_, ⟨rfl, rfl⟩, rfl⟩
  refine KO.q rfl (q_move rfl) ?_
  refine KO.split 14 rfl (fun g14 => ?_) (fun g14 => ?_)
  · refine KO.skip rfl ?_
    refine KO.skip rfl ?_
    refine KO.q rfl (q_pickT rfl rfl) ?_
    refine KO.q rfl (q_move rfl) ?_
    refine KO.skip rfl ?_
    refine KO.skip rfl ?_
    refine KO.q rfl (q_pickT rfl rfl) ?_
    refine KO.done ?_
    refine K.yes rfl ?_
    repeat (first | refine K.seq ?_ | refine K.skip ?_ | refine K.block ?_ | refine K.inBlock ?_ | refine K.label ?_)
    have hr : effRead bs = none := by rw [effRead_of ha, if_pos (by simp [*])]
    refine K.region ?_
    refine KO.q rfl (q_assign rfl) ?_
    refine KO.q rfl (q_assign rfl) ?_
    refine KO.done ?_
    refine K.ret (fn := Try.f49) Try.func49 (fun a w hk hs => res2 Try.results49 hk rfl rfl) (fun w hs => ?_)
    rw [hr]
    first
      | exact ⟨_, [RowF Kd.eff none []], rfl, ⟨none, 0, rfl, rfl, Nat.le_refl _⟩, (rowF_nil (k := Kd.eff) none hs).fit (by repeat (first | exact Give.nil | (apply Give.perI; (repeat (first | exact List.Mem.head _ | apply List.Mem.tail))) | (apply Give.own; (repeat (first | exact Pick.here | apply Pick.there))))) (by repeat (first | exact Drop.refl | apply Drop.skip))⟩
      | exact ⟨_, [RowF Kd.eff p2 acc], rfl, ⟨p2, cap2, rfl, rfl, hcap⟩, hs.fit (by repeat (first | exact Give.nil | (apply Give.perI; (repeat (first | exact List.Mem.head _ | apply List.Mem.tail))) | (apply Give.own; (repeat (first | exact Pick.here | apply Pick.there))))) (by repeat (first | exact Drop.refl | apply Drop.skip))⟩
  · refine KO.q rfl (q_move rfl) ?_
    refine KO.q rfl (q_lt rfl rfl) ?_
    refine KO.q rfl (q_pickF rfl rfl) ?_
    refine KO.q rfl (q_move rfl) ?_
    refine KO.dsplit 18 rfl (fun g18 => ?_) (fun g18 => ?_)
    · refine KO.skip rfl ?_
      refine KO.skip rfl ?_
      refine KO.q rfl (q_pickT rfl rfl) ?_
      refine KO.done ?_
      refine K.yes rfl ?_
      repeat (first | refine K.seq ?_ | refine K.skip ?_ | refine K.block ?_ | refine K.inBlock ?_ | refine K.label ?_)
      have hr : effRead bs = none := by rw [effRead_of ha, if_pos (by simp [*])]
      refine K.region ?_
      refine KO.q rfl (q_assign rfl) ?_
      refine KO.q rfl (q_assign rfl) ?_
      refine KO.done ?_
      refine K.ret (fn := Try.f49) Try.func49 (fun a w hk hs => res2 Try.results49 hk rfl rfl) (fun w hs => ?_)
      rw [hr]
      first
        | exact ⟨_, [RowF Kd.eff none []], rfl, ⟨none, 0, rfl, rfl, Nat.le_refl _⟩, (rowF_nil (k := Kd.eff) none hs).fit (by repeat (first | exact Give.nil | (apply Give.perI; (repeat (first | exact List.Mem.head _ | apply List.Mem.tail))) | (apply Give.own; (repeat (first | exact Pick.here | apply Pick.there))))) (by repeat (first | exact Drop.refl | apply Drop.skip))⟩
        | exact ⟨_, [RowF Kd.eff p2 acc], rfl, ⟨p2, cap2, rfl, rfl, hcap⟩, hs.fit (by repeat (first | exact Give.nil | (apply Give.perI; (repeat (first | exact List.Mem.head _ | apply List.Mem.tail))) | (apply Give.own; (repeat (first | exact Pick.here | apply Pick.there))))) (by repeat (first | exact Drop.refl | apply Drop.skip))⟩
    · refine KO.q rfl (q_move rfl) ?_
      refine KO.q rfl (q_gt rfl rfl) ?_
      refine KO.q rfl (q_pickF rfl rfl) ?_
      refine KO.done ?_
      refine K.dcond (s := 21) rfl (fun g21 => ?_) (fun g21 => ?_)
      · repeat (first | refine K.seq ?_ | refine K.skip ?_ | refine K.block ?_ | refine K.inBlock ?_ | refine K.label ?_)
        have hr : effRead bs = none := by rw [effRead_of ha, if_pos (by simp [*])]
        refine K.region ?_
        refine KO.q rfl (q_assign rfl) ?_
        refine KO.q rfl (q_assign rfl) ?_
        refine KO.done ?_
        refine K.ret (fn := Try.f49) Try.func49 (fun a w hk hs => res2 Try.results49 hk rfl rfl) (fun w hs => ?_)
        rw [hr]
        first
          | exact ⟨_, [RowF Kd.eff none []], rfl, ⟨none, 0, rfl, rfl, Nat.le_refl _⟩, (rowF_nil (k := Kd.eff) none hs).fit (by repeat (first | exact Give.nil | (apply Give.perI; (repeat (first | exact List.Mem.head _ | apply List.Mem.tail))) | (apply Give.own; (repeat (first | exact Pick.here | apply Pick.there))))) (by repeat (first | exact Drop.refl | apply Drop.skip))⟩
          | exact ⟨_, [RowF Kd.eff p2 acc], rfl, ⟨p2, cap2, rfl, rfl, hcap⟩, hs.fit (by repeat (first | exact Give.nil | (apply Give.perI; (repeat (first | exact List.Mem.head _ | apply List.Mem.tail))) | (apply Give.own; (repeat (first | exact Pick.here | apply Pick.there))))) (by repeat (first | exact Drop.refl | apply Drop.skip))⟩
      · repeat (first | refine K.seq ?_ | refine K.skip ?_ | refine K.block ?_ | refine K.inBlock ?_ | refine K.label ?_)
        refine K.region ?_
        refine KO.q rfl (q_assign rfl) ?_
        refine KO.done ?_
        repeat (first | refine K.seq ?_ | refine K.skip ?_ | refine K.block ?_ | refine K.inBlock ?_ | refine K.label ?_)
        have hc : ¬ (s0.f = true ∨ n0 < 0 ∨ 10000 < n0) := by
          rintro (h | h | h)
          · simp_all
          · omega
          · omega
        have hr0 := effRead_of ha
        rw [if_neg hc] at hr0
        obtain ⟨n, rfl⟩ : ∃ n : Nat, n0 = n := ⟨n0.toNat, by omega⟩
        rw [Int.toNat_natCast] at hr0
        refine K.st (fun w h => rowO_nil (k := Kd.eff) 63 h) ?_
        refine K.region ?_
        refine KO.q rfl (q_move rfl) ?_
        refine KO.q rfl (q_move rfl) ?_
        refine KO.done ?_
        repeat (first | refine K.seq ?_ | refine K.skip ?_ | refine K.block ?_ | refine K.inBlock ?_ | refine K.label ?_)
        refine K.rounds2 (ι := { x : Nat × List Eff × Rd × Option Addr × Nat × Option Addr × Nat // x.1 ≤ n ∧ x.2.1.length = x.1 ∧ x.2.2.1.bs.length ≤ x.2.2.2.2.1 ∧ Rd.effs n s0 = ((Rd.effs (n - x.1) x.2.2.1).1.map (x.2.1 ++ ·), (Rd.effs (n - x.1) x.2.2.1).2) }) (fun x => [(23, .int .i64 x.1.1), (22, .int .i64 n), (6, .slice x.1.2.2.2.2.2.1 x.1.2.1.length x.1.2.2.2.2.2.2), (4, .pointer (some ⟨p1, 0, none⟩))]) (fun x => RdL p1 x.1.2.2.2.1 x.1.2.2.2.2.1 x.1.2.2.1 ++ [RowO Kd.eff 63 x.1.2.2.2.2.2.1 x.1.2.2.2.2.2.2 x.1.2.1] ++ L) (fun x => n - x.1.1) ⟨(0, [], s0, q2, c2, none, 0), Nat.zero_le _, rfl, hc2, by simp⟩ (by repeat (first | exact Env.sub_nil _ | refine Env.sub_cons rfl ?_)) (fun w h => h.fit (by repeat (first | exact Give.nil | (apply Give.perI; (repeat (first | exact List.Mem.head _ | apply List.Mem.tail))) | (apply Give.own; (repeat (first | exact Pick.here | apply Pick.there))))) (by repeat (first | exact Drop.refl | apply Drop.skip))) (fun x ih => ?_)
        obtain ⟨⟨i, acc, s, q', c', p2, cap2⟩, hi, hl, hcs, hinv⟩ := x
        dsimp only at hi hl hcs hinv ⊢
        repeat (first | refine K.seq ?_ | refine K.skip ?_ | refine K.block ?_ | refine K.inBlock ?_ | refine K.label ?_)
        refine K.region ?_
        refine KO.q rfl (q_lt rfl rfl) ?_
        refine KO.done ?_
        repeat (first | refine K.seq ?_ | refine K.skip ?_ | refine K.block ?_ | refine K.inBlock ?_ | refine K.label ?_)
        refine K.dcond (s := 24) rfl (fun g24 => ?_) (fun g24 => ?_)
        · have hst := effs_succ (n - (i + 1)) s
          rw [show n - (i + 1) + 1 = n - i by omega] at hst
          repeat (first | refine K.seq ?_ | refine K.skip ?_ | refine K.block ?_ | refine K.inBlock ?_ | refine K.label ?_)
          refine K.region ?_
          refine KO.q rfl (q_move rfl) ?_
          refine KO.loud rfl (OpL.callG rfl (by repeat (first | exact Give.nil | (apply Give.perI; (repeat (first | exact List.Mem.head _ | apply List.Mem.tail))) | (apply Give.own; (repeat (first | exact Pick.here | apply Pick.there))))) (eff_read _ _ _ _ (by assumption))) ?_
          rintro _ _ ⟨_, ⟨q4, c4, rfl, rfl, hc4⟩, rfl⟩
          refine KO.loud rfl (l_alloc zo_63) ?_
          rintro _ _ ⟨b7, rfl, rfl⟩
          refine KO.loudN rfl (l_storeAll ck_63 rfl rfl ⟨rfl, rfl⟩ (eff_one _) (by repeat (first | exact Pick.here | apply Pick.there))) ?_
          rintro _ _ ⟨rfl, rfl⟩
          refine KO.done ?_
          repeat (first | refine K.seq ?_ | refine K.skip ?_ | refine K.block ?_ | refine K.inBlock ?_ | refine K.label ?_)
          refine K.region ?_
          refine KO.q rfl (q_move rfl) ?_
          refine KO.loud rfl (OpL.callG rfl (by repeat (first | exact Give.nil | (apply Give.perI; (repeat (first | exact List.Mem.head _ | apply List.Mem.tail))) | (apply Give.own; (repeat (first | exact Pick.here | apply Pick.there))))) (rd_Failed _ _ _ _)) ?_
          rintro _ _ ⟨_, ⟨rfl, rfl⟩, rfl⟩
          refine KO.q rfl (q_move rfl) ?_
          refine KO.split 29 rfl (fun g29 => ?_) (fun g29 => ?_)
          · refine KO.skip rfl ?_
            refine KO.skip rfl ?_
            refine KO.skip rfl ?_
            refine KO.q rfl (q_pickT rfl rfl) ?_
            refine KO.done ?_
            refine K.yes rfl ?_
            repeat (first | refine K.seq ?_ | refine K.skip ?_ | refine K.block ?_ | refine K.inBlock ?_ | refine K.label ?_)
            have hr : effRead bs = none := by
              rw [hr0, hinv, hst, if_pos (by simp [*])]
              rfl
            refine K.region ?_
            refine KO.q rfl (q_assign rfl) ?_
            refine KO.q rfl (q_assign rfl) ?_
            refine KO.done ?_
            refine K.ret (fn := Try.f49) Try.func49 (fun a w hk hs => res2 Try.results49 hk rfl rfl) (fun w hs => ?_)
            rw [hr]
            first
              | exact ⟨_, [RowF Kd.eff none []], rfl, ⟨none, 0, rfl, rfl, Nat.le_refl _⟩, (rowF_nil (k := Kd.eff) none hs).fit (by repeat (first | exact Give.nil | (apply Give.perI; (repeat (first | exact List.Mem.head _ | apply List.Mem.tail))) | (apply Give.own; (repeat (first | exact Pick.here | apply Pick.there))))) (by repeat (first | exact Drop.refl | apply Drop.skip))⟩
              | exact ⟨_, [RowF Kd.eff p2 acc], rfl, ⟨p2, cap2, rfl, rfl, hcap⟩, hs.fit (by repeat (first | exact Give.nil | (apply Give.perI; (repeat (first | exact List.Mem.head _ | apply List.Mem.tail))) | (apply Give.own; (repeat (first | exact Pick.here | apply Pick.there))))) (by repeat (first | exact Drop.refl | apply Drop.skip))⟩
          · refine KO.q rfl (q_loadN ck_63 rfl rfl (by first | (apply cells_pv; (repeat (first | exact List.Mem.head _ | apply List.Mem.tail))) | (apply cells_fv; (repeat (first | exact List.Mem.head _ | apply List.Mem.tail))))) ?_
            refine KO.loud rfl (OpL.callG rfl (by repeat (first | exact Give.nil | (apply Give.perI; (repeat (first | exact List.Mem.head _ | apply List.Mem.tail))) | (apply Give.own; (repeat (first | exact Pick.here | apply Pick.there))))) (eff_Right _)) ?_
            rintro _ _ ⟨_, ⟨rfl, rfl⟩, rfl⟩
            refine KO.q rfl (q_not rfl) ?_
            refine KO.q rfl (q_pickF rfl rfl) ?_
            refine KO.done ?_
            refine K.bcond (s := 33) rfl (fun g33 => ?_) (fun g33 => ?_)
            · repeat (first | refine K.seq ?_ | refine K.skip ?_ | refine K.block ?_ | refine K.inBlock ?_ | refine K.label ?_)
              have hr : effRead bs = none := by
                rw [hr0, hinv, hst, if_pos (by simp [*])]
                rfl
              refine K.region ?_
              refine KO.q rfl (q_assign rfl) ?_
              refine KO.q rfl (q_assign rfl) ?_
              refine KO.done ?_
              refine K.ret (fn := Try.f49) Try.func49 (fun a w hk hs => res2 Try.results49 hk rfl rfl) (fun w hs => ?_)
              rw [hr]
              first
                | exact ⟨_, [RowF Kd.eff none []], rfl, ⟨none, 0, rfl, rfl, Nat.le_refl _⟩, (rowF_nil (k := Kd.eff) none hs).fit (by repeat (first | exact Give.nil | (apply Give.perI; (repeat (first | exact List.Mem.head _ | apply List.Mem.tail))) | (apply Give.own; (repeat (first | exact Pick.here | apply Pick.there))))) (by repeat (first | exact Drop.refl | apply Drop.skip))⟩
                | exact ⟨_, [RowF Kd.eff p2 acc], rfl, ⟨p2, cap2, rfl, rfl, hcap⟩, hs.fit (by repeat (first | exact Give.nil | (apply Give.perI; (repeat (first | exact List.Mem.head _ | apply List.Mem.tail))) | (apply Give.own; (repeat (first | exact Pick.here | apply Pick.there))))) (by repeat (first | exact Drop.refl | apply Drop.skip))⟩
            · repeat (first | refine K.seq ?_ | refine K.skip ?_ | refine K.block ?_ | refine K.inBlock ?_ | refine K.label ?_)
              refine K.region ?_
              refine KO.q rfl (q_move rfl) ?_
              refine KO.q rfl (q_loadN ck_63 rfl rfl (by first | (apply cells_pv; (repeat (first | exact List.Mem.head _ | apply List.Mem.tail))) | (apply cells_fv; (repeat (first | exact List.Mem.head _ | apply List.Mem.tail))))) ?_
              refine KO.loud rfl (l_slice1 sz_59_1 rfl rfl ⟨rfl, rfl, rfl⟩) ?_
              rintro _ _ ⟨b36, rfl, rfl⟩
              refine KO.loud rfl (l_append Kd.eff se_59 Try.underlying59 ⟨_, ze_63, rfl⟩ (by decide) rfl rfl (by repeat (first | exact Pick.here | apply Pick.there)) isP (by repeat (first | exact List.Mem.head _ | apply List.Mem.tail)) rfl rfl (by simp; omega)) ?_
              rintro _ _ ⟨p3, cap3, rfl, rfl⟩
              refine KO.q rfl (q_assign rfl) ?_
              refine KO.done ?_
              repeat (first | refine K.seq ?_ | refine K.skip ?_ | refine K.block ?_ | refine K.inBlock ?_ | refine K.label ?_)
              refine K.region ?_
              refine KO.q rfl (q_add rfl rfl (by first | omega | (simp; omega)) (by first | omega | (simp; omega))) ?_
              refine KO.q rfl (q_move rfl) ?_
              refine KO.done ?_
              have hst2 : Rd.effs (n - i) s = ((Rd.effs (n - (i + 1)) s.eff.2).1.map (s.eff.1 :: ·), (Rd.effs (n - (i + 1)) s.eff.2).2) := by rw [hst, if_neg (by simp_all)]
              refine K.weak ?_ ?_ (ih ⟨(i + 1, acc ++ [s.eff.1], s.eff.2, q4, c4, p3, cap3), ?_, ?_, ?_, ?_⟩ ?_)
              · exact (by repeat (first | exact Env.sub_nil _ | refine Env.sub_cons rfl ?_))
              · intro w h
                exact h.fit (by repeat (first | exact Give.nil | (apply Give.perI; (repeat (first | exact List.Mem.head _ | apply List.Mem.tail))) | (apply Give.own; (repeat (first | exact Pick.here | apply Pick.there))))) (by repeat (first | exact Drop.refl | apply Drop.skip))
              · show i + 1 ≤ n
                omega
              · show (acc ++ [s.eff.1]).length = i + 1
                simp [hl]
              · assumption
              · show Rd.effs n s0 = ((Rd.effs (n - (i + 1)) s.eff.2).1.map (acc ++ [s.eff.1] ++ ·), (Rd.effs (n - (i + 1)) s.eff.2).2)
                rw [hinv, hst2]
                cases (Rd.effs (n - (i + 1)) s.eff.2).1 <;> simp
              · show n - (i + 1) < n - i
                omega
        · have hz : Rd.effs n s0 = (some acc, s) := by
            rw [hinv, show n - i = 0 by omega]
            simp [effs_zero]
          refine K.exit rfl ?_
          repeat (first | refine K.seq ?_ | refine K.skip ?_ | refine K.block ?_ | refine K.inBlock ?_ | refine K.label ?_)
          refine K.region ?_
          refine KO.q rfl (q_move rfl) ?_
          refine KO.loud rfl (OpL.callG rfl (by repeat (first | exact Give.nil | (apply Give.perI; (repeat (first | exact List.Mem.head _ | apply List.Mem.tail))) | (apply Give.own; (repeat (first | exact Pick.here | apply Pick.there))))) (rd_Done _ _ _ _)) ?_
          rintro _ _ ⟨_, ⟨rfl, rfl⟩, rfl⟩
          refine KO.q rfl (q_not rfl) ?_
          refine KO.done ?_
          refine K.bcond (s := 41) rfl (fun g41 => ?_) (fun g41 => ?_)
          · repeat (first | refine K.seq ?_ | refine K.skip ?_ | refine K.block ?_ | refine K.inBlock ?_ | refine K.label ?_)
            have hr : effRead bs = none := by
              rw [hr0, hz]
              dsimp only
              rw [if_neg (by simpa using g41)]
            refine K.region ?_
            refine KO.q rfl (q_assign rfl) ?_
            refine KO.q rfl (q_assign rfl) ?_
            refine KO.done ?_
            refine K.ret (fn := Try.f49) Try.func49 (fun a w hk hs => res2 Try.results49 hk rfl rfl) (fun w hs => ?_)
            rw [hr]
            first
              | exact ⟨_, [RowF Kd.eff none []], rfl, ⟨none, 0, rfl, rfl, Nat.le_refl _⟩, (rowF_nil (k := Kd.eff) none hs).fit (by repeat (first | exact Give.nil | (apply Give.perI; (repeat (first | exact List.Mem.head _ | apply List.Mem.tail))) | (apply Give.own; (repeat (first | exact Pick.here | apply Pick.there))))) (by repeat (first | exact Drop.refl | apply Drop.skip))⟩
              | exact ⟨_, [RowF Kd.eff p2 acc], rfl, ⟨p2, cap2, rfl, rfl, hcap⟩, hs.fit (by repeat (first | exact Give.nil | (apply Give.perI; (repeat (first | exact List.Mem.head _ | apply List.Mem.tail))) | (apply Give.own; (repeat (first | exact Pick.here | apply Pick.there))))) (by repeat (first | exact Drop.refl | apply Drop.skip))⟩
          · repeat (first | refine K.seq ?_ | refine K.skip ?_ | refine K.block ?_ | refine K.inBlock ?_ | refine K.label ?_)
            have hr : effRead bs = some acc := by
              rw [hr0, hz]
              dsimp only
              rw [if_pos (by simpa using g41)]
            refine K.fact (rowO_cap (by repeat (first | exact List.Mem.head _ | apply List.Mem.tail))) (fun hcap => ?_)
            refine K.st (fun w h => rowO_freeze (h.pick (by repeat (first | exact Pick.here | apply Pick.there)))) ?_
            refine K.region ?_
            refine KO.q rfl (q_move rfl) ?_
            refine KO.q rfl (q_assign rfl) ?_
            refine KO.q rfl (q_assign rfl) ?_
            refine KO.done ?_
            refine K.ret (fn := Try.f49) Try.func49 (fun a w hk hs => res2 Try.results49 hk rfl rfl) (fun w hs => ?_)
            rw [hr]
            first
              | exact ⟨_, [RowF Kd.eff none []], rfl, ⟨none, 0, rfl, rfl, Nat.le_refl _⟩, (rowF_nil (k := Kd.eff) none hs).fit (by repeat (first | exact Give.nil | (apply Give.perI; (repeat (first | exact List.Mem.head _ | apply List.Mem.tail))) | (apply Give.own; (repeat (first | exact Pick.here | apply Pick.there))))) (by repeat (first | exact Drop.refl | apply Drop.skip))⟩
              | exact ⟨_, [RowF Kd.eff p2 acc], rfl, ⟨p2, cap2, rfl, rfl, hcap⟩, hs.fit (by repeat (first | exact Give.nil | (apply Give.perI; (repeat (first | exact List.Mem.head _ | apply List.Mem.tail))) | (apply Give.own; (repeat (first | exact Pick.here | apply Pick.there))))) (by repeat (first | exact Drop.refl | apply Drop.skip))⟩
theorem effRef_of {b : List UInt8} {n : Int} {s : Rd} (h : Rd.rint ⟨b, false⟩ = (n, s)) : effRead b = if n < 0 ∨ 10000 < n then none else if (!(Rd.reffs n.toNat [] true s).2.2.done || !(Rd.reffs n.toNat [] true s).2.1) = true then none else some (Rd.reffs n.toNat [] true s).1 := by
  rw [← effRef_eq]
  unfold effRef
  simp only [h]
--%call poste/effect.Read := eff_Read _ _ _ (by first | omega | (simp; omega)) !! ⟨_, ⟨q#, c#, rfl, rfl, hc#⟩, rfl⟩
theorem eff_Read_none (q : Option Addr) (cap : Nat) (bs : List UInt8) (hb : bs.length ≤ 1099511627776) (h : effRead bs = none) : Fn Try.prog 49 [.slice q bs.length cap].toArray [RowF Kd.u8 q bs]
    (fun r post => ∃ q' cap', r = .tuple #[.slice q' 0 cap', .int .i64 11] ∧ post = [RowF Kd.eff q' []]) :=
  (eff_Read q cap bs hb).mono fun r post ⟨q', c', h1, h2, _⟩ => ⟨q', c', by rw [h1, h]; rfl, by rw [h2, h]; rfl⟩
theorem eff_Read_some (q : Option Addr) (cap : Nat) (bs : List UInt8) (hb : bs.length ≤ 1099511627776) {l : List Eff} (h : effRead bs = some l) : Fn Try.prog 49 [.slice q bs.length cap].toArray [RowF Kd.u8 q bs]
    (fun r post => ∃ q' cap', r = .tuple #[.slice q' l.length cap', .int .i64 0] ∧ post = [RowF Kd.eff q' l] ∧ l.length ≤ cap') :=
  (eff_Read q cap bs hb).mono fun r post ⟨q', c', h1, h2, h3⟩ => ⟨q', c', by rw [h1, h]; rfl, by rw [h2, h]; rfl, by rw [h] at h3; exact h3⟩
end Go.Proofs.Ytlellgnklohclaa.L
