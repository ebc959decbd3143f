/- Walk: changes read by the document. -/
import Derived.Test.YtlellgnklohclaaE3b
namespace Go.Proofs.Ytlellgnklohclaa.L
open Go Go.Proofs
attribute [local irreducible] pv fv pt fz RowF RowO rowP old pure_ elA Rd.int Rd.text Rd.flag Rd.msg Rd.rint Rd.rtext Rd.rflag Rd.rmsg
set_option maxRecDepth 100000
set_option linter.unusedSimpArgs false
set_option linter.unusedVariables false
attribute [local irreducible] Rd.eff Rd.reff

--%call poste/posteref14.ReadEffects := ref_ReadEffects _ _ _ (by assumption) (by first | omega | (simp; omega)) !! ⟨_, ⟨q#, c#, rfl, rfl, hc#⟩, rfl⟩
set_option maxHeartbeats 1600000 in
theorem ref_ReadEffects (q : Option Addr) (cap : Nat) (bs : List UInt8) (hcap : bs.length ≤ cap) (hb : bs.length ≤ 1099511627776) : Fn Try.prog 52 [.slice q bs.length cap].toArray [RowF Kd.u8 q bs]
    (fun r post => ∃ q' cap', r = .tuple #[.slice q' ((effRead bs).getD []).length cap', .int .i64 (if (effRead bs).isSome then 0 else 11)] ∧ post = [RowF Kd.eff q' ((effRead bs).getD [])] ∧ ((effRead bs).getD []).length ≤ cap') := by
  obtain ⟨n0, s0, ha⟩ : ∃ n0 s0, Rd.rint ⟨bs, false⟩ = (n0, s0) := ⟨_, _, rfl⟩
  replace hcap : (Rd.mk bs false).bs.length ≤ cap := hcap
  refine Fn.enter (N := 64) Try.func52 rfl Try.ntmps52 (by kernel_rfl) rfl (fun ρ L => ?_)
  repeat (first | refine K.seq ?_ | refine K.skip ?_ | refine K.block ?_ | refine K.inBlock ?_ | refine K.label ?_)
  refine K.region ?_
  refine KO.q rfl (q_assign rfl) ?_
  refine KO.q rfl (q_assign rfl) ?_
  refine KO.done ?_
  repeat (first | refine K.seq ?_ | refine K.skip ?_ | refine K.block ?_ | refine K.inBlock ?_ | refine K.label ?_)
  refine K.region ?_
  refine KO.q rfl (q_move rfl) ?_
  refine KO.loud rfl (OpL.callG rfl (by repeat (first | exact Give.nil | (apply Give.perI; (repeat (first | exact List.Mem.head _ | apply List.Mem.tail))) | (apply Give.own; (repeat (first | exact Pick.here | apply Pick.there))))) (rf_New _ _ _)) ?_
  rintro _ _ ⟨_, ⟨p1, rfl, rfl⟩, rfl⟩
  refine KO.q rfl (q_assign rfl) ?_
  refine KO.done ?_
  repeat (first | refine K.seq ?_ | refine K.skip ?_ | refine K.block ?_ | refine K.inBlock ?_ | refine K.label ?_)
  refine K.region ?_
  refine KO.q rfl (q_move rfl) ?_
  refine KO.loud rfl (OpL.callG rfl (by repeat (first | exact Give.nil | (apply Give.perI; (repeat (first | exact List.Mem.head _ | apply List.Mem.tail))) | (apply Give.own; (repeat (first | exact Pick.here | apply Pick.there))))) (rf_Int _ _ _ _ (by assumption))) ?_
  rintro _ _ ⟨_, ⟨q2, c2, rfl, rfl, hc2⟩, rfl⟩
  refine KO.q rfl (q_assign rfl) ?_
  refine KO.done ?_
  simp only [ha] at hc2 ⊢
  repeat (first | refine K.seq ?_ | refine K.skip ?_ | refine K.block ?_ | refine K.inBlock ?_ | refine K.label ?_)
  refine K.region ?_
  refine KO.q rfl (q_move rfl) ?_
  refine KO.q rfl (q_lt rfl rfl) ?_
  refine KO.q rfl (q_move rfl) ?_
  refine KO.dsplit 16 rfl (fun g16 => ?_) (fun g16 => ?_)
  · refine KO.skip rfl ?_
    refine KO.skip rfl ?_
    refine KO.q rfl (q_pickT rfl rfl) ?_
    refine KO.done ?_
    refine K.yes rfl ?_
    repeat (first | refine K.seq ?_ | refine K.skip ?_ | refine K.block ?_ | refine K.inBlock ?_ | refine K.label ?_)
    have hr : effRead bs = none := by rw [effRef_of ha, if_pos (by simp [*])]
    refine K.region ?_
    refine KO.q rfl (q_assign rfl) ?_
    refine KO.q rfl (q_assign rfl) ?_
    refine KO.done ?_
    refine K.ret (fn := Try.f52) Try.func52 (fun a w hk hs => res2 Try.results52 hk rfl rfl) (fun w hs => ?_)
    rw [hr]
    first
      | exact ⟨_, [RowF Kd.eff none []], rfl, ⟨none, 0, rfl, rfl, Nat.le_refl _⟩, (rowF_nil (k := Kd.eff) none hs).fit (by repeat (first | exact Give.nil | (apply Give.perI; (repeat (first | exact List.Mem.head _ | apply List.Mem.tail))) | (apply Give.own; (repeat (first | exact Pick.here | apply Pick.there))))) (by repeat (first | exact Drop.refl | apply Drop.skip))⟩
      | exact ⟨_, [RowF Kd.eff p2 acc], rfl, ⟨p2, cap2, rfl, rfl, hcap2⟩, hs.fit (by repeat (first | exact Give.nil | (apply Give.perI; (repeat (first | exact List.Mem.head _ | apply List.Mem.tail))) | (apply Give.own; (repeat (first | exact Pick.here | apply Pick.there))))) (by repeat (first | exact Drop.refl | apply Drop.skip))⟩
  · refine KO.q rfl (q_move rfl) ?_
    refine KO.q rfl (q_gt rfl rfl) ?_
    refine KO.q rfl (q_pickF rfl rfl) ?_
    refine KO.done ?_
    refine K.dcond (s := 19) rfl (fun g19 => ?_) (fun g19 => ?_)
    · repeat (first | refine K.seq ?_ | refine K.skip ?_ | refine K.block ?_ | refine K.inBlock ?_ | refine K.label ?_)
      have hr : effRead bs = none := by rw [effRef_of ha, if_pos (by simp [*])]
      refine K.region ?_
      refine KO.q rfl (q_assign rfl) ?_
      refine KO.q rfl (q_assign rfl) ?_
      refine KO.done ?_
      refine K.ret (fn := Try.f52) Try.func52 (fun a w hk hs => res2 Try.results52 hk rfl rfl) (fun w hs => ?_)
      rw [hr]
      first
        | exact ⟨_, [RowF Kd.eff none []], rfl, ⟨none, 0, rfl, rfl, Nat.le_refl _⟩, (rowF_nil (k := Kd.eff) none hs).fit (by repeat (first | exact Give.nil | (apply Give.perI; (repeat (first | exact List.Mem.head _ | apply List.Mem.tail))) | (apply Give.own; (repeat (first | exact Pick.here | apply Pick.there))))) (by repeat (first | exact Drop.refl | apply Drop.skip))⟩
        | exact ⟨_, [RowF Kd.eff p2 acc], rfl, ⟨p2, cap2, rfl, rfl, hcap2⟩, hs.fit (by repeat (first | exact Give.nil | (apply Give.perI; (repeat (first | exact List.Mem.head _ | apply List.Mem.tail))) | (apply Give.own; (repeat (first | exact Pick.here | apply Pick.there))))) (by repeat (first | exact Drop.refl | apply Drop.skip))⟩
    · repeat (first | refine K.seq ?_ | refine K.skip ?_ | refine K.block ?_ | refine K.inBlock ?_ | refine K.label ?_)
      have hc : ¬ (n0 < 0 ∨ 10000 < n0) := by omega
      have hr0 := effRef_of ha
      rw [if_neg hc] at hr0
      obtain ⟨n, rfl⟩ : ∃ n : Nat, n0 = n := ⟨n0.toNat, by omega⟩
      rw [Int.toNat_natCast] at hr0
      refine K.st (fun w h => rowO_nil (k := Kd.eff) 63 h) ?_
      refine K.region ?_
      refine KO.q rfl (q_assign rfl) ?_
      refine KO.done ?_
      repeat (first | refine K.seq ?_ | refine K.skip ?_ | refine K.block ?_ | refine K.inBlock ?_ | refine K.label ?_)
      refine K.region ?_
      refine KO.q rfl (q_assign rfl) ?_
      refine KO.done ?_
      repeat (first | refine K.seq ?_ | refine K.skip ?_ | refine K.block ?_ | refine K.inBlock ?_ | refine K.label ?_)
      refine K.region ?_
      refine KO.q rfl (q_assign rfl) ?_
      refine KO.done ?_
      repeat (first | refine K.seq ?_ | refine K.skip ?_ | refine K.block ?_ | refine K.inBlock ?_ | refine K.label ?_)
      refine K.rounds2 (ι := { x : Nat × List Eff × Bool × Rd × Option Addr × Nat × Option Addr × Nat // x.1 ≤ n ∧ x.2.1.length = x.1 ∧ x.2.2.2.1.bs.length ≤ x.2.2.2.2.2.1 ∧ Rd.reffs n [] true s0 = Rd.reffs (n - x.1) x.2.1 x.2.2.1 x.2.2.2.1 }) (fun x => [(8, .int .i64 x.1.1), (7, .bool x.1.2.2.1), (5, .int .i64 n), (6, .slice x.1.2.2.2.2.2.2.1 x.1.2.1.length x.1.2.2.2.2.2.2.2), (4, .pointer (some ⟨p1, 0, none⟩))]) (fun x => RfL p1 x.1.2.2.2.2.1 x.1.2.2.2.2.2.1 x.1.2.2.2.1 ++ [RowO Kd.eff 63 x.1.2.2.2.2.2.2.1 x.1.2.2.2.2.2.2.2 x.1.2.1] ++ L) (fun x => n - x.1.1) ⟨(0, [], true, s0, q2, c2, none, 0), Nat.zero_le _, rfl, hc2, rfl⟩ (by repeat (first | exact Env.sub_nil _ | refine Env.sub_cons rfl ?_)) (fun w h => h.fit (by repeat (first | exact Give.nil | (apply Give.perI; (repeat (first | exact List.Mem.head _ | apply List.Mem.tail))) | (apply Give.own; (repeat (first | exact Pick.here | apply Pick.there))))) (by repeat (first | exact Drop.refl | apply Drop.skip))) (fun x ih => ?_)
      obtain ⟨⟨i, acc, ok, s, q', c', p2, cap2⟩, hi, hl, hcs, hinv⟩ := x
      dsimp only at hi hl hcs hinv ⊢
      repeat (first | refine K.seq ?_ | refine K.skip ?_ | refine K.block ?_ | refine K.inBlock ?_ | refine K.label ?_)
      refine K.region ?_
      refine KO.q rfl (q_move rfl) ?_
      refine KO.q rfl (q_move rfl) ?_
      refine KO.q rfl (q_lt rfl rfl) ?_
      refine KO.q rfl (q_move rfl) ?_
      refine KO.dsplit 23 rfl (fun g23 => ?_) (fun g23 => ?_)
      · refine KO.q rfl (q_move rfl) ?_
        refine KO.loud rfl (OpL.callG rfl (by repeat (first | exact Give.nil | (apply Give.perI; (repeat (first | exact List.Mem.head _ | apply List.Mem.tail))) | (apply Give.own; (repeat (first | exact Pick.here | apply Pick.there))))) (rf_Bad _ _ _ _)) ?_
        rintro _ _ ⟨_, ⟨rfl, rfl⟩, rfl⟩
        refine KO.q rfl (q_not rfl) ?_
        refine KO.q rfl (q_pickT rfl rfl) ?_
        refine KO.done ?_
        refine K.bcond (s := 27) rfl (fun g27 => ?_) (fun g27 => ?_)
        · have hst := reffs_succ (n - (i + 1)) acc ok s
          rw [show n - (i + 1) + 1 = n - i by omega, if_neg (by simpa using g27)] at hst
          repeat (first | refine K.seq ?_ | refine K.skip ?_ | refine K.block ?_ | refine K.inBlock ?_ | refine K.label ?_)
          refine K.region ?_
          refine KO.q rfl (q_move rfl) ?_
          refine KO.loud rfl (OpL.callG rfl (by repeat (first | exact Give.nil | (apply Give.perI; (repeat (first | exact List.Mem.head _ | apply List.Mem.tail))) | (apply Give.own; (repeat (first | exact Pick.here | apply Pick.there))))) (rf_Int _ _ _ _ (by assumption))) ?_
          rintro _ _ ⟨_, ⟨q4, c4, rfl, rfl, hc4⟩, rfl⟩
          refine KO.q rfl (q_move rfl) ?_
          refine KO.loud rfl (OpL.callG rfl (by repeat (first | exact Give.nil | (apply Give.perI; (repeat (first | exact List.Mem.head _ | apply List.Mem.tail))) | (apply Give.own; (repeat (first | exact Pick.here | apply Pick.there))))) (rf_Text _ _ _ _ (by assumption))) ?_
          rintro _ _ ⟨_, ⟨q5, c5, rfl, rfl, hc5⟩, rfl⟩
          refine KO.q rfl (q_move rfl) ?_
          refine KO.loud rfl (OpL.callG rfl (by repeat (first | exact Give.nil | (apply Give.perI; (repeat (first | exact List.Mem.head _ | apply List.Mem.tail))) | (apply Give.own; (repeat (first | exact Pick.here | apply Pick.there))))) (rf_Text _ _ _ _ (by assumption))) ?_
          rintro _ _ ⟨_, ⟨q6, c6, rfl, rfl, hc6⟩, rfl⟩
          refine KO.q rfl (q_move rfl) ?_
          refine KO.loud rfl (OpL.callG rfl (by repeat (first | exact Give.nil | (apply Give.perI; (repeat (first | exact List.Mem.head _ | apply List.Mem.tail))) | (apply Give.own; (repeat (first | exact Pick.here | apply Pick.there))))) (rf_Text _ _ _ _ (by assumption))) ?_
          rintro _ _ ⟨_, ⟨q7, c7, rfl, rfl, hc7⟩, rfl⟩
          refine KO.q rfl (q_move rfl) ?_
          refine KO.loud rfl (OpL.callG rfl (by repeat (first | exact Give.nil | (apply Give.perI; (repeat (first | exact List.Mem.head _ | apply List.Mem.tail))) | (apply Give.own; (repeat (first | exact Pick.here | apply Pick.there))))) (rf_Int _ _ _ _ (by assumption))) ?_
          rintro _ _ ⟨_, ⟨q8, c8, rfl, rfl, hc8⟩, rfl⟩
          refine KO.q rfl (q_move rfl) ?_
          refine KO.loud rfl (OpL.callG rfl (by repeat (first | exact Give.nil | (apply Give.perI; (repeat (first | exact List.Mem.head _ | apply List.Mem.tail))) | (apply Give.own; (repeat (first | exact Pick.here | apply Pick.there))))) (rf_Int _ _ _ _ (by assumption))) ?_
          rintro _ _ ⟨_, ⟨q9, c9, rfl, rfl, hc9⟩, rfl⟩
          refine KO.q rfl (q_move rfl) ?_
          refine KO.loud rfl (OpL.callG rfl (by repeat (first | exact Give.nil | (apply Give.perI; (repeat (first | exact List.Mem.head _ | apply List.Mem.tail))) | (apply Give.own; (repeat (first | exact Pick.here | apply Pick.there))))) (rf_Flag _ _ _ _ (by assumption))) ?_
          rintro _ _ ⟨_, ⟨q10, c10, rfl, rfl, hc10⟩, rfl⟩
          refine KO.q rfl (q_move rfl) ?_
          refine KO.loud rfl (OpL.callG rfl (by repeat (first | exact Give.nil | (apply Give.perI; (repeat (first | exact List.Mem.head _ | apply List.Mem.tail))) | (apply Give.own; (repeat (first | exact Pick.here | apply Pick.there))))) (ref_GetMsg _ _ _ _ (by assumption))) ?_
          rintro _ _ ⟨_, ⟨q11, c11, rfl, rfl, hc11⟩, rfl⟩
          refine KO.q rfl (q_as_eff (q_build st_63 rfl (by repeat (first | exact Fill.nil | (apply Fill.cons; rfl; rfl; rfl) | exact SetN.nil | apply SetN.cons | exact SetAt.here | apply SetAt.there))) (by rfl)) ?_
          refine KO.loud rfl (l_alloc zo_63) ?_
          rintro _ _ ⟨b9, rfl, rfl⟩
          refine KO.loudN rfl (l_storeAll ck_63 rfl rfl ⟨rfl, rfl⟩ (eff_one _) (by repeat (first | exact Pick.here | apply Pick.there))) ?_
          rintro _ _ ⟨rfl, rfl⟩
          refine KO.done ?_
          rw [reff_fold2] at hc11
          rw [reff_fold, reff_fold2]
          repeat (first | refine K.seq ?_ | refine K.skip ?_ | refine K.block ?_ | refine K.inBlock ?_ | refine K.label ?_)
          refine K.region ?_
          refine KO.q rfl (q_move rfl) ?_
          refine KO.q rfl (q_move rfl) ?_
          first | refine KO.dsplit 48 rfl (fun g48 => ?_) (fun g48 => ?_) | refine KO.split 48 rfl (fun g48 => ?_) (fun g48 => ?_)
          · obtain rfl : ok = true := g48
            refine KO.q rfl (q_loadN ck_63 rfl rfl (by first | (apply cells_pv; (repeat (first | exact List.Mem.head _ | apply List.Mem.tail))) | (apply cells_fv; (repeat (first | exact List.Mem.head _ | apply List.Mem.tail))))) ?_
            refine KO.loud rfl (OpL.callG rfl (by repeat (first | exact Give.nil | (apply Give.perI; (repeat (first | exact List.Mem.head _ | apply List.Mem.tail))) | (apply Give.own; (repeat (first | exact Pick.here | apply Pick.there))))) (ref_RightEffect _)) ?_
            rintro _ _ ⟨_, ⟨rfl, rfl⟩, rfl⟩
            refine KO.q rfl (q_pickT rfl rfl) ?_
            refine KO.q rfl (q_assign rfl) ?_
            refine KO.done ?_
            refine K.region ?_
            refine KO.q rfl (q_move rfl) ?_
            refine KO.q rfl (q_loadN ck_63 rfl rfl (by first | (apply cells_pv; (repeat (first | exact List.Mem.head _ | apply List.Mem.tail))) | (apply cells_fv; (repeat (first | exact List.Mem.head _ | apply List.Mem.tail))))) ?_
            refine KO.loud rfl (l_slice1 sz_59_1 rfl rfl ⟨rfl, rfl, rfl⟩) ?_
            rintro _ _ ⟨b54, rfl, rfl⟩
            refine KO.loud rfl (l_append Kd.eff se_59 Try.underlying59 ⟨_, ze_63, rfl⟩ (by decide) rfl rfl (by repeat (first | exact Pick.here | apply Pick.there)) isP (by repeat (first | exact List.Mem.head _ | apply List.Mem.tail)) rfl rfl (by simp; omega)) ?_
            rintro _ _ ⟨p3, cap3, rfl, rfl⟩
            refine KO.q rfl (q_assign rfl) ?_
            refine KO.done ?_
            repeat (first | refine K.seq ?_ | refine K.skip ?_ | refine K.block ?_ | refine K.inBlock ?_ | refine K.label ?_)
            refine K.region ?_
            refine KO.q rfl (q_move rfl) ?_
            refine KO.q rfl (q_add rfl rfl (by first | omega | (simp; omega)) (by first | omega | (simp; omega))) ?_
            refine KO.q rfl (q_assign rfl) ?_
            refine KO.done ?_
            have hst2 := hinv.trans hst
            first
              | refine K.weak ?_ ?_ (ih ⟨(i + 1, acc ++ [s.reff.1], (true && s.reff.1.right), s.reff.2, q11, c11, p3, cap3), ?_, ?_, ?_, hst2⟩ ?_)
              | refine K.weak ?_ ?_ (ih ⟨(i + 1, acc ++ [s.reff.1], (false && s.reff.1.right), s.reff.2, q11, c11, p3, cap3), ?_, ?_, ?_, hst2⟩ ?_)
            · exact (by repeat (first | exact Env.sub_nil _ | refine Env.sub_cons rfl ?_))
            · intro w h
              dsimp only
              exact h.fit (by repeat (first | exact Give.nil | (apply Give.perI; (repeat (first | exact List.Mem.head _ | apply List.Mem.tail))) | (apply Give.own; (repeat (first | exact Pick.here | apply Pick.there))))) (by repeat (first | exact Drop.refl | apply Drop.skip))
            · show i + 1 ≤ n
              omega
            · show (acc ++ [s.reff.1]).length = i + 1
              simp [hl]
            · assumption
            · show n - (i + 1) < n - i
              omega
          · obtain rfl : ok = false := g48
            refine KO.skip rfl ?_
            refine KO.skip rfl ?_
            refine KO.q rfl (q_pickF rfl rfl) ?_
            refine KO.q rfl (q_assign rfl) ?_
            refine KO.done ?_
            refine K.region ?_
            refine KO.q rfl (q_move rfl) ?_
            refine KO.q rfl (q_loadN ck_63 rfl rfl (by first | (apply cells_pv; (repeat (first | exact List.Mem.head _ | apply List.Mem.tail))) | (apply cells_fv; (repeat (first | exact List.Mem.head _ | apply List.Mem.tail))))) ?_
            refine KO.loud rfl (l_slice1 sz_59_1 rfl rfl ⟨rfl, rfl, rfl⟩) ?_
            rintro _ _ ⟨b54, rfl, rfl⟩
            refine KO.loud rfl (l_append Kd.eff se_59 Try.underlying59 ⟨_, ze_63, rfl⟩ (by decide) rfl rfl (by repeat (first | exact Pick.here | apply Pick.there)) isP (by repeat (first | exact List.Mem.head _ | apply List.Mem.tail)) rfl rfl (by simp; omega)) ?_
            rintro _ _ ⟨p3, cap3, rfl, rfl⟩
            refine KO.q rfl (q_assign rfl) ?_
            refine KO.done ?_
            repeat (first | refine K.seq ?_ | refine K.skip ?_ | refine K.block ?_ | refine K.inBlock ?_ | refine K.label ?_)
            refine K.region ?_
            refine KO.q rfl (q_move rfl) ?_
            refine KO.q rfl (q_add rfl rfl (by first | omega | (simp; omega)) (by first | omega | (simp; omega))) ?_
            refine KO.q rfl (q_assign rfl) ?_
            refine KO.done ?_
            have hst2 := hinv.trans hst
            first
              | refine K.weak ?_ ?_ (ih ⟨(i + 1, acc ++ [s.reff.1], (true && s.reff.1.right), s.reff.2, q11, c11, p3, cap3), ?_, ?_, ?_, hst2⟩ ?_)
              | refine K.weak ?_ ?_ (ih ⟨(i + 1, acc ++ [s.reff.1], (false && s.reff.1.right), s.reff.2, q11, c11, p3, cap3), ?_, ?_, ?_, hst2⟩ ?_)
            · exact (by repeat (first | exact Env.sub_nil _ | refine Env.sub_cons rfl ?_))
            · intro w h
              dsimp only
              exact h.fit (by repeat (first | exact Give.nil | (apply Give.perI; (repeat (first | exact List.Mem.head _ | apply List.Mem.tail))) | (apply Give.own; (repeat (first | exact Pick.here | apply Pick.there))))) (by repeat (first | exact Drop.refl | apply Drop.skip))
            · show i + 1 ≤ n
              omega
            · show (acc ++ [s.reff.1]).length = i + 1
              simp [hl]
            · assumption
            · show n - (i + 1) < n - i
              omega
        · refine K.exit rfl ?_
          repeat (first | refine K.seq ?_ | refine K.skip ?_ | refine K.block ?_ | refine K.inBlock ?_ | refine K.label ?_)
          have hz : Rd.reffs n [] true s0 = (acc, ok, s) := by
            rw [hinv]
            first
              | exact reffs_f _ _ _ _ (by simpa using g27)
              | (rw [show n - i = 0 by omega]; exact reffs_zero _ _ _)
          refine K.region ?_
          refine KO.q rfl (q_move rfl) ?_
          refine KO.loud rfl (OpL.callG rfl (by repeat (first | exact Give.nil | (apply Give.perI; (repeat (first | exact List.Mem.head _ | apply List.Mem.tail))) | (apply Give.own; (repeat (first | exact Pick.here | apply Pick.there))))) (rf_Done _ _ _ _)) ?_
          rintro _ _ ⟨_, ⟨rfl, rfl⟩, rfl⟩
          refine KO.q rfl (q_not rfl) ?_
          refine KO.q rfl (q_move rfl) ?_
          refine KO.split 59 rfl (fun g59 => ?_) (fun g59 => ?_)
          · refine KO.skip rfl ?_
            refine KO.skip rfl ?_
            refine KO.q rfl (q_pickT rfl rfl) ?_
            refine KO.done ?_
            refine K.yes rfl ?_
            repeat (first | refine K.seq ?_ | refine K.skip ?_ | refine K.block ?_ | refine K.inBlock ?_ | refine K.label ?_)
            have hr : effRead bs = none := by
              rw [hr0, hz]
              dsimp only
              rw [if_pos (by first | (simp [g59]; done) | (simp [g62]; done))]
            refine K.region ?_
            refine KO.q rfl (q_assign rfl) ?_
            refine KO.q rfl (q_assign rfl) ?_
            refine KO.done ?_
            refine K.ret (fn := Try.f52) Try.func52 (fun a w hk hs => res2 Try.results52 hk rfl rfl) (fun w hs => ?_)
            rw [hr]
            first
              | exact ⟨_, [RowF Kd.eff none []], rfl, ⟨none, 0, rfl, rfl, Nat.le_refl _⟩, (rowF_nil (k := Kd.eff) none hs).fit (by repeat (first | exact Give.nil | (apply Give.perI; (repeat (first | exact List.Mem.head _ | apply List.Mem.tail))) | (apply Give.own; (repeat (first | exact Pick.here | apply Pick.there))))) (by repeat (first | exact Drop.refl | apply Drop.skip))⟩
              | exact ⟨_, [RowF Kd.eff p2 acc], rfl, ⟨p2, cap2, rfl, rfl, hcap2⟩, hs.fit (by repeat (first | exact Give.nil | (apply Give.perI; (repeat (first | exact List.Mem.head _ | apply List.Mem.tail))) | (apply Give.own; (repeat (first | exact Pick.here | apply Pick.there))))) (by repeat (first | exact Drop.refl | apply Drop.skip))⟩
          · refine KO.q rfl (q_move rfl) ?_
            refine KO.q rfl (q_not rfl) ?_
            refine KO.q rfl (q_pickF rfl rfl) ?_
            refine KO.done ?_
            refine K.bcond (s := 62) rfl (fun g62 => ?_) (fun g62 => ?_)
            · repeat (first | refine K.seq ?_ | refine K.skip ?_ | refine K.block ?_ | refine K.inBlock ?_ | refine K.label ?_)
              have hr : effRead bs = none := by
                rw [hr0, hz]
                dsimp only
                rw [if_pos (by first | (simp [g59]; done) | (simp [g62]; done))]
              refine K.region ?_
              refine KO.q rfl (q_assign rfl) ?_
              refine KO.q rfl (q_assign rfl) ?_
              refine KO.done ?_
              refine K.ret (fn := Try.f52) Try.func52 (fun a w hk hs => res2 Try.results52 hk rfl rfl) (fun w hs => ?_)
              rw [hr]
              first
                | exact ⟨_, [RowF Kd.eff none []], rfl, ⟨none, 0, rfl, rfl, Nat.le_refl _⟩, (rowF_nil (k := Kd.eff) none hs).fit (by repeat (first | exact Give.nil | (apply Give.perI; (repeat (first | exact List.Mem.head _ | apply List.Mem.tail))) | (apply Give.own; (repeat (first | exact Pick.here | apply Pick.there))))) (by repeat (first | exact Drop.refl | apply Drop.skip))⟩
                | exact ⟨_, [RowF Kd.eff p2 acc], rfl, ⟨p2, cap2, rfl, rfl, hcap2⟩, hs.fit (by repeat (first | exact Give.nil | (apply Give.perI; (repeat (first | exact List.Mem.head _ | apply List.Mem.tail))) | (apply Give.own; (repeat (first | exact Pick.here | apply Pick.there))))) (by repeat (first | exact Drop.refl | apply Drop.skip))⟩
            · repeat (first | refine K.seq ?_ | refine K.skip ?_ | refine K.block ?_ | refine K.inBlock ?_ | refine K.label ?_)
              have hr : effRead bs = some acc := by
                rw [hr0, hz]
                dsimp only
                rw [if_neg (by simp [g59, g62])]
              refine K.fact (rowO_cap (by repeat (first | exact List.Mem.head _ | apply List.Mem.tail))) (fun hcap2 => ?_)
              refine K.st (fun w h => rowO_freeze (h.pick (by repeat (first | exact Pick.here | apply Pick.there)))) ?_
              refine K.region ?_
              refine KO.q rfl (q_move rfl) ?_
              refine KO.q rfl (q_assign rfl) ?_
              refine KO.q rfl (q_assign rfl) ?_
              refine KO.done ?_
              refine K.ret (fn := Try.f52) Try.func52 (fun a w hk hs => res2 Try.results52 hk rfl rfl) (fun w hs => ?_)
              rw [hr]
              first
                | exact ⟨_, [RowF Kd.eff none []], rfl, ⟨none, 0, rfl, rfl, Nat.le_refl _⟩, (rowF_nil (k := Kd.eff) none hs).fit (by repeat (first | exact Give.nil | (apply Give.perI; (repeat (first | exact List.Mem.head _ | apply List.Mem.tail))) | (apply Give.own; (repeat (first | exact Pick.here | apply Pick.there))))) (by repeat (first | exact Drop.refl | apply Drop.skip))⟩
                | exact ⟨_, [RowF Kd.eff p2 acc], rfl, ⟨p2, cap2, rfl, rfl, hcap2⟩, hs.fit (by repeat (first | exact Give.nil | (apply Give.perI; (repeat (first | exact List.Mem.head _ | apply List.Mem.tail))) | (apply Give.own; (repeat (first | exact Pick.here | apply Pick.there))))) (by repeat (first | exact Drop.refl | apply Drop.skip))⟩
      · refine KO.skip rfl ?_
        refine KO.skip rfl ?_
        refine KO.skip rfl ?_
        refine KO.q rfl (q_pickF rfl rfl) ?_
        refine KO.done ?_
        refine K.no rfl ?_
        repeat (first | refine K.seq ?_ | refine K.skip ?_ | refine K.block ?_ | refine K.inBlock ?_ | refine K.label ?_)
        refine K.exit rfl ?_
        repeat (first | refine K.seq ?_ | refine K.skip ?_ | refine K.block ?_ | refine K.inBlock ?_ | refine K.label ?_)
        have hz : Rd.reffs n [] true s0 = (acc, ok, s) := by
          rw [hinv]
          first
            | exact reffs_f _ _ _ _ (by simpa using g27)
            | (rw [show n - i = 0 by omega]; exact reffs_zero _ _ _)
        refine K.region ?_
        refine KO.q rfl (q_move rfl) ?_
        refine KO.loud rfl (OpL.callG rfl (by repeat (first | exact Give.nil | (apply Give.perI; (repeat (first | exact List.Mem.head _ | apply List.Mem.tail))) | (apply Give.own; (repeat (first | exact Pick.here | apply Pick.there))))) (rf_Done _ _ _ _)) ?_
        rintro _ _ ⟨_, ⟨rfl, rfl⟩, rfl⟩
        refine KO.q rfl (q_not rfl) ?_
        refine KO.q rfl (q_move rfl) ?_
        refine KO.split 59 rfl (fun g59 => ?_) (fun g59 => ?_)
        · refine KO.skip rfl ?_
          refine KO.skip rfl ?_
          refine KO.q rfl (q_pickT rfl rfl) ?_
          refine KO.done ?_
          refine K.yes rfl ?_
          repeat (first | refine K.seq ?_ | refine K.skip ?_ | refine K.block ?_ | refine K.inBlock ?_ | refine K.label ?_)
          have hr : effRead bs = none := by
            rw [hr0, hz]
            dsimp only
            rw [if_pos (by first | (simp [g59]; done) | (simp [g62]; done))]
          refine K.region ?_
          refine KO.q rfl (q_assign rfl) ?_
          refine KO.q rfl (q_assign rfl) ?_
          refine KO.done ?_
          refine K.ret (fn := Try.f52) Try.func52 (fun a w hk hs => res2 Try.results52 hk rfl rfl) (fun w hs => ?_)
          rw [hr]
          first
            | exact ⟨_, [RowF Kd.eff none []], rfl, ⟨none, 0, rfl, rfl, Nat.le_refl _⟩, (rowF_nil (k := Kd.eff) none hs).fit (by repeat (first | exact Give.nil | (apply Give.perI; (repeat (first | exact List.Mem.head _ | apply List.Mem.tail))) | (apply Give.own; (repeat (first | exact Pick.here | apply Pick.there))))) (by repeat (first | exact Drop.refl | apply Drop.skip))⟩
            | exact ⟨_, [RowF Kd.eff p2 acc], rfl, ⟨p2, cap2, rfl, rfl, hcap2⟩, hs.fit (by repeat (first | exact Give.nil | (apply Give.perI; (repeat (first | exact List.Mem.head _ | apply List.Mem.tail))) | (apply Give.own; (repeat (first | exact Pick.here | apply Pick.there))))) (by repeat (first | exact Drop.refl | apply Drop.skip))⟩
        · refine KO.q rfl (q_move rfl) ?_
          refine KO.q rfl (q_not rfl) ?_
          refine KO.q rfl (q_pickF rfl rfl) ?_
          refine KO.done ?_
          refine K.bcond (s := 62) rfl (fun g62 => ?_) (fun g62 => ?_)
          · repeat (first | refine K.seq ?_ | refine K.skip ?_ | refine K.block ?_ | refine K.inBlock ?_ | refine K.label ?_)
            have hr : effRead bs = none := by
              rw [hr0, hz]
              dsimp only
              rw [if_pos (by first | (simp [g59]; done) | (simp [g62]; done))]
            refine K.region ?_
            refine KO.q rfl (q_assign rfl) ?_
            refine KO.q rfl (q_assign rfl) ?_
            refine KO.done ?_
            refine K.ret (fn := Try.f52) Try.func52 (fun a w hk hs => res2 Try.results52 hk rfl rfl) (fun w hs => ?_)
            rw [hr]
            first
              | exact ⟨_, [RowF Kd.eff none []], rfl, ⟨none, 0, rfl, rfl, Nat.le_refl _⟩, (rowF_nil (k := Kd.eff) none hs).fit (by repeat (first | exact Give.nil | (apply Give.perI; (repeat (first | exact List.Mem.head _ | apply List.Mem.tail))) | (apply Give.own; (repeat (first | exact Pick.here | apply Pick.there))))) (by repeat (first | exact Drop.refl | apply Drop.skip))⟩
              | exact ⟨_, [RowF Kd.eff p2 acc], rfl, ⟨p2, cap2, rfl, rfl, hcap2⟩, hs.fit (by repeat (first | exact Give.nil | (apply Give.perI; (repeat (first | exact List.Mem.head _ | apply List.Mem.tail))) | (apply Give.own; (repeat (first | exact Pick.here | apply Pick.there))))) (by repeat (first | exact Drop.refl | apply Drop.skip))⟩
          · repeat (first | refine K.seq ?_ | refine K.skip ?_ | refine K.block ?_ | refine K.inBlock ?_ | refine K.label ?_)
            have hr : effRead bs = some acc := by
              rw [hr0, hz]
              dsimp only
              rw [if_neg (by simp [g59, g62])]
            refine K.fact (rowO_cap (by repeat (first | exact List.Mem.head _ | apply List.Mem.tail))) (fun hcap2 => ?_)
            refine K.st (fun w h => rowO_freeze (h.pick (by repeat (first | exact Pick.here | apply Pick.there)))) ?_
            refine K.region ?_
            refine KO.q rfl (q_move rfl) ?_
            refine KO.q rfl (q_assign rfl) ?_
            refine KO.q rfl (q_assign rfl) ?_
            refine KO.done ?_
            refine K.ret (fn := Try.f52) Try.func52 (fun a w hk hs => res2 Try.results52 hk rfl rfl) (fun w hs => ?_)
            rw [hr]
            first
              | exact ⟨_, [RowF Kd.eff none []], rfl, ⟨none, 0, rfl, rfl, Nat.le_refl _⟩, (rowF_nil (k := Kd.eff) none hs).fit (by repeat (first | exact Give.nil | (apply Give.perI; (repeat (first | exact List.Mem.head _ | apply List.Mem.tail))) | (apply Give.own; (repeat (first | exact Pick.here | apply Pick.there))))) (by repeat (first | exact Drop.refl | apply Drop.skip))⟩
              | exact ⟨_, [RowF Kd.eff p2 acc], rfl, ⟨p2, cap2, rfl, rfl, hcap2⟩, hs.fit (by repeat (first | exact Give.nil | (apply Give.perI; (repeat (first | exact List.Mem.head _ | apply List.Mem.tail))) | (apply Give.own; (repeat (first | exact Pick.here | apply Pick.there))))) (by repeat (first | exact Drop.refl | apply Drop.skip))⟩
end Go.Proofs.Ytlellgnklohclaa.L
