/- Walk: postelaw18.EffectReads. -/
import Derived.Test.YtlellgnklohclaaE4
import Derived.Test.YtlellgnklohclaaE3r
namespace Go.Proofs.Ytlellgnklohclaa.L
open Go Go.Proofs
attribute [local irreducible] pv fv pt fz RowF RowO rowP old pure_ elA Rd.int Rd.text Rd.flag Rd.msg Rd.rint Rd.rtext Rd.rflag Rd.rmsg
set_option maxRecDepth 100000
set_option linter.unusedSimpArgs false
set_option linter.unusedVariables false
attribute [local irreducible] Rd.eff Rd.reff effRead effsBytes

set_option maxHeartbeats 800000 in
theorem law_EffectReads (q : Option Addr) (cap : Nat) (bs : List UInt8) (hcap : bs.length ≤ cap) : Fn Try.prog 12 [.slice q bs.length cap].toArray [RowF Kd.u8 q bs] (fun r post => r = .bool true ∧ post = []) := by
  have hlen := effRead_lenD bs
  refine Fn.enter (N := 37) Try.func12 rfl Try.ntmps12 (by kernel_rfl) rfl (fun ρ L => ?_)
  repeat (first | refine K.seq ?_ | refine K.skip ?_ | refine K.block ?_ | refine K.inBlock ?_ | refine K.label ?_)
  refine K.region ?_
  refine KO.q rfl (q_assign rfl) ?_
  refine KO.done ?_
  repeat (first | refine K.seq ?_ | refine K.skip ?_ | refine K.block ?_ | refine K.inBlock ?_ | refine K.label ?_)
  refine K.region ?_
  refine KO.loud rfl (OpL.callG rfl (by repeat (first | exact Give.nil | (apply Give.perI; (repeat (first | exact List.Mem.head _ | apply List.Mem.tail))) | (apply Give.own; (repeat (first | exact Pick.here | apply Pick.there))))) (alive18)) ?_
  rintro _ _ ⟨_, ⟨rfl, rfl⟩, rfl⟩
  refine KO.q rfl (q_assign rfl) ?_
  refine KO.done ?_
  repeat (first | refine K.seq ?_ | refine K.skip ?_ | refine K.block ?_ | refine K.inBlock ?_ | refine K.label ?_)
  refine K.region ?_
  refine KO.q rfl (q_move rfl) ?_
  refine KO.q rfl (q_not rfl) ?_
  refine KO.q rfl (q_move rfl) ?_
  refine KO.q rfl (q_move rfl) ?_
  refine KO.q rfl (q_len Try.underlying25 rfl) ?_
  refine KO.q rfl (q_gt rfl rfl) ?_
  refine KO.q rfl (q_pickF rfl rfl) ?_
  refine KO.done ?_
  refine K.dcond (s := 15) rfl (fun g15 => ?_) (fun g15 => ?_)
  · repeat (first | refine K.seq ?_ | refine K.skip ?_ | refine K.block ?_ | refine K.inBlock ?_ | refine K.label ?_)
    refine K.region ?_
    refine KO.q rfl (q_move rfl) ?_
    refine KO.q rfl (q_assign rfl) ?_
    refine KO.done ?_
    refine K.ret (fn := Try.f12) Try.func12 (fun a w hk hs => res1 Try.results12 hk rfl) (fun w hs => ?_)
    exact ⟨_, [], rfl, ⟨by first | rfl | simp, rfl⟩, hs.fit (by repeat (first | exact Give.nil | (apply Give.perI; (repeat (first | exact List.Mem.head _ | apply List.Mem.tail))) | (apply Give.own; (repeat (first | exact Pick.here | apply Pick.there))))) (by repeat (first | exact Drop.refl | apply Drop.skip))⟩
  · repeat (first | refine K.seq ?_ | refine K.skip ?_ | refine K.block ?_ | refine K.inBlock ?_ | refine K.label ?_)
    refine K.st (fun w h => rowO_nil (k := Kd.u8) 5 h) ?_
    refine K.region ?_
    refine KO.q rfl (q_move rfl) ?_
    refine KO.loud rfl (l_append Kd.u8 se_25 Try.underlying25 ⟨_, ze_5, rfl⟩ (by decide) rfl rfl Pick.here isF (by repeat (first | exact List.Mem.head _ | apply List.Mem.tail)) rfl rfl (by simp; omega)) ?_
    rintro _ _ ⟨p0, cap0, rfl, rfl⟩
    rw [List.nil_append]
    refine KO.st (fun w h => rowO_freeze h) ?_
    refine KO.loud rfl (OpL.callG rfl (by repeat (first | exact Give.nil | (apply Give.perI; (repeat (first | exact List.Mem.head _ | apply List.Mem.tail))) | (apply Give.own; (repeat (first | exact Pick.here | apply Pick.there))))) (eff_Read _ _ _ (by first | omega | (simp; omega)))) ?_
    rintro _ _ ⟨_, ⟨q2, c2, rfl, rfl, hc2⟩, rfl⟩
    refine KO.q rfl (q_move rfl) ?_
    refine KO.q rfl (q_extract rfl rfl) ?_
    refine KO.q rfl (q_extract rfl rfl) ?_
    refine KO.q rfl (q_assign rfl) ?_
    refine KO.q rfl (q_assign rfl) ?_
    refine KO.done ?_
    repeat (first | refine K.seq ?_ | refine K.skip ?_ | refine K.block ?_ | refine K.inBlock ?_ | refine K.label ?_)
    refine K.region ?_
    refine KO.q rfl (q_move rfl) ?_
    refine KO.loud rfl (OpL.callG rfl (by repeat (first | exact Give.nil | (apply Give.perI; (repeat (first | exact List.Mem.head _ | apply List.Mem.tail))) | (apply Give.own; (repeat (first | exact Pick.here | apply Pick.there))))) (ref_ReadEffects _ _ _ (by assumption) (by first | omega | (simp; omega)))) ?_
    rintro _ _ ⟨_, ⟨q3, c3, rfl, rfl, hc3⟩, rfl⟩
    refine KO.q rfl (q_move rfl) ?_
    refine KO.q rfl (q_extract rfl rfl) ?_
    refine KO.q rfl (q_extract rfl rfl) ?_
    refine KO.q rfl (q_assign rfl) ?_
    refine KO.q rfl (q_assign rfl) ?_
    refine KO.done ?_
    repeat (first | refine K.seq ?_ | refine K.skip ?_ | refine K.block ?_ | refine K.inBlock ?_ | refine K.label ?_)
    refine K.region ?_
    refine KO.q rfl (q_move rfl) ?_
    refine KO.q rfl (q_move rfl) ?_
    refine KO.loud rfl (OpL.callG rfl (by repeat (first | exact Give.nil | (apply Give.perI; (repeat (first | exact List.Mem.head _ | apply List.Mem.tail))) | (apply Give.own; (repeat (first | exact Pick.here | apply Pick.there))))) (ref_SameEffects _ _ _ _ _ _ (by first | omega | (simp; omega)))) ?_
    rintro _ _ ⟨_, ⟨rfl, rfl⟩, rfl⟩
    refine KO.q rfl (q_move rfl) ?_
    refine KO.split 31 rfl (fun g31 => ?_) (fun g31 => ?_)
    · refine KO.q rfl (q_move rfl) ?_
      refine KO.loud rfl (OpL.callG rfl (by repeat (first | exact Give.nil | (apply Give.perI; (repeat (first | exact List.Mem.head _ | apply List.Mem.tail))) | (apply Give.own; (repeat (first | exact Pick.here | apply Pick.there))))) (num18 _)) ?_
      rintro _ _ ⟨_, ⟨rfl, rfl⟩, rfl⟩
      refine KO.q rfl (q_move rfl) ?_
      refine KO.q rfl (q_eqT rfl rfl (rfl)) ?_
      refine KO.q rfl (q_pickT rfl rfl) ?_
      refine KO.q rfl (q_assign rfl) ?_
      refine KO.done ?_
      refine K.ret (fn := Try.f12) Try.func12 (fun a w hk hs => res1 Try.results12 hk rfl) (fun w hs => ?_)
      exact ⟨_, [], rfl, ⟨by first | rfl | simp, rfl⟩, hs.fit (by repeat (first | exact Give.nil | (apply Give.perI; (repeat (first | exact List.Mem.head _ | apply List.Mem.tail))) | (apply Give.own; (repeat (first | exact Pick.here | apply Pick.there))))) (by repeat (first | exact Drop.refl | apply Drop.skip))⟩
    · simp at g31
end Go.Proofs.Ytlellgnklohclaa.L
