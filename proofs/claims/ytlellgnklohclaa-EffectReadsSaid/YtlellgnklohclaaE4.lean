/- Walk: the law's own example of changes. -/
import Derived.Test.YtlellgnklohclaaE3a
import Derived.Test.YtlellgnklohclaaE3b
import Derived.Test.YtlellgnklohclaaE3c
namespace Go.Proofs.Ytlellgnklohclaa.L
open Go Go.Proofs
attribute [local irreducible] pv fv pt fz RowF RowO rowP old pure_ elA Rd.int Rd.text Rd.flag Rd.msg Rd.rint Rd.rtext Rd.rflag Rd.rmsg
set_option maxRecDepth 100000
set_option linter.unusedSimpArgs false
set_option linter.unusedVariables false
attribute [local irreducible] Rd.eff Rd.reff effRead effsBytes

def eff5 : Eff := ⟨8, ⟨#[]⟩, ⟨#[]⟩, ⟨#[]⟩, 5, 0, false, ⟨0, 0, 0, false, ⟨#[]⟩, ⟨#[]⟩⟩⟩
theorem eff5_fits : eff5.fits := by unfold Eff.fits Msg.fits; decide
theorem eff5_right : eff5.right = true := by decide
theorem effRead_nil : effRead [] = none := by
  have : Rd.int ⟨[], false⟩ = (0, ⟨[], true⟩) := by unfold Rd.int; rfl
  rw [effRead_of this, if_pos (.inl rfl)]
theorem effRead_eff5 : effRead (effsBytes [eff5]) = some [eff5] := by
  have h := effRead_bytes [eff5] [] (by simp) (fun e he => by rw [List.mem_singleton.1 he]; exact eff5_fits)
  rw [List.append_nil] at h
  rw [h, if_pos ⟨by simp [eff5_right], rfl⟩]
theorem effRead_len {b : List UInt8} {l : List Eff} (h : effRead b = some l) : l.length ≤ 10000 := by
  have key : ∀ (n : Nat) (s : Rd) (l : List Eff), (Rd.effs n s).1 = some l → l.length = n := by
    intro n
    induction n with
    | zero => intro s l h; rw [effs_zero] at h; cases h; rfl
    | succ n ih =>
      intro s l h
      rw [effs_succ] at h
      split at h
      · cases h
      · obtain ⟨l', h1, rfl⟩ := Option.map_eq_some_iff.1 h
        rw [List.length_cons, ih _ _ h1]
  obtain ⟨n, s, hi⟩ : ∃ n s, Rd.int ⟨b, false⟩ = (n, s) := ⟨_, _, rfl⟩
  rw [effRead_of hi] at h
  split at h
  · cases h
  · rename_i hc
    cases hx : (Rd.effs n.toNat s).1 with
    | none => rw [hx] at h; cases h
    | some l' =>
      rw [hx] at h
      dsimp only at h
      split at h
      · cases h
        rw [key _ _ _ hx]
        have : ¬ 10000 < n := fun q => hc (.inr (.inr q))
        omega
      · cases h
theorem effRead_lenD (b : List UInt8) : ((effRead b).getD []).length ≤ 10000 := by
  cases h : effRead b with
  | none => simp
  | some l => exact effRead_len h
--%call poste/postelaw18.alive := alive18
set_option maxHeartbeats 800000 in
theorem alive18 : Fn Try.prog 43 [].toArray [] (fun r post => r = .bool true ∧ post = []) := by
  refine Fn.enter (N := 36) Try.func43 rfl Try.ntmps43 (by kernel_rfl) rfl (fun ρ L => ?_)
  repeat (first | refine K.seq ?_ | refine K.skip ?_ | refine K.block ?_ | refine K.inBlock ?_ | refine K.label ?_)
  refine K.region ?_
  refine KO.q rfl (q_assign rfl) ?_
  refine KO.done ?_
  repeat (first | refine K.seq ?_ | refine K.skip ?_ | refine K.block ?_ | refine K.inBlock ?_ | refine K.label ?_)
  refine K.st (fun w h => rowF_nil (k := Kd.u8) none h) ?_
  refine K.region ?_
  refine KO.loud rfl (OpL.call rfl (eff_Read_none none 0 [] (by simp) effRead_nil) (by repeat (first | exact Give.nil | (apply Give.perI; (repeat (first | exact List.Mem.head _ | apply List.Mem.tail))) | (apply Give.own; (repeat (first | exact Pick.here | apply Pick.there)))))) ?_
  rintro _ _ ⟨_, ⟨q0, c0, rfl, rfl⟩, rfl⟩
  refine KO.q rfl (q_move rfl) ?_
  refine KO.q rfl (q_extract rfl rfl) ?_
  refine KO.q rfl (q_extract rfl rfl) ?_
  refine KO.q rfl (q_assign rfl) ?_
  refine KO.q rfl (q_assign rfl) ?_
  refine KO.done ?_
  repeat (first | refine K.seq ?_ | refine K.skip ?_ | refine K.block ?_ | refine K.inBlock ?_ | refine K.label ?_)
  refine K.region ?_
  refine KO.q rfl (q_as_eff (q_build st_63 rfl (by repeat (first | exact Fill.nil | (apply Fill.cons; rfl; rfl; rfl) | exact SetN.nil | apply SetN.cons | exact SetAt.here | apply SetAt.there))) (by rfl)) ?_
  refine KO.loud rfl (l_slice1 sz_59_1 rfl rfl ⟨rfl, rfl, rfl⟩) ?_
  rintro _ _ ⟨b11, rfl, rfl⟩
  refine KO.st (fun w h => pv_rowF1 (k := Kd.eff) eff5 (fun g => rfl) h) ?_
  refine KO.loud rfl (OpL.call rfl (eff_Bytes (some ⟨b11, 0, none⟩) 1 [eff5] (by simp)) (by repeat (first | exact Give.nil | (apply Give.perI; (repeat (first | exact List.Mem.head _ | apply List.Mem.tail))) | (apply Give.own; (repeat (first | exact Pick.here | apply Pick.there)))))) ?_
  rintro _ _ ⟨_, ⟨q1, c1, rfl, rfl, hc1⟩, rfl⟩
  refine KO.loud rfl (OpL.callG rfl (by repeat (first | exact Give.nil | (apply Give.perI; (repeat (first | exact List.Mem.head _ | apply List.Mem.tail))) | (apply Give.own; (repeat (first | exact Pick.here | apply Pick.there))))) (eff_Read_some _ _ _ (by have := effsBytes_length [eff5]; simp at this; omega) effRead_eff5)) ?_
  rintro _ _ ⟨_, ⟨q2, c2, rfl, rfl, hc2⟩, rfl⟩
  refine KO.q rfl (q_move rfl) ?_
  refine KO.q rfl (q_extract rfl rfl) ?_
  refine KO.q rfl (q_extract rfl rfl) ?_
  refine KO.q rfl (q_assign rfl) ?_
  refine KO.q rfl (q_assign rfl) ?_
  refine KO.done ?_
  repeat (first | refine K.seq ?_ | refine K.skip ?_ | refine K.block ?_ | refine K.inBlock ?_ | refine K.label ?_)
  have he : [eff5][0]? = some eff5 := rfl
  refine K.region ?_
  refine KO.q rfl (q_move rfl) ?_
  refine KO.loud rfl (OpL.callG rfl (by repeat (first | exact Give.nil | (apply Give.perI; (repeat (first | exact List.Mem.head _ | apply List.Mem.tail))) | (apply Give.own; (repeat (first | exact Pick.here | apply Pick.there))))) (num18 _)) ?_
  rintro _ _ ⟨_, ⟨rfl, rfl⟩, rfl⟩
  refine KO.q rfl (q_eqT rfl rfl (rfl)) ?_
  refine KO.q rfl (q_move rfl) ?_
  refine KO.q rfl (q_move rfl) ?_
  refine KO.loud rfl (OpL.callG rfl (by repeat (first | exact Give.nil | (apply Give.perI; (repeat (first | exact List.Mem.head _ | apply List.Mem.tail))) | (apply Give.own; (repeat (first | exact Pick.here | apply Pick.there))))) (num18 _)) ?_
  rintro _ _ ⟨_, ⟨rfl, rfl⟩, rfl⟩
  refine KO.q rfl (q_eqT rfl rfl (rfl)) ?_
  refine KO.q rfl (q_pickT rfl rfl) ?_
  refine KO.q rfl (q_move rfl) ?_
  refine KO.q rfl (q_move rfl) ?_
  refine KO.q rfl (q_len Try.underlying59 rfl) ?_
  refine KO.q rfl (q_eqT rfl rfl (rfl)) ?_
  refine KO.q rfl (q_pickT rfl rfl) ?_
  refine KO.q rfl (q_move rfl) ?_
  refine KO.q rfl (q_move rfl) ?_
  first | refine KO.q rfl (q_ix 0 se_59 rfl rfl rfl isF (by repeat (first | exact List.Mem.head _ | apply List.Mem.tail)) rfl (by first | assumption | omega | exact (List.getElem?_eq_some_iff.1 (by assumption)).1 | (simp; omega))) ?_ | refine KO.q rfl (q_ix 0 se_59 rfl rfl rfl isO (by repeat (first | exact List.Mem.head _ | apply List.Mem.tail)) rfl (by first | assumption | omega | exact (List.getElem?_eq_some_iff.1 (by assumption)).1 | (simp; omega))) ?_
  refine KO.q rfl (q_fieldE fo_63_4 rfl) ?_
  first | refine KO.q rfl (q_ldE ck_3 rfl isF (by repeat (first | exact List.Mem.head _ | apply List.Mem.tail)) (by first | assumption | exact List.getElem?_eq_getElem (by first | assumption | omega | (simp; omega))) rfl) ?_ | refine KO.q rfl (q_ldE ck_3 rfl isO (by repeat (first | exact List.Mem.head _ | apply List.Mem.tail)) (by first | assumption | exact List.getElem?_eq_getElem (by first | assumption | omega | (simp; omega))) rfl) ?_
  refine KO.q rfl (q_eqT rfl rfl (rfl)) ?_
  refine KO.q rfl (q_pickT rfl rfl) ?_
  refine KO.q rfl (q_assign rfl) ?_
  refine KO.done ?_
  refine K.ret (fn := Try.f43) Try.func43 (fun a w hk hs => res1 Try.results43 hk rfl) (fun w hs => ?_)
  exact ⟨_, [], rfl, ⟨rfl, rfl⟩, hs.fit (by repeat (first | exact Give.nil | (apply Give.perI; (repeat (first | exact List.Mem.head _ | apply List.Mem.tail))) | (apply Give.own; (repeat (first | exact Pick.here | apply Pick.there))))) (by repeat (first | exact Drop.refl | apply Drop.skip))⟩
end Go.Proofs.Ytlellgnklohclaa.L
