/- Walk: postelaw18.EffectShort. -/
import Derived.Test.YtlellgnklohclaaE4
namespace Go.Proofs.Ytlellgnklohclaa.L
open Go Go.Proofs
attribute [local irreducible] pv fv pt fz RowF RowO rowP old pure_ elA Rd.int Rd.text Rd.flag Rd.msg Rd.rint Rd.rtext Rd.rflag Rd.rmsg
set_option maxRecDepth 100000
set_option linter.unusedSimpArgs false
set_option linter.unusedVariables false
attribute [local irreducible] Rd.eff Rd.reff effRead effsBytes

set_option maxHeartbeats 1600000 in
theorem law_EffectShort (q : Option Addr) (cap : Nat) (l : List Eff) (cut : Int) (hcap : l.length ≤ cap) (hmax : (cap : Int) ≤ 9223372036854775807) (hB : ∀ e ∈ l, e.fits) : Fn Try.prog 13 [.slice q l.length cap, .int .i64 cut].toArray [RowF Kd.eff q l] (fun r post => r = .bool true ∧ post = []) := by
  refine Fn.enter (N := 67) Try.func13 rfl Try.ntmps13 (by kernel_rfl) rfl (fun ρ L => ?_)
  repeat (first | refine K.seq ?_ | refine K.skip ?_ | refine K.block ?_ | refine K.inBlock ?_ | refine K.label ?_)
  refine K.region ?_
  refine KO.q rfl (q_assign rfl) ?_
  refine KO.done ?_
  repeat (first | refine K.seq ?_ | refine K.skip ?_ | refine K.block ?_ | refine K.inBlock ?_ | refine K.label ?_)
  refine K.region ?_
  refine KO.loud rfl (OpL.callG rfl (by repeat (first | exact Give.nil | (apply Give.perI; (repeat (first | exact List.Mem.head _ | apply List.Mem.tail))) | (apply Give.own; (repeat (first | exact Pick.here | apply Pick.there))))) (alive18)) ?_
  rintro _ _ ⟨_, ⟨rfl, rfl⟩, rfl⟩
  refine KO.q rfl (q_assign rfl) ?_
  refine KO.done ?_
  repeat (first | refine K.seq ?_ | refine K.skip ?_ | refine K.block ?_ | refine K.inBlock ?_ | refine K.label ?_)
  refine K.region ?_
  refine KO.q rfl (q_move rfl) ?_
  refine KO.q rfl (q_not rfl) ?_
  refine KO.q rfl (q_move rfl) ?_
  refine KO.q rfl (q_move rfl) ?_
  refine KO.loud rfl (OpL.callG rfl (by repeat (first | exact Give.nil | (apply Give.perI; (repeat (first | exact List.Mem.head _ | apply List.Mem.tail))) | (apply Give.own; (repeat (first | exact Pick.here | apply Pick.there))))) (long18 _ _ _ (by first | omega | (simp; omega)))) ?_
  rintro _ _ ⟨_, ⟨lg2, rfl, hlg2, rfl⟩, rfl⟩
  refine KO.q rfl (q_pickF rfl rfl) ?_
  refine KO.q rfl (q_move rfl) ?_
  refine KO.split 19 rfl (fun g19 => ?_) (fun g19 => ?_)
  · refine KO.skip rfl ?_
    refine KO.skip rfl ?_
    refine KO.q rfl (q_pickT rfl rfl) ?_
    refine KO.done ?_
    refine K.yes rfl ?_
    repeat (first | refine K.seq ?_ | refine K.skip ?_ | refine K.block ?_ | refine K.inBlock ?_ | refine K.label ?_)
    refine K.region ?_
    refine KO.q rfl (q_move rfl) ?_
    refine KO.q rfl (q_assign rfl) ?_
    refine KO.done ?_
    refine K.ret (fn := Try.f13) Try.func13 (fun a w hk hs => res1 Try.results13 hk rfl) (fun w hs => ?_)
    exact ⟨_, [], rfl, ⟨by first | rfl | simp, rfl⟩, hs.fit (by repeat (first | exact Give.nil | (apply Give.perI; (repeat (first | exact List.Mem.head _ | apply List.Mem.tail))) | (apply Give.own; (repeat (first | exact Pick.here | apply Pick.there))))) (by repeat (first | exact Drop.refl | apply Drop.skip))⟩
  · refine KO.q rfl (q_move rfl) ?_
    refine KO.q rfl (q_lt rfl rfl) ?_
    refine KO.q rfl (q_pickF rfl rfl) ?_
    refine KO.done ?_
    refine K.dcond (s := 22) rfl (fun g22 => ?_) (fun g22 => ?_)
    · repeat (first | refine K.seq ?_ | refine K.skip ?_ | refine K.block ?_ | refine K.inBlock ?_ | refine K.label ?_)
      refine K.region ?_
      refine KO.q rfl (q_move rfl) ?_
      refine KO.q rfl (q_assign rfl) ?_
      refine KO.done ?_
      refine K.ret (fn := Try.f13) Try.func13 (fun a w hk hs => res1 Try.results13 hk rfl) (fun w hs => ?_)
      exact ⟨_, [], rfl, ⟨by first | rfl | simp, rfl⟩, hs.fit (by repeat (first | exact Give.nil | (apply Give.perI; (repeat (first | exact List.Mem.head _ | apply List.Mem.tail))) | (apply Give.own; (repeat (first | exact Pick.here | apply Pick.there))))) (by repeat (first | exact Drop.refl | apply Drop.skip))⟩
    · have hl60 := hlg2 g19
      have hbl := effsBytes_length l
      have hne : 8 ≤ (effsBytes l).length := by unfold effsBytes; rw [List.length_append, wInt_length]; omega
      repeat (first | refine K.seq ?_ | refine K.skip ?_ | refine K.block ?_ | refine K.inBlock ?_ | refine K.label ?_)
      refine K.region ?_
      refine KO.q rfl (q_assign rfl) ?_
      refine KO.done ?_
      repeat (first | refine K.seq ?_ | refine K.skip ?_ | refine K.block ?_ | refine K.inBlock ?_ | refine K.label ?_)
      refine K.rloop (ι := { i : Nat // i ≤ l.length ∧ (l.take i).all Eff.right = true }) (fun x => [(6, .int .i64 x.1), (5, .bool true), (1, .int .i64 cut), (0, .slice q l.length cap)]) (fun x => l.length - x.1) ⟨0, Nat.zero_le _, rfl⟩ (by repeat (first | exact Env.sub_nil _ | refine Env.sub_cons rfl ?_)) (fun x ih => ?_)
      obtain ⟨i, hi, hall⟩ := x
      dsimp only at hi hall ⊢
      repeat (first | refine K.seq ?_ | refine K.skip ?_ | refine K.block ?_ | refine K.inBlock ?_ | refine K.label ?_)
      refine K.region ?_
      refine KO.q rfl (q_move rfl) ?_
      refine KO.q rfl (q_move rfl) ?_
      refine KO.q rfl (q_len Try.underlying59 rfl) ?_
      refine KO.q rfl (q_lt rfl rfl) ?_
      refine KO.done ?_
      refine K.dcond (s := 27) rfl (fun g27 => ?_) (fun g27 => ?_)
      · obtain ⟨e, he⟩ : ∃ e, l[i]? = some e := ⟨_, List.getElem?_eq_getElem (by omega)⟩
        repeat (first | refine K.seq ?_ | refine K.skip ?_ | refine K.block ?_ | refine K.inBlock ?_ | refine K.label ?_)
        refine K.region ?_
        refine KO.q rfl (q_move rfl) ?_
        refine KO.q rfl (q_move rfl) ?_
        first | refine KO.q rfl (q_ix _ se_59 rfl rfl rfl isF (by repeat (first | exact List.Mem.head _ | apply List.Mem.tail)) rfl (by first | assumption | omega | exact (List.getElem?_eq_some_iff.1 (by assumption)).1 | (simp; omega))) ?_ | refine KO.q rfl (q_ix _ se_59 rfl rfl rfl isO (by repeat (first | exact List.Mem.head _ | apply List.Mem.tail)) rfl (by first | assumption | omega | exact (List.getElem?_eq_some_iff.1 (by assumption)).1 | (simp; omega))) ?_
        first | refine KO.q rfl (q_ldEN ck_63 rfl isF (by repeat (first | exact List.Mem.head _ | apply List.Mem.tail)) (by first | assumption | exact List.getElem?_eq_getElem (by first | assumption | omega | (simp; omega)))) ?_ | refine KO.q rfl (q_ldEN ck_63 rfl isO (by repeat (first | exact List.Mem.head _ | apply List.Mem.tail)) (by first | assumption | exact List.getElem?_eq_getElem (by first | assumption | omega | (simp; omega)))) ?_
        refine KO.loud rfl (OpL.callG rfl (by repeat (first | exact Give.nil | (apply Give.perI; (repeat (first | exact List.Mem.head _ | apply List.Mem.tail))) | (apply Give.own; (repeat (first | exact Pick.here | apply Pick.there))))) (ref_RightEffect _)) ?_
        rintro _ _ ⟨_, ⟨rfl, rfl⟩, rfl⟩
        refine KO.q rfl (q_not rfl) ?_
        refine KO.done ?_
        refine K.bcond (s := 35) rfl (fun g35 => ?_) (fun g35 => ?_)
        · repeat (first | refine K.seq ?_ | refine K.skip ?_ | refine K.block ?_ | refine K.inBlock ?_ | refine K.label ?_)
          refine K.region ?_
          refine KO.q rfl (q_assign rfl) ?_
          refine KO.done ?_
          refine K.ret (fn := Try.f13) Try.func13 (fun a w hk hs => res1 Try.results13 hk rfl) (fun w hs => ?_)
          exact ⟨_, [], rfl, ⟨by first | rfl | simp, rfl⟩, hs.fit (by repeat (first | exact Give.nil | (apply Give.perI; (repeat (first | exact List.Mem.head _ | apply List.Mem.tail))) | (apply Give.own; (repeat (first | exact Pick.here | apply Pick.there))))) (by repeat (first | exact Drop.refl | apply Drop.skip))⟩
        · repeat (first | refine K.seq ?_ | refine K.skip ?_ | refine K.block ?_ | refine K.inBlock ?_ | refine K.label ?_)
          refine K.region ?_
          refine KO.q rfl (q_move rfl) ?_
          refine KO.q rfl (q_add rfl rfl (by first | omega | (simp; omega)) (by first | omega | (simp; omega))) ?_
          refine KO.q rfl (q_assign rfl) ?_
          refine KO.done ?_
          exact K.subE (by repeat (first | exact Env.sub_nil _ | refine Env.sub_cons rfl ?_)) (ih ⟨i + 1, by omega, by rw [List.take_add_one, he, List.all_append, hall]; simpa using g35⟩ (by show l.length - (i + 1) < l.length - i; omega))
      · obtain rfl : i = l.length := by omega
        rw [List.take_length] at hall
        have hrd := fun r => effRead_bytes l r (by omega) hB
        have hr0 : effRead (effsBytes l) = some l := by
          have h := hrd []
          rw [List.append_nil] at h
          rw [h, if_pos ⟨hall, rfl⟩]
        have hr1 : effRead (effsBytes l ++ [0]) = none := by rw [hrd, if_neg (by simp)]
        have hm0 : 0 ≤ cut.tmod ((effsBytes l).length : Int) := Int.tmod_nonneg _ (by omega)
        have hm1 : cut.tmod ((effsBytes l).length : Int) < (effsBytes l).length := Int.tmod_lt_of_pos _ (by omega)
        have htl : ((effsBytes l).take (cut.tmod ((effsBytes l).length : Int)).toNat).length = (cut.tmod ((effsBytes l).length : Int)).toNat := by rw [List.length_take]; omega
        have hrn := effRead_pre hr0 (cut.tmod ((effsBytes l).length : Int)).toNat (by omega)
        refine K.exit rfl ?_
        repeat (first | refine K.seq ?_ | refine K.skip ?_ | refine K.block ?_ | refine K.inBlock ?_ | refine K.label ?_)
        refine K.region ?_
        refine KO.q rfl (q_move rfl) ?_
        refine KO.loud rfl (OpL.callG rfl (by repeat (first | exact Give.nil | (apply Give.perI; (repeat (first | exact List.Mem.head _ | apply List.Mem.tail))) | (apply Give.own; (repeat (first | exact Pick.here | apply Pick.there))))) (eff_Bytes _ _ _ (by first | omega | (simp; omega)))) ?_
        rintro _ _ ⟨_, ⟨q4, c4, rfl, rfl, hc4⟩, rfl⟩
        refine KO.q rfl (q_assign rfl) ?_
        refine KO.done ?_
        repeat (first | refine K.seq ?_ | refine K.skip ?_ | refine K.block ?_ | refine K.inBlock ?_ | refine K.label ?_)
        refine K.region ?_
        refine KO.q rfl (q_move rfl) ?_
        refine KO.q rfl (q_len Try.underlying25 rfl) ?_
        refine KO.q rfl (q_eqF rfl rfl ((by omega))) ?_
        refine KO.done ?_
        refine K.no rfl ?_
        repeat (first | refine K.seq ?_ | refine K.skip ?_ | refine K.block ?_ | refine K.inBlock ?_ | refine K.label ?_)
        refine K.region ?_
        refine KO.q rfl (q_move rfl) ?_
        refine KO.q rfl (q_move rfl) ?_
        refine KO.q rfl (q_move rfl) ?_
        refine KO.q rfl (q_len Try.underlying25 rfl) ?_
        refine KO.q rfl (q_rem rfl rfl (by first | omega | (simp; omega))) ?_
        refine KO.q rfl (q_cutH se_25 rfl rfl hm0 (by omega)) ?_
        refine KO.st (fun w h => rowF_take (cut.tmod ((effsBytes l).length : Int)).toNat (p := q4) (xs := effsBytes l) (by repeat (first | exact List.Mem.head _ | apply List.Mem.tail)) h) ?_
        generalize (effsBytes l).take (cut.tmod ((effsBytes l).length : Int)).toNat = T at htl hrn ⊢
        rw [← htl]
        refine KO.loud rfl (OpL.callG rfl (by repeat (first | exact Give.nil | (apply Give.perI; (repeat (first | exact List.Mem.head _ | apply List.Mem.tail))) | (apply Give.own; (repeat (first | exact Pick.here | apply Pick.there))))) (eff_Read_none _ _ T (by omega) hrn)) ?_
        rintro _ _ ⟨_, ⟨q5, c5, rfl, rfl⟩, rfl⟩
        refine KO.q rfl (q_move rfl) ?_
        refine KO.q rfl (q_extract rfl rfl) ?_
        refine KO.q rfl (q_extract rfl rfl) ?_
        refine KO.q rfl (q_assign rfl) ?_
        refine KO.q rfl (q_assign rfl) ?_
        refine KO.done ?_
        repeat (first | refine K.seq ?_ | refine K.skip ?_ | refine K.block ?_ | refine K.inBlock ?_ | refine K.label ?_)
        refine K.st (fun w h => rowO_nil (k := Kd.u8) 5 h) ?_
        refine K.region ?_
        refine KO.q rfl (q_move rfl) ?_
        refine KO.loud rfl (l_append Kd.u8 se_25 Try.underlying25 ⟨_, ze_5, rfl⟩ (by decide) rfl rfl Pick.here (isF (xs := effsBytes l)) (by repeat (first | exact List.Mem.head _ | apply List.Mem.tail)) rfl rfl (by simp; omega)) ?_
        rintro _ _ ⟨p0, cap0, rfl, rfl⟩
        rw [List.nil_append]
        refine KO.loud rfl (l_slice sz_25_1 rfl (by repeat (first | exact Fill.nil | (apply Fill.cons; rfl; rfl; rfl) | exact SetN.nil | apply SetN.cons | exact SetAt.here | apply SetAt.there))) ?_
        rintro _ _ ⟨b54, rfl, rfl⟩
        refine KO.st (fun w h => pv_rowU [0] rfl h) ?_
        refine KO.loud rfl (l_append Kd.u8 se_25 Try.underlying25 ⟨_, ze_5, rfl⟩ (by decide) rfl rfl (by repeat (first | exact Pick.here | apply Pick.there)) (isF (xs := [0])) (by repeat (first | exact List.Mem.head _ | apply List.Mem.tail)) rfl rfl (by simp; omega)) ?_
        rintro _ _ ⟨p1, cap1, rfl, rfl⟩
        refine KO.st (fun w h => rowO_freeze h) ?_
        refine KO.loud rfl (OpL.callG rfl (by repeat (first | exact Give.nil | (apply Give.perI; (repeat (first | exact List.Mem.head _ | apply List.Mem.tail))) | (apply Give.own; (repeat (first | exact Pick.here | apply Pick.there))))) (eff_Read_none _ _ (effsBytes l ++ [0]) (by simp; omega) hr1)) ?_
        rintro _ _ ⟨_, ⟨q6, c6, rfl, rfl⟩, rfl⟩
        refine KO.q rfl (q_move rfl) ?_
        refine KO.q rfl (q_extract rfl rfl) ?_
        refine KO.q rfl (q_extract rfl rfl) ?_
        refine KO.q rfl (q_assign rfl) ?_
        refine KO.q rfl (q_assign rfl) ?_
        refine KO.done ?_
        repeat (first | refine K.seq ?_ | refine K.skip ?_ | refine K.block ?_ | refine K.inBlock ?_ | refine K.label ?_)
        refine K.region ?_
        refine KO.q rfl (q_move rfl) ?_
        refine KO.loud rfl (OpL.callG rfl (by repeat (first | exact Give.nil | (apply Give.perI; (repeat (first | exact List.Mem.head _ | apply List.Mem.tail))) | (apply Give.own; (repeat (first | exact Pick.here | apply Pick.there))))) (num18 _)) ?_
        rintro _ _ ⟨_, ⟨rfl, rfl⟩, rfl⟩
        refine KO.q rfl (q_eqT rfl rfl (rfl)) ?_
        refine KO.q rfl (q_move rfl) ?_
        refine KO.q rfl (q_move rfl) ?_
        refine KO.loud rfl (OpL.callG rfl (by repeat (first | exact Give.nil | (apply Give.perI; (repeat (first | exact List.Mem.head _ | apply List.Mem.tail))) | (apply Give.own; (repeat (first | exact Pick.here | apply Pick.there))))) (num18 _)) ?_
        rintro _ _ ⟨_, ⟨rfl, rfl⟩, rfl⟩
        refine KO.q rfl (q_eqT rfl rfl (rfl)) ?_
        refine KO.q rfl (q_pickT rfl rfl) ?_
        refine KO.q rfl (q_assign rfl) ?_
        refine KO.done ?_
        refine K.ret (fn := Try.f13) Try.func13 (fun a w hk hs => res1 Try.results13 hk rfl) (fun w hs => ?_)
        exact ⟨_, [], rfl, ⟨by first | rfl | simp, rfl⟩, hs.fit (by repeat (first | exact Give.nil | (apply Give.perI; (repeat (first | exact List.Mem.head _ | apply List.Mem.tail))) | (apply Give.own; (repeat (first | exact Pick.here | apply Pick.there))))) (by repeat (first | exact Drop.refl | apply Drop.skip))⟩
end Go.Proofs.Ytlellgnklohclaa.L
