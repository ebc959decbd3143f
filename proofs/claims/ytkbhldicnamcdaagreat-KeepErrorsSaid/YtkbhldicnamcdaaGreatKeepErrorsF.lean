/- What cannot be done turns nothing, of many changes none is done then, and the store goes on; no condition. -/
import Derived.KernelRfl
import Derived.Test.YtkbhldicnamcdaaGreatKeepErrorsE
namespace Go.Proofs.YtkbhldicnamcdaaGreat.L
open Go Go.Proofs
attribute [local irreducible] pv fv pt fz RowF RowO rowP old pure_ elA Rd.int Rd.text Rd.flag Rd.msg Rd.rint Rd.rtext Rd.rflag Rd.rmsg
set_option maxRecDepth 100000
set_option linter.unusedSimpArgs false
set_option linter.unusedVariables false
attribute [local irreducible] DkX
theorem kAppend_st (k : Ks) (b : List UInt8) (d : Dk) : (kAppend k b d).2.1.st = k.st ∧ (kAppend k b d).2.1.dead = k.dead := by
  unfold kAppend
  split
  · split
    · exact ⟨rfl, rfl⟩
    · dsimp only
      split
      · exact ⟨kRenew_st k d, kRenew_dead k d⟩
      · exact ⟨kRenew_st k d, kRenew_dead k d⟩
  · exact ⟨rfl, rfl⟩
set_option maxHeartbeats 3200000 in
theorem ks_Do (s p : Nat) (d : Dk) (k : Ks) (z : KsI k) (q : Option Addr) (c : Nat) (l : List Eff) (hk : KsOk k) (hw : d.wf) (h354 : 354 ≤ d.len) (hc : d.cnt ≤ 60000000) (hl : l.length ≤ 10000) : Fn Tryz.prog 24 [.pointer (some ⟨s, 0, none⟩), .slice q l.length c].toArray (RowF Kd.eff q l :: KsF s p k z ++ [DkX p d])
    (fun r post => ∃ z' : KsI (kDo k l d).2.1, r = .int .i64 (kDo k l d).1 ∧ post = KsF s p (kDo k l d).2.1 z' ++ [DkX p (kDo k l d).2.2]) := by
  have hg := z.good hk
  have hcn := apply_cnt k.st l
  have hk30 := hk.cnt
  refine Fn.enter (N := 52) Tryz.func24 rfl Tryz.ntmps24 tK rfl (fun ρ L => ?_)
  refine K.seq <| K.region <| KO.q rfl (q_assign rfl) <| KO.done <| K.seq <| K.seq <| K.region <| KO.q rfl (q_move rfl) <| KO.q rfl (q_pnil Tryz.underlying36 rfl rfl) <| KO.q rfl (q_move rfl) <| KO.q rfl (q_move rfl) ?_
  refine KO.q rfl (q_nilCheck rfl) <| KO.q rfl (q_field fo_97_4 rfl) <| KO.q rfl (q_load1D ck_4 rfl) <| KO.q rfl (q_pickF rfl rfl) <| KO.done ?_
  first | refine K.dcond (s := 14) rfl (fun g14 => ?_) (fun g14 => ?_) | refine K.bcond (s := 14) rfl (fun g14 => ?_) (fun g14 => ?_)
  · have hr : kDo k l d = (12, k, d) := by unfold kDo; rw [if_pos g14]
    refine K.seq <| K.region <| KO.q rfl (q_assign rfl) <| KO.done ?_
    refine kr1 Tryz.func24 Tryz.results24 rfl (fun w hs => ?_)
    rw [hr]
    exact ⟨_, KsF s p k z ++ [DkX p d], rfl, ⟨z, rfl, rfl⟩, hs.fitD⟩
  · have hdd : ¬ k.dead = true := by simpa using g14
    refine K.skip <| K.seq <| K.region <| KO.q rfl (q_move rfl) <| KO.q rfl (q_nilCheck rfl) <| KO.q rfl (q_field fo_97_2 rfl) <| KO.q rfl (q_as_sz (l_ := z.sz.l) (q_loadN ck_47 rfl rfl (cells_pvAt tM rfl)) rfl) <| KO.q rfl (q_move rfl) <| KO.loud rfl (OpL.callD rfl (h := st_Apply (RowF Kd.eff q l) z.sz 30000 q c l isF hg tO)) ?_
    rintro _ _ ⟨_, ⟨s', rfl, hs1, rfl, hs2⟩, rfl⟩
    rw [z.hs] at hs1 ⊢
    refine KO.q rfl (q_move rfl) <| KO.q rfl (q_extract rfl rfl) <| KO.q rfl (q_extract rfl rfl) <| KO.loud rfl (l_alloc zo_47) ?_
    rintro _ _ ⟨b5, rfl, rfl⟩
    refine KO.loudN rfl (l_storeAll ck_47 rfl rfl ⟨rfl, rfl⟩ (sz_one _) tP) ?_
    rintro _ _ ⟨rfl, rfl⟩
    refine KO.q rfl (q_assign rfl) <| KO.done <| K.seq <| K.block <| K.seq <| K.region <| KO.q rfl (q_move rfl) <| KO.q rfl (q_ne rfl rfl) <| KO.q rfl (q_assign rfl) <| KO.done ?_
    refine K.dcond (s := 24) rfl (fun g24 => ?_) (fun g24 => ?_)
    · have hr : kDo k l d = ((applyS k.st l).2, k, d) := by unfold kDo; rw [if_neg hdd, if_pos g24]
      refine K.seq <| K.region <| KO.q rfl (q_move rfl) <| KO.q rfl (q_assign rfl) <| KO.done ?_
      refine kr1 Tryz.func24 Tryz.results24 rfl (fun w hs => ?_)
      rw [hr]
      exact ⟨_, KsF s p k z ++ [DkX p d], rfl, ⟨z, rfl, rfl⟩, hs.fitD⟩
    · have h0 := Decidable.not_not.1 g24
      have ha := apply_right h0
      have hsz := size_right ha.2.1
      have hok' := Sz.ok_of hs2.sm hs2.room hs2.cap
      have hfw' := Sz.few_of hs2.sm tO
      refine K.seq <| K.region <| KO.q rfl (q_as_sz (l_ := s'.l) (q_loadN ck_47 rfl rfl tC) rfl) <| KO.loud rfl (OpL.callD rfl (h := st_Size s' hok' hfw' (by rw [hs1]; omega))) ?_
      rintro _ _ ⟨_, ⟨rfl, rfl⟩, rfl⟩
      rw [hs1]
      refine KO.q rfl (q_gt rfl rfl) <| KO.q rfl (q_assign rfl) <| KO.done ?_
      refine K.dcond (s := 28) rfl (fun g28 => ?_) (fun g28 => ?_)
      · have hr : kDo k l d = (9, k, d) := by unfold kDo; rw [if_neg hdd, if_neg g24, if_pos g28]
        refine K.seq <| K.region <| KO.q rfl (q_assign rfl) <| KO.done ?_
        refine kr1 Tryz.func24 Tryz.results24 rfl (fun w hs => ?_)
        rw [hr]
        exact ⟨_, KsF s p k z ++ [DkX p d], rfl, ⟨z, rfl, rfl⟩, hs.fitD⟩
      · refine K.seq <| K.region <| KO.q rfl (q_move rfl) <| KO.q rfl (q_len Tryz.underlying64 rfl) <| KO.q rfl (q_eq rfl rfl) <| KO.q rfl (q_assign rfl) <| KO.done ?_
        refine K.dcond (s := 32) rfl (fun g32 => ?_) (fun g32 => ?_)
        · have hl0 : l = [] := List.length_eq_zero_iff.1 tO
          have hr : kDo k l d = (0, k, d) := by unfold kDo; rw [if_neg hdd, if_neg g24, if_neg g28, if_pos hl0]
          refine K.seq <| K.region <| KO.q rfl (q_assign rfl) <| KO.done ?_
          refine kr1 Tryz.func24 Tryz.results24 rfl (fun w hs => ?_)
          rw [hr]
          exact ⟨_, KsF s p k z ++ [DkX p d], rfl, ⟨z, rfl, rfl⟩, hs.fitD⟩
        · have hl0 : ¬ l = [] := fun e => g32 (by rw [e]; rfl)
          obtain ⟨r, hrr⟩ : ∃ r, kAppend k (effsBytes l) d = r := ⟨_, rfl⟩
          have hr : kDo k l d = (r.1, { r.2.1 with dead := decide (r.1 = 12), st := if r.1 = 0 then (applyS k.st l).1 else k.st }, r.2.2) := by unfold kDo; rw [if_neg hdd, if_neg g24, if_neg g28, if_neg hl0]; dsimp only; rw [hrr]
          have hst := kAppend_st k (effsBytes l) d
          rw [hrr] at hst
          refine K.skip <| K.inBlock <| K.seq <| K.region <| KO.q rfl (q_move rfl) <| KO.q rfl (q_move rfl) <| KO.loud rfl (OpL.callD rfl (h := eff_Bytes q c l tO)) ?_
          rintro _ _ ⟨_, ⟨qb, cb, rfl, rfl, hcb⟩, rfl⟩
          refine KO.loud rfl (OpL.callD rfl (h := ks_append (RowF Kd.u8 qb (effsBytes l)) s p d k z qb cb (effsBytes l) isF hk hw h354 tO)) ?_
          rintro _ _ ⟨_, ⟨z2, rfl, rfl⟩, rfl⟩
          revert z2
          rw [hrr]
          intro z2
          refine KO.q rfl (q_assign rfl) <| KO.done <| K.seq <| K.region <| KO.q rfl (q_move rfl) <| KO.q rfl (q_move rfl) <| KO.q rfl (q_eq rfl rfl) <| KO.q rfl (q_nilCheck rfl) <| KO.q rfl (q_field fo_97_4 rfl) <| KO.loudN rfl (l_store1 ck_4 rfl rfl rfl tP tA) ?_
          rintro _ _ ⟨rfl, rfl⟩
          refine KO.done <| K.seq <| K.seq <| K.region <| KO.q rfl (q_move rfl) <| KO.q rfl (q_eq rfl rfl) <| KO.done ?_
          refine K.dcond (s := 46) rfl (fun g46 => ?_) (fun g46 => ?_)
          · have hr2 : kDo k l d = (r.1, { r.2.1 with dead := decide (r.1 = 12), st := (applyS k.st l).1 }, r.2.2) := by rw [hr, if_pos g46]
            refine K.region <| KO.q rfl (q_move rfl) <| KO.q rfl (q_as_sz (l_ := s'.l) (q_loadN ck_47 rfl rfl tC) rfl) <| KO.q rfl (q_nilCheck rfl) <| KO.q rfl (q_field fo_97_2 rfl) <| KO.loudN rfl (l_storeN ck_47 rfl rfl rfl (sz_one _) tP tSN) ?_
            rintro _ _ ⟨rfl, rfl⟩
            refine KO.done <| K.seq <| K.region <| KO.q rfl (q_move rfl) <| KO.q rfl (q_assign rfl) <| KO.done ?_
            refine kr1 Tryz.func24 Tryz.results24 rfl (fun w hs => ?_)
            rw [hr2]
            exact ⟨_, KsF s p { r.2.1 with dead := decide (r.1 = 12), st := (applyS k.st l).1 } ⟨z2.l, z2.zl, s', hs1, hs2.room, hs2.cap⟩ ++ [DkX p r.2.2], rfl, ⟨_, rfl, rfl⟩, hs.fitD⟩
          · have hr2 : kDo k l d = (r.1, { r.2.1 with dead := decide (r.1 = 12), st := k.st }, r.2.2) := by rw [hr, if_neg g46]
            refine K.skip <| K.seq <| K.region <| KO.q rfl (q_move rfl) <| KO.q rfl (q_assign rfl) <| KO.done ?_
            refine kr1 Tryz.func24 Tryz.results24 rfl (fun w hs => ?_)
            rw [hr2]
            exact ⟨_, KsF s p { r.2.1 with dead := decide (r.1 = 12), st := k.st } ⟨z2.l, z2.zl, z2.sz, by rw [z2.hs]; exact hst.1, z2.room, z2.cap⟩ ++ [DkX p r.2.2], rfl, ⟨_, rfl, rfl⟩, hs.fitD⟩
theorem ks_Epoch (s p : Nat) (k : Ks) (z : KsI k) : Fn Tryz.prog 22 [.pointer (some ⟨s, 0, none⟩)].toArray (KsF s p k z) (fun r post => r = .int .i64 k.epoch ∧ post = KsF s p k z) := by
  refine Fn.enter (N := 9) Tryz.func22 rfl Tryz.ntmps22 tK rfl (fun ρ L => ?_)
  refine K.seq <| K.region <| KO.q rfl (q_assign rfl) <| KO.done <| K.seq <| K.seq <| K.region <| KO.q rfl (q_move rfl) <| KO.q rfl (q_pnil Tryz.underlying36 rfl rfl) <| KO.done <| K.no rfl ?_
  refine K.skip <| K.seq <| K.region <| KO.q rfl (q_move rfl) <| KO.q rfl (q_nilCheck rfl) <| KO.q rfl (q_field fo_97_3 rfl) <| KO.q rfl (q_load1D ck_3 rfl) <| KO.q rfl (q_assign rfl) <| KO.done ?_
  refine kr1 Tryz.func22 Tryz.results22 rfl (fun w hs => ?_)
  exact ⟨_, KsF s p k z, rfl, ⟨rfl, rfl⟩, hs.fitD⟩
theorem ks_State (s p : Nat) (k : Ks) (z : KsI k) (hk : KsOk k) : Fn Tryz.prog 21 [.pointer (some ⟨s, 0, none⟩)].toArray (KsF s p k z) (fun r post => ∃ s' : Sz, r = .agg s'.cells.toArray ∧ s'.st = k.st ∧ s'.good 30000 ∧ post = StL s' ++ KsF s p k z) := by
  have hg := z.good hk
  have hlen := Sz.len_of hg.sm
  refine Fn.enter (N := 11) Tryz.func21 rfl Tryz.ntmps21 tK rfl (fun ρ L => ?_)
  refine K.seq <| K.region <| KO.loud rfl (l_alloc zo_47) ?_
  rintro _ _ ⟨b2, rfl, rfl⟩
  refine KO.done <| K.seq <| K.seq <| K.region <| KO.q rfl (q_move rfl) <| KO.q rfl (q_pnil Tryz.underlying36 rfl rfl) <| KO.done <| K.no rfl <| K.skip <| K.seq <| K.region <| KO.q rfl (q_move rfl) ?_
  refine KO.q rfl (q_nilCheck rfl) <| KO.q rfl (q_field fo_97_2 rfl) <| KO.q rfl (q_as_sz (l_ := z.sz.l) (q_loadN ck_47 rfl rfl (cells_pvAt tM rfl)) rfl) <| KO.loud rfl (OpL.callD rfl (h := st_CloneO z.sz hlen (fun o ho => Oz.le_of (hg.sm.oz ho) tD))) ?_
  rintro _ _ ⟨_, ⟨q', c', l', rfl, rfl, hl1, hl2, hl3⟩, rfl⟩
  refine KO.loudN rfl (l_storeAll ck_47 rfl rfl ⟨rfl, rfl⟩ (sz_one _) tP) ?_
  rintro _ _ ⟨rfl, rfl⟩
  refine KO.done <| K.st (fun w h => rowO_freeze (k := Kd.oz) (e := 62) (p := q') (cap := c') (xs := l') (h.pick tP)) <| K.st (fun w h => allO_freeze (l := l') (h.pick tP)) ?_
  have hst : Sz.st ⟨z.sz.next, q', c', l'⟩ = k.st := by rw [← z.hs]; unfold Sz.st; rw [hl1]
  have hgd : Sz.good ⟨z.sz.next, q', c', l'⟩ 30000 := ⟨by rw [hst]; exact st_small hk.right hk.cnt tD, hl2, hl3⟩
  refine K.ret (fn := Tryz.f21) Tryz.func21 (fun a w hk hs => resC Tryz.results21 hk rfl ck_47 rfl (cells_pv tM w hs)) (fun w hs => ?_)
  exact ⟨_, StL ⟨z.sz.next, q', c', l'⟩ ++ KsF s p k z, rfl, ⟨⟨z.sz.next, q', c', l'⟩, rfl, hst, hgd, rfl⟩, hs.fitD⟩
end Go.Proofs.YtkbhldicnamcdaaGreat.L
namespace Go.Proofs.YtkbhldicnamcdaaGreat.L
open Go Go.Proofs
attribute [local irreducible] pv fv pt fz RowF RowO rowP old pure_ elA Rd.int Rd.text Rd.flag Rd.msg Rd.rint Rd.rtext Rd.rflag Rd.rmsg
set_option maxRecDepth 100000
set_option linter.unusedSimpArgs false
set_option linter.unusedVariables false
attribute [local irreducible] DkX
theorem rtOne_le {d : Dk} {w : Int} {p : Int × List UInt8} (h : rtOne d w = some p) : p.2.length ≤ 6144 := by
  unfold rtOne at h
  dsimp only at h
  split at h
  · cases h
  · rename_i hc
    cases h
    have h1 := Dk.spanGet_cut d (rtPlace (rtSize (d.read w)).1) (rtSize (d.read w)).2
    simp only [Bool.or_eq_true, decide_eq_true_eq, not_or] at hc
    have h2 : ¬ 6144 < (rtSize (d.read w)).2 := hc.1.1.2
    have h3 : ¬ (rtSize (d.read w)).2 < 0 := hc.1.1.1.2
    have h4 : Dk.cutN (rtSize (d.read w)).2 ≤ 6144 := by unfold Dk.cutN; omega
    show (d.spanGet _ _).length ≤ 6144
    omega
theorem rtB_le (d : Dk) : (rtB (rtRead d)).length ≤ 6144 := by
  have key : ∀ o : Option (Int × List UInt8), (∀ p, o = some p → p.2.length ≤ 6144) → (rtB o).length ≤ 6144 := fun o h => by
    cases o with
    | none => exact Nat.zero_le _
    | some p => exact h p rfl
  refine key _ (fun p hp => ?_)
  unfold rtRead at hp
  split at hp
  · rename_i p1 h1
    split at hp
    · cases hp; exact rtOne_le h1
    · exact rtOne_le hp
  · exact rtOne_le hp
theorem Sz.cap_of {s : Sz} (h : s.ok) : s.l.length ≤ s.c ∧ ∀ o ∈ s.l, o.cap := ⟨h.2.2.1, fun o ho => (h.2.2.2 o ho).2⟩
theorem none_of {α : Type} {o : Option α} (h : ¬ (if o.isSome = true then (0 : Int) else 11) = 0) : o = none := by
  rcases o with _ | x
  · rfl
  · exact absurd rfl h
theorem some_of {α : Type} {o : Option α} (h : ¬ ¬ (if o.isSome = true then (0 : Int) else 11) = 0) : ∃ x, o = some x := by
  rcases o with _ | x
  · exact absurd (show (11 : Int) = 0 from Decidable.not_not.1 h) tD
  · exact ⟨x, rfl⟩
theorem none_of' {α : Type} {o : Option α} (h : ¬ o.isSome = true) : o = none := by
  rcases o with _ | x
  · rfl
  · exact absurd rfl h
set_option maxHeartbeats 3200000 in
theorem ks_read (s p : Nat) (d : Dk) (hw : d.wf) (h354 : 354 ≤ d.len) : Fn Tryz.prog 42 [.pointer (some ⟨s, 0, none⟩)].toArray [pv s 97 (ksC (.pointer none) p ⟨0, none, 0, []⟩ 0 false), DkX p d]
    (fun r post => (r = .int .i64 11 ∧ post = [DkX p d] ∧ kRead d = none) ∨ ∃ k, ∃ z : KsI k, r = .int .i64 0 ∧ post = KsF s p k z ++ [DkX p d] ∧ kRead d = some k ∧ KsOk k) := by
  have hbl := rtB_le d
  have hfail : ∀ {w' : World} {ρ : World} {L : List HP}, kRead d = none → St ρ ([DkX p d] ++ L) w' → Post ρ L (fun r post => (r = .int .i64 11 ∧ post = [DkX p d] ∧ kRead d = none) ∨ ∃ k, ∃ z : KsI k, r = .int .i64 0 ∧ post = KsF s p k z ++ [DkX p d] ∧ kRead d = some k ∧ KsOk k) (.returned (.int .i64 11)) w' := fun hn hs => ⟨_, [DkX p d], rfl, .inl ⟨rfl, rfl, hn⟩, hs⟩
  refine Fn.enter (N := 75) Tryz.func42 rfl Tryz.ntmps42 tK rfl (fun ρ L => ?_)
  refine K.seq <| K.region <| KO.q rfl (q_assign rfl) <| KO.done <| K.seq <| K.region <| KO.q rfl (q_move rfl) <| KO.q rfl (q_as_sz (l_ := []) (q_build st_47 rfl tF) rfl) <| KO.q rfl (q_nilCheck rfl) <| KO.q rfl (q_field fo_97_2 rfl) ?_
  refine KO.loudN rfl (l_storeN ck_47 rfl rfl rfl (sz_one _) tP tSN) ?_
  rintro _ _ ⟨rfl, rfl⟩
  refine KO.done <| K.seq <| K.region <| KO.q rfl (q_move rfl) <| KO.q rfl (q_nilCheck rfl) <| KO.q rfl (q_field fo_97_1 rfl) <| KO.q rfl (q_load1D ck_25 rfl) <| KO.loud rfl (OpL.callD rfl (h := rt_Read p d hw)) ?_
  rintro _ _ ⟨_, ⟨qi, ci, rfl, rfl, hci⟩, rfl⟩
  refine KO.q rfl (q_move rfl) <| KO.q rfl (q_extract rfl rfl) <| KO.q rfl (q_extract rfl rfl) <| KO.q rfl (q_extract rfl rfl) <| KO.q rfl (q_assign rfl) <| KO.q rfl (q_assign rfl) <| KO.q rfl (q_assign rfl) <| KO.done <| K.seq <| K.seq <| K.region ?_
  refine KO.q rfl (q_move rfl) <| KO.done ?_
  refine K.via (ι := { x : Sz × Int // kStart d = some (x.1.st, x.2) ∧ x.1.st.right = true ∧ x.1.st.cnt ≤ 6144 ∧ x.1.l.length ≤ x.1.c ∧ ∀ o ∈ x.1.l, o.cap }) (I := fun x => ([(0, .pointer (some ⟨s, 0, none⟩))], pv s 97 (ksC (.pointer none) p x.1.1 x.1.2 false) :: StL x.1.1 ++ [DkX p d] ++ L)) (fun x => ?_) (fun cont => ?_)
  · obtain ⟨⟨s0, e0⟩, hstart, hr0, hc0, hcp0⟩ := x
    dsimp only at hstart hr0 hc0 hcp0 ⊢
    refine K.seq <| K.region <| KO.q rfl (q_move rfl) <| KO.loud rfl (OpL.callD rfl (h := ks_begin s p d (.pointer none) s0 e0 false hw h354)) ?_
    rintro _ _ ⟨_, ⟨l, zl, rfl, rfl⟩, rfl⟩
    have hlgw := kBegin_wf hw e0
    have hkr : kRead d = (recsS s0.st (kBegin d e0).recs).map (fun t => ⟨t, e0, false, kBegin d e0⟩) := by unfold kRead; rw [hstart]
    have htot := hlgw.tot
    have hnxe := hlgw.nx
    have hend : (kBegin d e0).end_ ≤ 354 ∧ 194 ≤ (kBegin d e0).at_ := kBegin_at d e0
    generalize kBegin d e0 = g at hlgw hkr htot hnxe hend zl ⊢
    refine KO.done <| K.seq <| K.seq <| K.region <| KO.q rfl (q_move rfl) <| KO.q rfl (q_nilCheck rfl) <| KO.q rfl (q_field fo_97_0 rfl) <| KO.q rfl (q_load1D ck_95 rfl) <| KO.loud rfl (OpL.callD rfl (h := lg_Records l p g zl hlgw)) ?_
    rintro _ _ ⟨_, ⟨qr, cr, R, rfl, hR, hRc, rfl⟩, rfl⟩
    have hRl : R.length = g.recs.length := by rw [← hR, List.length_map]
    have hgl := hlgw.len
    refine KO.q rfl (q_len Tryz.underlying80 rfl) <| KO.q rfl (q_move rfl) <| KO.done <| K.block ?_
    refine K.rounds2 (ι := { x : Nat × Sz // x.1 ≤ R.length ∧ recsS s0.st g.recs = recsS x.2.st (g.recs.drop x.1) ∧ x.2.st.right = true ∧ x.2.st.cnt ≤ 6144 + ((g.recs.take x.1).map List.length).sum ∧ x.2.l.length ≤ x.2.c ∧ ∀ o ∈ x.2.l, o.cap }) (fun x => [(49, .int .i64 x.1.1), (48, .int .i64 R.length), (47, .slice qr R.length cr), (0, .pointer (some ⟨s, 0, none⟩))]) (fun x => pv s 97 (ksC (.pointer (some ⟨l, 0, none⟩)) p x.1.2 e0 false) :: LgF l p g zl ++ StL x.1.2 ++ [RowO Kd.sb 23 qr cr R, NestSl Kd.u8 R, DkX p d] ++ L) (fun x => R.length - x.1.1) ⟨(0, s0), Nat.zero_le _, rfl, hr0, by show s0.st.cnt ≤ 6144 + _; omega, hcp0⟩ tS (fun w h => h.fitD) (fun x ih => ?_)
    obtain ⟨⟨i, si⟩, hi, hrec, hri, hci2, hrm, hcpi⟩ := x
    dsimp only at hi hrec hri hci2 hrm hcpi ⊢
    have hbnd := sum_take_le (f := List.length) g.recs i
    have hgd : si.good 20000 := ⟨st_small hri tO tD, hrm, hcpi⟩
    refine K.seq <| K.region <| KO.q rfl (q_lt rfl rfl) <| KO.done <| K.seq ?_
    refine K.dcond (s := 50) rfl (fun g50 => ?_) (fun g50 => ?_)
    · obtain ⟨sl, hsl⟩ : ∃ sl, R[i]? = some sl := ⟨_, List.getElem?_eq_getElem tO⟩
      have hbr : g.recs[i]? = some sl.l := by rw [← hR, List.getElem?_map, hsl]; rfl
      have hbm := List.mem_of_getElem? hsl
      have hb26 := hlgw.sz _ (List.mem_of_getElem? hbr)
      have hdr : g.recs.drop i = sl.l :: g.recs.drop (i + 1) := by
        obtain ⟨h1, h2⟩ := List.getElem?_eq_some_iff.1 hbr
        rw [← h2, List.getElem_cons_drop h1]
      have hsum := sum_succ (f := List.length) hbr
      have hb2 := sum_take_le (f := List.length) g.recs (i + 1)
      rw [hdr] at hrec
      refine K.st (fun w h => nestSl_at (l := R) (s := sl) tM hbm h) <| K.skip <| K.seq <| K.block <| K.seq <| K.region <| KO.q rfl (q_ix (xs := R) i se_80 rfl rfl rfl isO tM rfl tO) <| KO.q rfl (q_ldE (xs := R) (el := sl) ck_23 rfl isO tM hsl rfl) <| KO.q rfl (q_assign rfl) <| KO.done <| K.seq <| K.region <| KO.q rfl (q_move rfl) ?_
      refine KO.loud rfl (OpL.callD rfl (h := eff_Read sl.q sl.c sl.l tO)) ?_
      rintro _ _ ⟨_, ⟨qe, ce, rfl, rfl, hce⟩, rfl⟩
      refine KO.q rfl (q_move rfl) <| KO.q rfl (q_extract rfl rfl) <| KO.q rfl (q_extract rfl rfl) <| KO.q rfl (q_assign rfl) <| KO.q rfl (q_assign rfl) <| KO.done <| K.seq <| K.seq <| K.region <| KO.q rfl (q_move rfl) <| KO.q rfl (q_ne rfl rfl) ?_
      refine KO.done ?_
      refine K.dcond (s := 59) rfl (fun g59 => ?_) (fun g59 => ?_)
      · have hkn : kRead d = none := by
          have h1 : effRead sl.l = none := none_of g59
          rw [hkr, hrec]; unfold recsS; rw [h1]; rfl
        refine K.seq <| K.region <| KO.q rfl (q_assign rfl) <| KO.done ?_
        refine kr1 Tryz.func42 Tryz.results42 rfl (fun w hs => ?_)
        exact hfail hkn (hs.fit (M := [DkX p d]) (L := L) tG (by repeat (first | exact Drop.refl | apply Drop.skip)))
      · obtain ⟨es, hes⟩ : ∃ es, effRead sl.l = some es := some_of g59
        have hel := effRead_len hes
        rw [hes]
        dsimp only [Option.getD_some]
        have hac := apply_cnt si.st es
        refine K.skip <| K.seq <| K.region <| KO.q rfl (q_move rfl) <| KO.q rfl (q_move rfl) <| KO.q rfl (q_nilCheck rfl) <| KO.q rfl (q_field fo_97_2 rfl) <| KO.q rfl (q_as_sz (l_ := si.l) (q_loadN ck_47 rfl rfl (cells_pvAt tM rfl)) rfl) <| KO.q rfl (q_move rfl) <| KO.loud rfl (OpL.callD rfl (h := st_Apply (RowF Kd.eff qe es) si 20000 qe ce es isF hgd tO)) ?_
        rintro _ _ ⟨_, ⟨s', rfl, hs1, rfl, hs2⟩, rfl⟩
        refine KO.q rfl (q_move rfl) <| KO.q rfl (q_extract rfl rfl) <| KO.q rfl (q_extract rfl rfl) <| KO.q rfl (q_nilCheck rfl) <| KO.q rfl (q_field fo_97_2 rfl) <| KO.loudN rfl (l_storeN ck_47 rfl rfl rfl (sz_one _) tP tSN) ?_
        rintro _ _ ⟨rfl, rfl⟩
        refine KO.q rfl (q_assign rfl) <| KO.done <| K.seq <| K.region <| KO.q rfl (q_move rfl) <| KO.q rfl (q_ne rfl rfl) <| KO.done ?_
        refine K.dcond (s := 73) rfl (fun g73 => ?_) (fun g73 => ?_)
        · have hkn : kRead d = none := by rw [hkr, hrec]; unfold recsS; rw [hes]; dsimp only; rw [if_neg g73]; rfl
          refine K.seq <| K.region <| KO.q rfl (q_assign rfl) <| KO.done ?_
          refine kr1 Tryz.func42 Tryz.results42 rfl (fun w hs => ?_)
          exact hfail hkn (hs.fit (M := [DkX p d]) (L := L) tG (by repeat (first | exact Drop.refl | apply Drop.skip)))
        · have h0 := Decidable.not_not.1 g73
          have har := apply_right h0
          have hrec2 : recsS s0.st g.recs = recsS s'.st (g.recs.drop (i + 1)) := by rw [hrec]; show (match effRead sl.l with | none => _ | some es => _) = _; rw [hes]; dsimp only; rw [if_pos h0, hs1]
          refine K.skip <| K.inBlock <| K.region <| KO.q rfl (q_add rfl rfl tN tN) <| KO.q rfl (q_move rfl) <| KO.done ?_
          exact K.weak tS (fun w h => h.fitD) (ih ⟨(i + 1, s'), by show i + 1 ≤ _; omega, hrec2, by show s'.st.right = true; rw [hs1]; exact har.2.1, by show s'.st.cnt ≤ _; rw [hs1]; show _ ≤ 6144 + ((g.recs.take (i + 1)).map List.length).sum; omega, hs2.room, hs2.cap⟩ (by show R.length - (i + 1) < R.length - i; omega))
    · obtain rfl : i = R.length := by omega
      have hkf : kRead d = some ⟨si.st, e0, false, g⟩ := by rw [hkr, hrec, hRl, List.drop_length]; rfl
      clear ih
      refine K.exit rfl <| K.seq <| K.region <| KO.q rfl (q_assign rfl) <| KO.done ?_
      refine kr1 Tryz.func42 Tryz.results42 rfl (fun w hs => ?_)
      exact ⟨_, KsF s p ⟨si.st, e0, false, g⟩ ⟨l, zl, si, rfl, hrm, hcpi⟩ ++ [DkX p d], rfl, .inr ⟨_, _, rfl, rfl, hkf, ⟨hri, by show si.st.cnt ≤ 30000; omega, hlgw⟩⟩, hs.fitD⟩
  · first | refine K.dcond (s := 25) rfl (fun g25 => ?_) (fun g25 => ?_) | refine K.bcond (s := 25) rfl (fun g25 => ?_) (fun g25 => ?_)
    · obtain ⟨pr, hpr⟩ : ∃ pr, rtRead d = some pr := Option.isSome_iff_exists.1 g25
      have hEe : rtE (rtRead d) = pr.1 := by rw [hpr]; rfl
      have hBe : rtB (rtRead d) = pr.2 := by rw [hpr]; rfl
      refine K.seq <| K.region <| KO.q rfl (q_move rfl) <| KO.loud rfl (OpL.callD rfl (h := im_Read qi ci (rtB (rtRead d)) tO)) ?_
      rintro _ _ ⟨_, ⟨sz, rfl, rfl, hok, hfew, hst⟩, rfl⟩
      refine KO.q rfl (q_move rfl) <| KO.q rfl (q_extract rfl rfl) <| KO.q rfl (q_extract rfl rfl) <| KO.loud rfl (l_alloc zo_47) ?_
      rintro _ _ ⟨b6, rfl, rfl⟩
      refine KO.loudN rfl (l_storeAll ck_47 rfl rfl ⟨rfl, rfl⟩ (sz_one _) tP) ?_
      rintro _ _ ⟨rfl, rfl⟩
      refine KO.q rfl (q_assign rfl) <| KO.done <| K.seq <| K.seq <| K.region <| KO.q rfl (q_move rfl) <| KO.q rfl (q_ne rfl rfl) <| KO.done ?_
      refine K.dcond (s := 32) rfl (fun g32 => ?_) (fun g32 => ?_)
      · have hkn : kRead d = none := by
          have h1 : imgRead pr.2 = none := by rw [← hBe]; exact none_of g32
          unfold kRead kStart; rw [hpr]; dsimp only; rw [h1]; rfl
        refine K.seq <| K.region <| KO.q rfl (q_assign rfl) <| KO.done ?_
        refine kr1 Tryz.func42 Tryz.results42 rfl (fun w hs => ?_)
        exact hfail hkn (hs.fit (M := [DkX p d]) (L := L) tG (by repeat (first | exact Drop.refl | apply Drop.skip)))
      · obtain ⟨x, hx⟩ : ∃ x, imgRead pr.2 = some x := by rw [hBe] at g32; exact some_of g32
        have hszx : sz.st = x := by rw [hst, hBe, hx]; rfl
        have hstart : kStart d = some (sz.st, rtE (rtRead d)) := by unfold kStart; rw [hpr]; dsimp only; rw [hx, hszx]; rfl
        have hcan := imgRead_can hx
        have hr0 : sz.st.right = true := by rw [hszx]; exact hcan.2
        have hc0 : sz.st.cnt ≤ 6144 := by
          have h1 := cnt_bytes x
          rw [← hcan.1, ← hBe] at h1
          rw [hszx]; omega
        refine K.skip <| K.region <| KO.q rfl (q_move rfl) <| KO.q rfl (q_move rfl) <| KO.q rfl (q_as_sz (l_ := sz.l) (q_loadN ck_47 rfl rfl tC) rfl) <| KO.q rfl (q_move rfl) <| KO.q rfl (q_nilCheck rfl) <| KO.q rfl (q_field fo_97_2 rfl) <| KO.loudN rfl (l_storeN ck_47 rfl rfl rfl (sz_one _) tP tSN) ?_
        rintro _ _ ⟨rfl, rfl⟩
        refine KO.q rfl (q_nilCheck rfl) <| KO.q rfl (q_field fo_97_3 rfl) <| KO.loudN rfl (l_store1 ck_3 rfl rfl rfl tP tA) ?_
        rintro _ _ ⟨rfl, rfl⟩
        refine KO.done ?_
        exact K.weak tS (fun w h => h.fitD) (cont ⟨(sz, rtE (rtRead d)), hstart, hr0, hc0, Sz.cap_of hok⟩)
    · refine K.skip ?_
      have hpr : rtRead d = none := none_of' (by rw [g25]; decide)
      have hstart : kStart d = some (Sz.st ⟨1, none, 0, []⟩, 0) := by unfold kStart; rw [hpr]; rfl
      refine K.st (fun w h => nestF_nil (rowF_nilA (k := Kd.oz) h)) ?_
      exact K.weak tS (fun w h => h.fitD) (cont ⟨(⟨1, none, 0, []⟩, 0), hstart, init_right, Nat.zero_le _, Nat.le_refl _, fun o ho => by cases ho⟩)
theorem kRenew_err (k : Ks) (d : Dk) : (kRenew k d).1 = 0 ∨ (kRenew k d).1 = 12 := by
  unfold kRenew
  dsimp only
  split
  · exact .inl rfl
  · exact .inr rfl
theorem claims_cnt (s : Stt) : (claimsS s).length ≤ s.cnt := by
  refine claims_len s ?_
  unfold Stt.cnt
  have key : ∀ l : List Ob, (l.map (fun o => o.msgs.length)).sum ≤ (l.map Ob.cnt).sum := fun l => by
    induction l with
    | nil => exact Nat.le_refl _
    | cons o l ih =>
      have : o.msgs.length ≤ o.cnt := by unfold Ob.cnt; omega
      simp only [List.map_cons, List.sum_cons]; omega
  exact key _
theorem freed_cnt (s : Stt) : Stt.cnt ⟨s.next, s.objs.map freedO⟩ = s.cnt := by
  unfold Stt.cnt
  dsimp only
  rw [List.map_map]
  congr 1
  refine List.map_congr_left (fun o _ => ?_)
  have := freedO_len o
  show (freedO o).cnt = o.cnt
  unfold Ob.cnt
  have hr : (freedO o).rows = o.rows := rfl
  rw [hr]; omega
theorem ks_Need : Fn Tryz.prog 23 ([] : List Value).toArray [] (fun r post => r = .int .i64 354 ∧ post = []) := by
  refine Fn.enter (N := 3) Tryz.func23 rfl Tryz.ntmps23 tK rfl (fun ρ L => ?_)
  refine K.seq <| K.region <| KO.q rfl (q_assign rfl) <| KO.done <| K.seq <| K.region <| KO.loud rfl (OpL.callD rfl (h := rt_Need)) ?_
  rintro _ _ ⟨_, ⟨rfl, rfl⟩, rfl⟩
  refine KO.q rfl (q_add rfl rfl tN tN) <| KO.q rfl (q_assign rfl) <| KO.done ?_
  refine kr1 Tryz.func23 Tryz.results23 rfl (fun w hs => ?_)
  exact ⟨_, [], rfl, ⟨rfl, rfl⟩, hs.fitD⟩
def OpenP (p : Nat) (d : Dk) (r : Value) (post : List HP) : Prop :=
  (¬ (kOpen d).1 = 0 ∧ r = .tuple #[.pointer none, .int .i64 (kOpen d).1] ∧ post = [DkX p (kOpen d).2.2]) ∨
  ((kOpen d).1 = 0 ∧ KsOk (kOpen d).2.1 ∧ ∃ s, ∃ z : KsI (kOpen d).2.1, r = .tuple #[.pointer (some ⟨s, 0, none⟩), .int .i64 0] ∧ post = KsF s p (kOpen d).2.1 z ++ [DkX p (kOpen d).2.2])
theorem ks_read_none (s p : Nat) (d : Dk) (hw : d.wf) (h354 : 354 ≤ d.len) (h : kRead d = none) : Fn Tryz.prog 42 [.pointer (some ⟨s, 0, none⟩)].toArray [pv s 97 (ksC (.pointer none) p ⟨0, none, 0, []⟩ 0 false), DkX p d]
    (fun r post => r = .int .i64 11 ∧ post = [DkX p d]) :=
  (ks_read s p d hw h354).mono fun r post hp => by
    rcases hp with ⟨h1, h2, _⟩ | ⟨k, z, _, _, h3, _⟩
    · exact ⟨h1, h2⟩
    · rw [h] at h3; cases h3
theorem ks_read_some (s p : Nat) (d : Dk) (hw : d.wf) (h354 : 354 ≤ d.len) {k : Ks} (h : kRead d = some k) : Fn Tryz.prog 42 [.pointer (some ⟨s, 0, none⟩)].toArray [pv s 97 (ksC (.pointer none) p ⟨0, none, 0, []⟩ 0 false), DkX p d]
    (fun r post => ∃ z : KsI k, r = .int .i64 0 ∧ post = KsF s p k z ++ [DkX p d] ∧ KsOk k) :=
  (ks_read s p d hw h354).mono fun r post hp => by
    rcases hp with ⟨_, _, h3⟩ | ⟨k', z, h1, h2, h3, h4⟩
    · rw [h] at h3; cases h3
    · rw [h] at h3; cases h3; exact ⟨z, h1, h2, h4⟩
theorem ks_Open_none (p : Nat) (d : Dk) (hw : d.wf) (h354 : 354 ≤ d.len) (h : kRead d = none) : Fn Tryz.prog 17 [.pointer (some ⟨p, 0, none⟩)].toArray [DkX p d] (OpenP p d) := by
  have hr : kOpen d = (11, ⟨⟨0, []⟩, 0, false, ⟨0, 0, 0, 0, [], false⟩⟩, d) := by unfold kOpen; rw [h]
  refine Fn.enter (N := 57) Tryz.func17 rfl Tryz.ntmps17 tK rfl (fun ρ L => ?_)
  refine K.seq <| K.region <| KO.q rfl (q_assign rfl) <| KO.q rfl (q_assign rfl) <| KO.done <| K.seq <| K.seq <| K.region <| KO.q rfl (q_move rfl) <| KO.loud rfl (OpL.callD rfl (h := dk_Len _ _)) ?_
  rintro _ _ ⟨_, ⟨rfl, rfl⟩, rfl⟩
  refine KO.loud rfl (OpL.callD rfl (h := ks_Need)) ?_
  rintro _ _ ⟨_, ⟨rfl, rfl⟩, rfl⟩
  refine KO.q rfl (q_lt rfl rfl) <| KO.done ?_
  refine K.dcond (s := 12) rfl (fun g12 => ?_) (fun g12 => ?_)
  · omega
  · refine K.skip <| K.seq <| K.region <| KO.q rfl (q_move rfl) <| KO.q rfl (q_build st_97 rfl tF) <| KO.loud rfl (l_box rfl rfl) ?_
    rintro _ _ ⟨b15, rfl, rfl⟩
    refine KO.q rfl (q_assign rfl) <| KO.done <| K.seq <| K.seq <| K.region <| KO.q rfl (q_move rfl) <| KO.loud rfl (OpL.callD rfl (h := ks_read_none b15 p d hw h354 h)) ?_
    rintro _ _ ⟨_, ⟨rfl, rfl⟩, rfl⟩
    refine KO.q rfl (q_assign rfl) <| KO.done <| K.seq <| K.region <| KO.q rfl (q_move rfl) <| KO.q rfl (q_ne rfl rfl) <| KO.done ?_
    refine K.dcond (s := 19) rfl (fun g19 => ?_) (fun g19 => ?_)
    · refine K.seq <| K.region <| KO.q rfl (q_move rfl) <| KO.q rfl (q_assign rfl) <| KO.q rfl (q_assign rfl) <| KO.done ?_
      refine kr2 Tryz.func17 Tryz.results17 rfl rfl (fun w hs => ?_)
      exact ⟨_, [DkX p d], rfl, .inl ⟨by rw [hr]; show ¬ (11 : Int) = 0; decide, by rw [hr], by rw [hr]⟩, hs.fitD⟩
    · exact absurd g19 tD
set_option maxHeartbeats 1600000 in
theorem ks_Open_some (p : Nat) (d : Dk) (hw : d.wf) (h354 : 354 ≤ d.len) (hc : d.cnt ≤ 60000000) {k : Ks} (h : kRead d = some k) : Fn Tryz.prog 17 [.pointer (some ⟨p, 0, none⟩)].toArray [DkX p d] (OpenP p d) := by
  have hr0 : kOpen d = if claimsS k.st = [] ∧ 0 < k.epoch then (0, k, d) else if (applyS k.st (claimsS k.st)).2 = 0 then kRenew { k with st := (applyS k.st (claimsS k.st)).1 } d else (11, k, d) := by unfold kOpen; rw [h]
  refine Fn.enter (N := 57) Tryz.func17 rfl Tryz.ntmps17 tK rfl (fun ρ L => ?_)
  refine K.seq <| K.region <| KO.q rfl (q_assign rfl) <| KO.q rfl (q_assign rfl) <| KO.done <| K.seq <| K.seq <| K.region <| KO.q rfl (q_move rfl) <| KO.loud rfl (OpL.callD rfl (h := dk_Len _ _)) ?_
  rintro _ _ ⟨_, ⟨rfl, rfl⟩, rfl⟩
  refine KO.loud rfl (OpL.callD rfl (h := ks_Need)) ?_
  rintro _ _ ⟨_, ⟨rfl, rfl⟩, rfl⟩
  refine KO.q rfl (q_lt rfl rfl) <| KO.done ?_
  refine K.dcond (s := 12) rfl (fun g12 => ?_) (fun g12 => ?_)
  · omega
  · refine K.skip <| K.seq <| K.region <| KO.q rfl (q_move rfl) <| KO.q rfl (q_build st_97 rfl tF) <| KO.loud rfl (l_box rfl rfl) ?_
    rintro _ _ ⟨b15, rfl, rfl⟩
    refine KO.q rfl (q_assign rfl) <| KO.done <| K.seq <| K.seq <| K.region <| KO.q rfl (q_move rfl) <| KO.loud rfl (OpL.callD rfl (h := ks_read_some b15 p d hw h354 h)) ?_
    rintro _ _ ⟨_, ⟨z, rfl, rfl, hk⟩, rfl⟩
    refine KO.q rfl (q_assign rfl) <| KO.done <| K.seq <| K.region <| KO.q rfl (q_move rfl) <| KO.q rfl (q_ne rfl rfl) <| KO.done ?_
    refine K.dcond (s := 19) rfl (fun g19 => ?_) (fun g19 => ?_)
    · exact absurd g19 tD
    · have hcl := claims_cnt k.st
      have hk30 := hk.cnt
      have hg := z.good hk
      have hcl2 : (claimsS z.sz.st).length ≤ 100000000 := by rw [z.hs]; omega
      have hap := apply_claims hk.right
      have hap0 : (applyS k.st (claimsS k.st)).2 = 0 := by rw [hap]
      have hapr := (apply_right hap0).2.1
      have hapc : (applyS k.st (claimsS k.st)).1.cnt ≤ 30000 := by rw [hap]; show Stt.cnt ⟨_, _⟩ ≤ _; rw [freed_cnt]; exact hk30
      have hk2 : KsOk { k with st := (applyS k.st (claimsS k.st)).1 } := ⟨hapr, hapc, hk.lg⟩
      refine K.skip <| K.seq <| K.region <| KO.q rfl (q_move rfl) <| KO.q rfl (q_nilCheck rfl) <| KO.q rfl (q_field fo_97_2 rfl) <| KO.q rfl (q_as_sz (l_ := z.sz.l) (q_loadN ck_47 rfl rfl (cells_pvAt tM rfl)) rfl) <| KO.loud rfl (OpL.callD rfl (h := st_Claims z.sz 30000 hg hcl2 tD)) ?_
      rintro _ _ ⟨_, ⟨qc, cc, rfl, rfl⟩, rfl⟩
      rw [z.hs]
      refine KO.q rfl (q_assign rfl) <| KO.done <| K.seq <| K.seq <| K.region <| KO.q rfl (q_move rfl) <| KO.q rfl (q_len Tryz.underlying64 rfl) <| KO.q rfl (q_eq rfl rfl) <| KO.q rfl (q_move rfl) ?_
      refine KO.dsplit 29 rfl (fun g29 => ?_) (fun g29 => ?_)
      · refine KO.q rfl (q_move rfl) <| KO.q rfl (q_nilCheck rfl) <| KO.q rfl (q_field fo_97_3 rfl) <| KO.q rfl (q_load1D ck_3 rfl) <| KO.q rfl (q_gt rfl rfl) <| KO.q rfl (q_pickT rfl rfl) <| KO.done ?_
        refine K.dcond (s := 35) rfl (fun g35 => ?_) (fun g35 => ?_)
        · have hcn : claimsS k.st = [] := List.length_eq_zero_iff.1 tO
          have hr : kOpen d = (0, k, d) := by rw [hr0, if_pos ⟨hcn, g35⟩]
          refine K.seq <| K.region <| KO.q rfl (q_move rfl) <| KO.q rfl (q_assign rfl) <| KO.q rfl (q_assign rfl) <| KO.done ?_
          refine kr2 Tryz.func17 Tryz.results17 rfl rfl (fun w hs => ?_)
          unfold OpenP; rw [hr]
          exact ⟨_, KsF b15 p k z ++ [DkX p d], rfl, .inr ⟨rfl, hk, b15, z, rfl, rfl⟩, hs.fitD⟩
        · have hr : kOpen d = kRenew { k with st := (applyS k.st (claimsS k.st)).1 } d := by rw [hr0, if_neg (fun hh => g35 hh.2), if_pos hap0]
          refine K.skip <| K.seq <| K.region <| KO.q rfl (q_assign rfl) <| KO.done <| K.seq <| K.seq <| K.region <| KO.q rfl (q_move rfl) <| KO.q rfl (q_move rfl) <| KO.q rfl (q_nilCheck rfl) <| KO.q rfl (q_field fo_97_2 rfl) ?_
          refine KO.q rfl (q_as_sz (l_ := z.sz.l) (q_loadN ck_47 rfl rfl (cells_pvAt tM rfl)) rfl) <| KO.q rfl (q_move rfl) <| KO.loud rfl (OpL.callD rfl (h := st_Apply (RowO Kd.eff 58 qc cc (claimsS k.st)) z.sz 30000 qc cc (claimsS k.st) isO hg tO)) ?_
          rintro _ _ ⟨_, ⟨s', rfl, hs1, rfl, hs2⟩, rfl⟩
          rw [z.hs] at hs1 ⊢
          refine KO.q rfl (q_move rfl) <| KO.q rfl (q_extract rfl rfl) <| KO.q rfl (q_extract rfl rfl) <| KO.q rfl (q_nilCheck rfl) <| KO.q rfl (q_field fo_97_2 rfl) <| KO.loudN rfl (l_storeN ck_47 rfl rfl rfl (sz_one _) tP tSN) ?_
          rintro _ _ ⟨rfl, rfl⟩
          refine KO.q rfl (q_assign rfl) <| KO.done <| K.seq <| K.region <| KO.q rfl (q_move rfl) <| KO.q rfl (q_ne rfl rfl) <| KO.done ?_
          refine K.dcond (s := 50) rfl (fun g50 => ?_) (fun g50 => ?_)
          · exact absurd hap0 g50
          · refine K.skip <| K.seq <| K.seq <| K.region <| KO.q rfl (q_move rfl) <| KO.loud rfl (OpL.callD rfl (h := ks_renew b15 p d { k with st := (applyS k.st (claimsS k.st)).1 } ⟨z.l, z.zl, s', hs1, hs2.room, hs2.cap⟩ hk2 hw h354 tO)) ?_
            rintro _ _ ⟨_, ⟨z2, rfl, rfl⟩, rfl⟩
            refine KO.q rfl (q_assign rfl) <| KO.done <| K.seq <| K.region <| KO.q rfl (q_move rfl) <| KO.q rfl (q_ne rfl rfl) <| KO.done ?_
            refine K.dcond (s := 54) rfl (fun g54 => ?_) (fun g54 => ?_)
            · have he := (kRenew_err { k with st := (applyS k.st (claimsS k.st)).1 } d).resolve_left g54
              refine K.seq <| K.region <| KO.q rfl (q_move rfl) <| KO.q rfl (q_assign rfl) <| KO.q rfl (q_assign rfl) <| KO.done ?_
              refine kr2 Tryz.func17 Tryz.results17 rfl rfl (fun w hs => ?_)
              unfold OpenP; rw [hr]
              exact ⟨_, [DkX p (kRenew { k with st := (applyS k.st (claimsS k.st)).1 } d).2.2], rfl, .inl ⟨g54, rfl, rfl⟩, hs.fitD⟩
            · have hok3 := kRenew_ok (d := d) hk2 hw
              refine K.skip <| K.seq <| K.region <| KO.q rfl (q_move rfl) <| KO.q rfl (q_assign rfl) <| KO.q rfl (q_assign rfl) <| KO.done ?_
              refine kr2 Tryz.func17 Tryz.results17 rfl rfl (fun w hs => ?_)
              unfold OpenP; rw [hr]
              exact ⟨_, KsF b15 p (kRenew { k with st := (applyS k.st (claimsS k.st)).1 } d).2.1 z2 ++ [DkX p (kRenew { k with st := (applyS k.st (claimsS k.st)).1 } d).2.2], rfl, .inr ⟨Decidable.not_not.1 g54, hok3, b15, z2, rfl, rfl⟩, hs.fitD⟩
      · have hr : kOpen d = kRenew { k with st := (applyS k.st (claimsS k.st)).1 } d := by rw [hr0, if_neg (fun hh => g29 (by rw [hh.1]; rfl)), if_pos hap0]
        refine KO.skip rfl <| KO.skip rfl <| KO.skip rfl <| KO.skip rfl <| KO.skip rfl <| KO.q rfl (q_pickF rfl rfl) <| KO.done <| K.no rfl <| K.skip <| K.seq <| K.region ?_
        refine KO.q rfl (q_assign rfl) <| KO.done <| K.seq <| K.seq <| K.region <| KO.q rfl (q_move rfl) <| KO.q rfl (q_move rfl) <| KO.q rfl (q_nilCheck rfl) <| KO.q rfl (q_field fo_97_2 rfl) <| KO.q rfl (q_as_sz (l_ := z.sz.l) (q_loadN ck_47 rfl rfl (cells_pvAt tM rfl)) rfl) <| KO.q rfl (q_move rfl) ?_
        refine KO.loud rfl (OpL.callD rfl (h := st_Apply (RowO Kd.eff 58 qc cc (claimsS k.st)) z.sz 30000 qc cc (claimsS k.st) isO hg tO)) ?_
        rintro _ _ ⟨_, ⟨s', rfl, hs1, rfl, hs2⟩, rfl⟩
        rw [z.hs] at hs1 ⊢
        refine KO.q rfl (q_move rfl) <| KO.q rfl (q_extract rfl rfl) <| KO.q rfl (q_extract rfl rfl) <| KO.q rfl (q_nilCheck rfl) <| KO.q rfl (q_field fo_97_2 rfl) <| KO.loudN rfl (l_storeN ck_47 rfl rfl rfl (sz_one _) tP tSN) ?_
        rintro _ _ ⟨rfl, rfl⟩
        refine KO.q rfl (q_assign rfl) <| KO.done <| K.seq <| K.region <| KO.q rfl (q_move rfl) <| KO.q rfl (q_ne rfl rfl) <| KO.done ?_
        refine K.dcond (s := 50) rfl (fun g50 => ?_) (fun g50 => ?_)
        · exact absurd hap0 g50
        · refine K.skip <| K.seq <| K.seq <| K.region <| KO.q rfl (q_move rfl) <| KO.loud rfl (OpL.callD rfl (h := ks_renew b15 p d { k with st := (applyS k.st (claimsS k.st)).1 } ⟨z.l, z.zl, s', hs1, hs2.room, hs2.cap⟩ hk2 hw h354 tO)) ?_
          rintro _ _ ⟨_, ⟨z2, rfl, rfl⟩, rfl⟩
          refine KO.q rfl (q_assign rfl) <| KO.done <| K.seq <| K.region <| KO.q rfl (q_move rfl) <| KO.q rfl (q_ne rfl rfl) <| KO.done ?_
          refine K.dcond (s := 54) rfl (fun g54 => ?_) (fun g54 => ?_)
          · have he := (kRenew_err { k with st := (applyS k.st (claimsS k.st)).1 } d).resolve_left g54
            refine K.seq <| K.region <| KO.q rfl (q_move rfl) <| KO.q rfl (q_assign rfl) <| KO.q rfl (q_assign rfl) <| KO.done ?_
            refine kr2 Tryz.func17 Tryz.results17 rfl rfl (fun w hs => ?_)
            unfold OpenP; rw [hr]
            exact ⟨_, [DkX p (kRenew { k with st := (applyS k.st (claimsS k.st)).1 } d).2.2], rfl, .inl ⟨g54, rfl, rfl⟩, hs.fitD⟩
          · have hok3 := kRenew_ok (d := d) hk2 hw
            refine K.skip <| K.seq <| K.region <| KO.q rfl (q_move rfl) <| KO.q rfl (q_assign rfl) <| KO.q rfl (q_assign rfl) <| KO.done ?_
            refine kr2 Tryz.func17 Tryz.results17 rfl rfl (fun w hs => ?_)
            unfold OpenP; rw [hr]
            exact ⟨_, KsF b15 p (kRenew { k with st := (applyS k.st (claimsS k.st)).1 } d).2.1 z2 ++ [DkX p (kRenew { k with st := (applyS k.st (claimsS k.st)).1 } d).2.2], rfl, .inr ⟨Decidable.not_not.1 g54, hok3, b15, z2, rfl, rfl⟩, hs.fitD⟩
theorem ks_OpenF (p : Nat) (d : Dk) (hw : d.wf) (h354 : 354 ≤ d.len) (hc : d.cnt ≤ 60000000) : Fn Tryz.prog 17 [.pointer (some ⟨p, 0, none⟩)].toArray [DkX p d] (OpenP p d) := by
  rcases h : kRead d with _ | k
  · exact ks_Open_none p d hw h354 h
  · exact ks_Open_some p d hw h354 hc h
end Go.Proofs.YtkbhldicnamcdaaGreat.L
namespace Go.Proofs.YtkbhldicnamcdaaGreat.L
open Go Go.Proofs
attribute [local irreducible] pv fv pt fz RowF RowO rowP old pure_ elA Rd.int Rd.text Rd.flag Rd.msg Rd.rint Rd.rtext Rd.rflag Rd.rmsg
set_option maxRecDepth 100000
set_option linter.unusedSimpArgs false
set_option linter.unusedVariables false
attribute [local irreducible] DkX
def ksI0 (k : Ks) : KsI k := ⟨0, lgI0 k.lg, ⟨k.st.next, none, k.st.objs.length, k.st.objs.map (fun o => ⟨o, ⟨none, o.rows.length, none, o.msgs.length, none, o.dead.length⟩⟩)⟩, by
    unfold Sz.st
    dsimp only
    rw [List.map_map]
    exact congrArg (Stt.mk k.st.next) (List.map_id' _), by show (k.st.objs.map _).length ≤ _; rw [List.length_map]; exact Nat.le_refl _, fun o ho => by
    obtain ⟨x, _, rfl⟩ := List.mem_map.1 ho
    exact ⟨Nat.le_refl _, Nat.le_refl _, Nat.le_refl _⟩⟩
theorem ks_EpochX (s p : Nat) (k : Ks) : Fn Tryz.prog 22 [.pointer (some ⟨s, 0, none⟩)].toArray [KsX s p k] (fun r post => r = .int .i64 k.epoch ∧ post = [KsX s p k]) :=
  (Fn.exPre (M0 := []) (ksI0 k) (fun z => (ks_Epoch s p k z).conv (fun _ _ _ h => h) (fun r post h => ⟨[KsX s p k], ⟨h.1, rfl⟩, fun ρ L w hs => by rw [h.2] at hs; exact St.exI z hs⟩)))
theorem ks_StateX (s p : Nat) (k : Ks) (hk : KsOk k) : Fn Tryz.prog 21 [.pointer (some ⟨s, 0, none⟩)].toArray [KsX s p k] (fun r post => ∃ s' : Sz, r = .agg s'.cells.toArray ∧ s'.st = k.st ∧ s'.good 30000 ∧ post = StL s' ++ [KsX s p k]) :=
  (Fn.exPre (M0 := []) (ksI0 k) (fun z => (ks_State s p k z hk).conv (fun _ _ _ h => h) (fun r post ⟨s', h1, h2, h3, h4⟩ => ⟨StL s' ++ [KsX s p k], ⟨s', h1, h2, h3, rfl⟩, fun ρ L w hs => by
    subst h4
    exact (St.exMid (M := StL s') (f := KsF s p k) z hs)⟩)))
theorem ks_DoX (s p : Nat) (d : Dk) (k : Ks) (q : Option Addr) (c : Nat) (l : List Eff) (hk : KsOk k) (hw : d.wf) (h354 : 354 ≤ d.len) (hc : d.cnt ≤ 60000000) (hl : l.length ≤ 10000) : Fn Tryz.prog 24 [.pointer (some ⟨s, 0, none⟩), .slice q l.length c].toArray [RowF Kd.eff q l, DkX p d, KsX s p k]
    (fun r post => r = .int .i64 (kDo k l d).1 ∧ post = [DkX p (kDo k l d).2.2, KsX s p (kDo k l d).2.1]) :=
  Fn.exPre (M0 := [RowF Kd.eff q l, DkX p d]) (ksI0 k) (fun z => (ks_Do s p d k z q c l hk hw h354 hc hl).conv (fun ρ L w h => h.fitD) (fun r post ⟨z', h1, h2⟩ => ⟨[DkX p (kDo k l d).2.2, KsX s p (kDo k l d).2.1], ⟨h1, rfl⟩, fun ρ L w hs => by
    subst h2
    have hs : St ρ ((DkX p (kDo k l d).2.2 :: KsF s p (kDo k l d).2.1 z') ++ L) w := hs.fitD
    exact St.exMid (M := [DkX p (kDo k l d).2.2]) (f := KsF s p (kDo k l d).2.1) z' hs⟩))
def OpenX (p : Nat) (d : Dk) (r : Value) (post : List HP) : Prop :=
  (¬ (kOpen d).1 = 0 ∧ r = .tuple #[.pointer none, .int .i64 (kOpen d).1] ∧ post = [DkX p (kOpen d).2.2]) ∨
  ((kOpen d).1 = 0 ∧ KsOk (kOpen d).2.1 ∧ ∃ s, r = .tuple #[.pointer (some ⟨s, 0, none⟩), .int .i64 0] ∧ post = [DkX p (kOpen d).2.2, KsX s p (kOpen d).2.1])
theorem ks_OpenX (p : Nat) (d : Dk) (hw : d.wf) (h354 : 354 ≤ d.len) (hc : d.cnt ≤ 60000000) : Fn Tryz.prog 17 [.pointer (some ⟨p, 0, none⟩)].toArray [DkX p d] (OpenX p d) :=
  (ks_OpenF p d hw h354 hc).conv (fun _ _ _ h => h) (fun r post hp => by
    rcases hp with ⟨h1, h2, h3⟩ | ⟨h1, h2, s, z, h3, h4⟩
    · exact ⟨post, .inl ⟨h1, h2, h3⟩, fun _ _ _ h => h⟩
    · refine ⟨[DkX p (kOpen d).2.2, KsX s p (kOpen d).2.1], .inr ⟨h1, h2, s, h3, rfl⟩, fun ρ L w hs => ?_⟩
      subst h4
      have hs : St ρ ((DkX p (kOpen d).2.2 :: KsF s p (kOpen d).2.1 z) ++ L) w := hs.fitD
      exact St.exMid (M := [DkX p (kOpen d).2.2]) (f := KsF s p (kOpen d).2.1) z hs)
theorem ks_OpenG (p : Nat) (d : Dk) (hw : d.wf) (h354 : 354 ≤ d.len) (hc : d.cnt ≤ 60000000) (h0 : (kOpen d).1 = 0) : Fn Tryz.prog 17 [.pointer (some ⟨p, 0, none⟩)].toArray [DkX p d] (fun r post => ∃ s, r = .tuple #[.pointer (some ⟨s, 0, none⟩), .int .i64 0] ∧ post = [DkX p (kOpen d).2.2, KsX s p (kOpen d).2.1]) :=
  (ks_OpenX p d hw h354 hc).mono fun r post hp => by
    rcases hp with ⟨h1, _⟩ | ⟨_, _, s, h3, h4⟩
    · exact absurd h0 h1
    · exact ⟨s, h3, h4⟩
end Go.Proofs.YtkbhldicnamcdaaGreat.L
namespace Go.Proofs.YtkbhldicnamcdaaGreat.L
open Go
set_option linter.unusedVariables false
set_option linter.unusedSimpArgs false
theorem len_now {d d' : Dk} (h : d'.now = d.now) : d'.len = d.len := by rw [← Dk.now_len, ← Dk.now_len, h]
theorem IC.congr {k : Ks} {d d' : Dk} (h : IC k d) (hn : d'.now = d.now) : IC k d' := h.agree (len_now hn) (fun j _ => read_agree (len_now hn) (fun i _ => by rw [hn]))
theorem IC.only {k : Ks} {d d' : Dk} {R : Nat → Prop} (h : IC k d) (hl : d.l = []) (ho : Only R d d') (hlen : d'.len = d.len) (hR : ∀ i : Nat, R i → ¬ Dep k (i : Int)) : IC k d' :=
  h.agree hlen (fun j hj => read_agree hlen (fun i hi => ho.now hl (fun hr => hR i hr (hi ▸ hj))))
theorem IC.onlyC {k : Ks} {d d' : Dk} {R : Nat → Prop} (h : IC k d) (hl : d.l = []) (ho : Only R d d') (hlen : d'.len = d.len) (hR : ∀ i : Nat, R i → ¬ Dep k (i : Int)) (keep : List Bool) : IC k (d'.crash keep) :=
  h.agree ((Dk.crash_len _ _).trans hlen) (fun j hj => read_agree ((Dk.crash_len _ _).trans hlen) (fun i hi => ho.crash hl keep (fun hr => hR i hr (hi ▸ hj))))
theorem sync_yes {d : Dk} (h : d.sync.1 = true) : d.sync.2 = ⟨d.now, [], d.lim, d.cnt⟩ := by
  unfold Dk.sync at h ⊢
  split at h
  · cases h
  · rename_i ho; rw [if_neg ho]
theorem sync_no {d : Dk} (h : d.sync.1 = false) : d.sync.2 = d := by
  unfold Dk.sync at h ⊢
  split at h
  · rename_i ho; rw [if_pos ho]
  · cases h
theorem write_fail {d : Dk} {i : Int} {b : Sec} (h : (d.write i b).1 = false) : (d.write i b).2 = d := by
  unfold Dk.write at h ⊢
  split at h
  · cases h
  · rename_i ho; rw [if_neg ho]
theorem write_done {d : Dk} {i : Int} {b : Sec} (h : (d.write i b).1 = true) : (d.write i b).2 = d.put i.toNat b := by
  unfold Dk.write at h ⊢
  split at h
  · rename_i ho; rw [if_pos ho]
  · cases h
theorem crash_clean {d : Dk} (h : d.l = []) (keep : List Bool) : (d.crash keep).now = d.now := by
  show laid d.sure (Dk.stay d.l keep) = laid d.sure d.l
  rw [h]; rfl
theorem crash_one {d : Dk} {w : Nat × Sec} (h : d.l = [w]) (keep : List Bool) : (d.crash keep).now = d.now ∨ (d.crash keep).now = d.sure := by
  show laid d.sure (Dk.stay d.l keep) = laid d.sure d.l ∨ laid d.sure (Dk.stay d.l keep) = d.sure
  rw [h]
  have e : Dk.stay [w] keep = if keep.getD 0 false = true then [w] else [] := by
    unfold Dk.stay
    simp only [List.zipIdx_cons, List.zipIdx_nil, List.filter_cons, List.filter_nil]
    split <;> rfl
  rw [e]
  split
  · exact .inl rfl
  · exact .inr rfl
theorem write_free {d : Dk} {i : Int} {b : Sec} (hl : d.lim = none) (hi : 0 ≤ i ∧ i < (d.len : Int)) (hb : b.length = 64) : (d.write i b).1 = true ∧ (d.write i b).2.lim = none := by
  unfold Dk.write
  rw [if_pos (by unfold Dk.may Dk.off; rw [hl]; simp [hi, hb])]
  exact ⟨rfl, by show d.lim.map Nat.pred = none; rw [hl]; rfl⟩
theorem sync_free {d : Dk} (hl : d.lim = none) : d.sync.1 = true ∧ d.sync.2.lim = none := by
  unfold Dk.sync Dk.off
  rw [if_neg (by rw [hl]; simp)]
  exact ⟨rfl, hl⟩
theorem puts_free : ∀ {l : List Sec} {d : Dk} {i : Int}, d.lim = none → 0 ≤ i → i + l.length ≤ (d.len : Int) → (∀ s ∈ l, s.length = 64) → (d.puts i l).1 = true ∧ (d.puts i l).2.lim = none
  | [], _, _, h, _, _, _ => ⟨rfl, h⟩
  | s :: l, d, i, h, h0, h1, hs => by
    rw [List.length_cons] at h1
    obtain ⟨w1, w2⟩ := write_free h ⟨h0, by omega⟩ (hs s List.mem_cons_self)
    rw [Dk.puts_cons, if_pos w1]
    exact puts_free w2 tO (by rw [Dk.write_len]; omega) (fun x hx => hs x (List.mem_cons_of_mem _ hx))
theorem spanPut_free {d : Dk} {i : Int} {b : List UInt8} (hl : d.lim = none) (h0 : 0 ≤ i) (h1 : i + need b.length ≤ (d.len : Int)) : (d.spanPut i b).1 = true ∧ (d.spanPut i b).2.lim = none := by
  have hn := need_nn (b.length : Int)
  unfold Dk.spanPut
  split
  · exact ⟨rfl, hl⟩
  · rw [if_pos (by unfold Dk.lies; simp only [Bool.and_eq_true, decide_eq_true_eq]; omega)]
    exact puts_free hl h0 (by rw [secsOf_len]; omega) (secsOf_all b)
structure Live (k : Ks) (d : Dk) : Prop where
  ic : IC k d
  l : d.l = []
  wf : d.wf
theorem Live.ok {k : Ks} {d : Dk} (h : Live k d) : KsOk k := kRead_ok h.wf h.ic.rd
theorem Live.crash {k : Ks} {d : Dk} (h : Live k d) (keep : List Bool) : Live k (d.crash keep) := ⟨h.ic.congr (crash_clean h.l keep), rfl, h.wf.crash keep⟩
theorem IC.lg {k : Ks} {d : Dk} (h : IC k d) : k.lg.at_ = 194 ∧ k.lg.end_ = 354 ∧ k.lg.epoch = k.epoch ∧ k.lg.failed = false ∧ k.dead = false ∧ 194 ≤ k.lg.next := by
  obtain ⟨b, s0, h1, h2, h3, h4, h5⟩ := (kRead_iff h.ep).1 h.rd
  have hb := kBegin_eq d k.epoch
  have hn := kBegin_next d k.epoch
  rw [← h3] at hb hn
  exact ⟨hb.1, hb.2.1, hb.2.2.1, hb.2.2.2, h5, hn⟩
def renewed (s' : Stt) (E : Int) : Ks := ⟨s', E, false, ⟨194, 354, 194, E, [], false⟩⟩
theorem img_ok {s : Stt} (hr : s.right = true) (hz : s.size ≤ 6144) : (imgBytes s).length ≤ 6144 ∧ imgRead (imgBytes s) = some s := by
  have he : imgBytes s = s.bytes := if_pos hr
  have hl := bytes_le_size s
  have hs := right_SR hr
  have hc := cnt_size s
  rw [he]
  refine ⟨by omega, ?_⟩
  have := imgRead_bytes hr (by have := hs.nx; omega) (by have := hs.len; omega) (fun o ho => ob_sm (hs.obj o ho) (by have := cnt_mem ho; omega)) []
  rw [List.append_nil, if_pos rfl] at this
  exact this
theorem bit0_succ (e : Int) : bit0 (e + 1) = 1 - bit0 e := by unfold bit0; omega
theorem need_96 {n : Int} (h : n ≤ 6144) : need n ≤ 96 := by
  by_cases hz : n < 1
  · unfold need; rw [if_pos hz]; decide
  · rw [need_pos tO]; omega
theorem rtLay_spec {k : Ks} {d : Dk} {s' : Stt} (h : Live k d) (hr : s'.right = true) (hz : s'.size ≤ 6144) (hE : k.epoch + 1 ≤ top) :
    ((rtLay (k.epoch + 1) (imgBytes s') d).1 = true → Live (renewed s' (k.epoch + 1)) (rtLay (k.epoch + 1) (imgBytes s') d).2) ∧
    (∀ keep, IC k ((rtLay (k.epoch + 1) (imgBytes s') d).2.crash keep) ∨ IC (renewed s' (k.epoch + 1)) ((rtLay (k.epoch + 1) (imgBytes s') d).2.crash keep)) ∧
    (d.lim = none → (rtLay (k.epoch + 1) (imgBytes s') d).1 = true ∧ (rtLay (k.epoch + 1) (imgBytes s') d).2.lim = none) := by
  obtain ⟨hi, hread⟩ := img_ok hr hz
  obtain ⟨E, hEE⟩ : ∃ E, E = k.epoch + 1 := ⟨_, rfl⟩
  obtain ⟨img, himg⟩ : ∃ img, img = imgBytes s' := ⟨_, rfl⟩
  rw [← himg] at hi hread ⊢
  rw [← hEE] at hE ⊢
  have h1 := h.ic.ep
  have hb := bit0_succ k.epoch
  rw [← hEE] at hb
  have hb01 := bit0_01 k.epoch
  have hn := need_96 (n := (img.length : Int)) tO
  have hnn := need_nn (img.length : Int)
  have hpE : rtPlace E = 2 + bit0 E * 96 := rfl
  have hpe : rtPlace k.epoch = 2 + bit0 k.epoch * 96 := rfl
  have hlg := h.ic.lg
  have hlen := h.ic.len
  -- the image
  obtain ⟨d1, hd1⟩ : ∃ d1, d1 = (d.spanPut (rtPlace E) img).2 := ⟨_, rfl⟩
  have hl1 : d1.len = d.len := by rw [hd1]; exact Dk.spanPut_len _ _ _
  have hw1 : d1.wf := by rw [hd1]; exact h.wf.spanPut _ _
  have ho1 := only_spanPut d (rtPlace E) img
  rw [← hd1] at ho1
  have hR : ∀ i : Nat, (rtPlace E ≤ (i : Int) ∧ (i : Int) < rtPlace E + need img.length) → ¬ Dep k (i : Int) := fun i hi hdep => by
    rcases hdep with e | e | ⟨a, c⟩ | ⟨a, c⟩
    · omega
    · omega
    · rcases hb01 with e | e <;> rw [e] at hb <;> rw [hb] at hpE <;> rw [e] at hpe <;> omega
    · have := hb01; omega
  have hA : ∀ keep, IC k (d1.crash keep) := h.ic.onlyC h.l ho1 hl1 hR
  have hA1 : IC k d1 := h.ic.only h.l ho1 hl1 hR
  have hlay : rtLay E img d = if (d.spanPut (rtPlace E) img).1 = true then (DM.also Dk.sync (DM.also (fun d => d.write (bit0 E) (rootS E img.length)) Dk.sync)) d1 else (false, d1) := by rw [hd1]; rfl
  by_cases c1 : (d.spanPut (rtPlace E) img).1 = true
  rotate_left
  · rw [hlay, if_neg c1]
    exact ⟨fun hf => (by cases hf), fun keep => .inl (hA keep), fun hln => absurd (spanPut_free hln tO tO).1 c1⟩
  rw [if_pos c1] at hlay
  have hget : d1.spanGet (rtPlace E) img.length = img := by rw [hd1]; exact spanPut_get c1 tO
  by_cases c2 : d1.sync.1 = true
  rotate_left
  · have c2' : d1.sync.1 = false := by simpa using c2
    have hl2 : rtLay E img d = (false, d1) := by rw [hlay]; unfold DM.also; rw [if_neg c2, sync_no c2']
    rw [hl2]
    exact ⟨fun hf => (by cases hf), fun keep => .inl (hA keep), fun hln => absurd (sync_free (by rw [hd1]; exact (spanPut_free hln tO tO).2)).1 c2⟩
  obtain ⟨d2, hd2⟩ : ∃ d2, d2 = d1.sync.2 := ⟨_, rfl⟩
  have hd2' : d2 = ⟨d1.now, [], d1.lim, d1.cnt⟩ := by rw [hd2]; exact sync_yes c2
  have hn2 : d2.now = d1.now := by rw [hd2']; rfl
  have hl2 : d2.l = [] := by rw [hd2']
  have hw2 : d2.wf := by rw [hd2]; exact hw1.sync
  have hlen2 : d2.len = d1.len := len_now hn2
  have hB : IC k d2 := hA1.congr hn2
  have hget2 : d2.spanGet (rtPlace E) img.length = img := by
    rw [spanGet_agree hlen2 (fun j _ _ => read_agree hlen2 (fun i _ => by rw [hn2]))]; exact hget
  have hlay2 : rtLay E img d = (DM.also (fun d => d.write (bit0 E) (rootS E img.length)) Dk.sync) d2 := by rw [hlay]; unfold DM.also; rw [if_pos c2, ← hd2]
  have hlim2 : d.lim = none → d2.lim = none := fun hln => by rw [hd2]; exact (sync_free (by rw [hd1]; exact (spanPut_free hln tO tO).2)).2
  by_cases c3 : (d2.write (bit0 E) (rootS E img.length)).1 = true
  rotate_left
  · have c3' : (d2.write (bit0 E) (rootS E img.length)).1 = false := by simpa using c3
    have hl3 : rtLay E img d = (false, d2) := by rw [hlay2]; unfold DM.also; dsimp only; rw [if_neg c3, write_fail c3']
    rw [hl3]
    exact ⟨fun hf => (by cases hf), fun keep => .inl (hB.congr (crash_clean hl2 keep)), fun hln => absurd (write_free (hlim2 hln) ⟨by omega, by omega⟩ (rootS_len _ _)).1 c3⟩
  obtain ⟨d3, hd3⟩ : ∃ d3, d3 = (d2.write (bit0 E) (rootS E img.length)).2 := ⟨_, rfl⟩
  have hlen3 : d3.len = d2.len := by rw [hd3]; exact Dk.write_len _ _ _
  have hw3 : d3.wf := by rw [hd3]; exact hw2.write _ _
  have hl3 : d3.l = [((bit0 E).toNat, rootS E img.length)] := by rw [hd3, write_done c3]; show d2.l ++ _ = _; rw [hl2]; rfl
  have hs3 : d3.sure = d2.now := by rw [hd3, write_done c3]; show d2.sure = laid d2.sure d2.l; rw [hl2]; rfl
  have hr3 : d3.read (bit0 E) = rootS E img.length := by rw [hd3]; exact (write_read c3).1
  have ho3 : ∀ j : Int, j ≠ bit0 E → d3.read j = d2.read j := fun j hj => by rw [hd3]; exact write_other hj
  have hC : IC (renewed s' E) d3 := by
    refine IC.root tO hE tO hr3 ?_ hi hread ?_ (fun e' n a c => ?_)
    · rw [spanGet_agree hlen3 (fun j a _ => ho3 j tO)]; exact hget2
    · have e1 : 1 - bit0 E = bit0 k.epoch := by omega
      rw [e1]
      obtain ⟨b, s0, g1, _⟩ := (kRead_iff hB.ep).1 hB.rd
      rw [rtE_agree hlen3 (ho3 _ tO), (rtRead_some.1 g1).1]
      show k.epoch < E; omega
    · rw [ho3 194 tO]
      exact hB.fresh e' n tO c
  have hD : ∀ keep, IC k (d3.crash keep) ∨ IC (renewed s' E) (d3.crash keep) := fun keep => by
    rcases crash_one hl3 keep with e | e
    · exact .inr (hC.congr e)
    · exact .inl (hB.congr (by rw [e, hs3]))
  by_cases c4 : d3.sync.1 = true
  rotate_left
  · have c4' : d3.sync.1 = false := by simpa using c4
    have hl4 : rtLay E img d = (false, d3) := by rw [hlay2]; unfold DM.also; dsimp only; rw [if_pos c3, ← hd3]; exact Prod.ext c4' (sync_no c4')
    rw [hl4]
    exact ⟨fun hf => (by cases hf), hD, fun hln => absurd (sync_free (by rw [hd3]; exact (write_free (hlim2 hln) ⟨by omega, by omega⟩ (rootS_len _ _)).2)).1 c4⟩
  have hl4 : rtLay E img d = (true, ⟨d3.now, [], d3.lim, d3.cnt⟩) := by rw [hlay2]; unfold DM.also; dsimp only; rw [if_pos c3, ← hd3]; exact Prod.ext c4 (sync_yes c4)
  have hF : IC (renewed s' E) ⟨d3.now, [], d3.lim, d3.cnt⟩ := hC.congr rfl
  rw [hl4]
  exact ⟨fun _ => ⟨hF, rfl, by have := hw3.sync; rw [sync_yes c4] at this; exact this⟩, fun keep => .inr (hF.congr (crash_clean rfl keep)), fun hln => ⟨rfl, by show d3.lim = none; rw [hd3]; exact (write_free (hlim2 hln) ⟨by omega, by omega⟩ (rootS_len _ _)).2⟩⟩
end Go.Proofs.YtkbhldicnamcdaaGreat.L
namespace Go.Proofs.YtkbhldicnamcdaaGreat.L
open Go
set_option linter.unusedVariables false
set_option linter.unusedSimpArgs false
def added (k : Ks) (b : List UInt8) (st' : Stt) : Ks := { k with st := st', lg := { k.lg with recs := k.lg.recs ++ [b], next := k.lg.behind b } }
theorem lay_spec {k : Ks} {d : Dk} {b : List UInt8} {es : List Eff} {st' : Stt} (h : Live k d) (hep : k.epoch ≤ top) (hf : k.lg.fits b.length = true) (he : effRead b = some es) (hs : applyS k.st es = (st', 0)) :
    ((k.lg.lay b d).1 = true → Live (added k b st') (k.lg.lay b d).2) ∧
    (∀ keep, IC k ((k.lg.lay b d).2.crash keep) ∨ IC (added k b st') ((k.lg.lay b d).2.crash keep)) ∧
    (d.lim = none → (k.lg.lay b d).1 = true ∧ (k.lg.lay b d).2.lim = none) := by
  have hok := h.ok
  have hlgw := hok.lg
  have hlg := h.ic.lg
  have hlen := h.ic.len
  have hfi := Lg.fits_iff.1 hf
  have hsz := Lg.fits_size hlgw (Int.natCast_nonneg _) hf
  have hnn := need_nn (b.length : Int)
  have hpl := rtPlace_rng k.epoch
  have hbe : k.lg.behind b = k.lg.next + 1 + need b.length := rfl
  obtain ⟨nx, hnx⟩ : ∃ nx, nx = k.lg.next := ⟨_, rfl⟩
  obtain ⟨bh, hbh⟩ : ∃ bh, bh = k.lg.behind b := ⟨_, rfl⟩
  -- the record
  obtain ⟨d1, hd1⟩ : ∃ d1, d1 = (d.spanPut (k.lg.next + 1) b).2 := ⟨_, rfl⟩
  have hl1 : d1.len = d.len := by rw [hd1]; exact Dk.spanPut_len _ _ _
  have hw1 : d1.wf := by rw [hd1]; exact h.wf.spanPut _ _
  have ho1 := only_spanPut d (k.lg.next + 1) b
  rw [← hd1] at ho1
  have hR : ∀ i : Nat, k.lg.next < (i : Int) → ¬ Dep k (i : Int) := fun i hi hdep => by
    rcases hdep with e | e | ⟨a, c⟩ | ⟨a, c⟩ <;> omega
  have ho1 : Only (fun j => k.lg.next < (j : Int)) d d1 := ho1.mono (fun j hj => by omega)
  have hA : ∀ keep, IC k (d1.crash keep) := h.ic.onlyC h.l ho1 hl1 hR
  have hA1 : IC k d1 := h.ic.only h.l ho1 hl1 hR
  obtain ⟨F2, hF2⟩ : ∃ F2 : DM, F2 = (fun d => if k.lg.behind b < k.lg.end_ then d.write (k.lg.behind b) zSec else (true, d)) := ⟨_, rfl⟩
  obtain ⟨hd, hhd⟩ : ∃ hd, hd = lgHead k.lg.epoch (k.lg.recs.length + 1) b.length := ⟨_, rfl⟩
  have hhl : hd.length = 64 := by rw [hhd]; exact lgHead_len _ _ _
  have hlay : k.lg.lay b d = if (d.spanPut (k.lg.next + 1) b).1 = true then (DM.also F2 (DM.also Dk.sync (DM.also (fun d => d.write k.lg.next hd) Dk.sync))) d1 else (false, d1) := by rw [hd1, hF2, hhd]; rfl
  by_cases c1 : (d.spanPut (k.lg.next + 1) b).1 = true
  rotate_left
  · rw [hlay, if_neg c1]
    exact ⟨fun hf => (by cases hf), fun keep => .inl (hA keep), fun hln => absurd (spanPut_free hln tO tO).1 c1⟩
  rw [if_pos c1] at hlay
  have hget : d1.spanGet (k.lg.next + 1) b.length = b := by rw [hd1]; exact spanPut_get c1 tO
  have hlm1 : d.lim = none → d1.lim = none := fun hln => by rw [hd1]; exact (spanPut_free hln tO tO).2
  -- the sector behind
  obtain ⟨d2, hd2⟩ : ∃ d2, d2 = (F2 d1).2 := ⟨_, rfl⟩
  have hF : (F2 d1 = (true, d1) ∧ ¬ k.lg.behind b < k.lg.end_) ∨ (F2 d1 = d1.write (k.lg.behind b) zSec ∧ k.lg.behind b < k.lg.end_) := by
    rw [hF2]
    dsimp only
    split
    · exact .inr ⟨rfl, by assumption⟩
    · exact .inl ⟨rfl, by assumption⟩
  have hl2 : d2.len = d1.len := by
    rcases hF with ⟨e, _⟩ | ⟨e, _⟩ <;> rw [hd2, e]
    exact Dk.write_len _ _ _
  have hw2 : d2.wf := by
    rcases hF with ⟨e, _⟩ | ⟨e, _⟩ <;> rw [hd2, e]
    · exact hw1
    · exact hw1.write _ _
  have ho2 : Only (fun j => k.lg.next < (j : Int)) d d2 := by
    refine ho1.trans ?_
    rcases hF with ⟨e, _⟩ | ⟨e, _⟩ <;> rw [hd2, e]
    · exact Only.refl _ _
    · exact (only_write _ _ _).mono (fun j hj => by omega)
  have hoth2 : ∀ j : Int, j ≠ k.lg.behind b → d2.read j = d1.read j := fun j hj => by
    rcases hF with ⟨e, _⟩ | ⟨e, _⟩ <;> rw [hd2, e]
    exact write_other hj
  have hB : ∀ keep, IC k (d2.crash keep) := h.ic.onlyC h.l ho2 (hl2.trans hl1) hR
  have hB1 : IC k d2 := h.ic.only h.l ho2 (hl2.trans hl1) hR
  have hget2 : d2.spanGet (k.lg.next + 1) b.length = b := by
    rw [spanGet_agree hl2 (fun j a c => hoth2 j ?_)]
    · exact hget
    · have : Dk.cutN b.length = (b.length : Int) := by unfold Dk.cutN; omega
      rw [this] at c; omega
  have hlay2 : k.lg.lay b d = if (F2 d1).1 = true then (DM.also Dk.sync (DM.also (fun d => d.write k.lg.next hd) Dk.sync)) d2 else (false, d2) := by rw [hlay, hd2]; rfl
  have hlm2 : d.lim = none → (F2 d1).1 = true ∧ d2.lim = none := fun hln => by
    rcases hF with ⟨e, _⟩ | ⟨e, hlt⟩ <;> rw [hd2, e]
    · exact ⟨rfl, hlm1 hln⟩
    · exact write_free (hlm1 hln) ⟨by omega, by omega⟩ zSec_len'
  by_cases c2 : (F2 d1).1 = true
  rotate_left
  · rw [hlay2, if_neg c2]
    exact ⟨fun hf => (by cases hf), fun keep => .inl (hB keep), fun hln => absurd (hlm2 hln).1 c2⟩
  rw [if_pos c2] at hlay2
  have hzz : k.lg.behind b < 354 → d2.read (k.lg.behind b) = zSec := fun hlt => by
    rcases hF with ⟨e, hx⟩ | ⟨e, hx⟩
    · omega
    · rw [hd2, e]; rw [e] at c2; exact (write_read c2).1
  -- all sure
  by_cases c3 : d2.sync.1 = true
  rotate_left
  · have c3' : d2.sync.1 = false := by simpa using c3
    have hl3 : k.lg.lay b d = (false, d2) := by rw [hlay2]; unfold DM.also; rw [if_neg c3, sync_no c3']
    rw [hl3]
    exact ⟨fun hf => (by cases hf), fun keep => .inl (hB keep), fun hln => absurd (sync_free (hlm2 hln).2).1 c3⟩
  obtain ⟨d3, hd3⟩ : ∃ d3, d3 = d2.sync.2 := ⟨_, rfl⟩
  have hd3' : d3 = ⟨d2.now, [], d2.lim, d2.cnt⟩ := by rw [hd3]; exact sync_yes c3
  have hn3 : d3.now = d2.now := by rw [hd3']; rfl
  have hl3 : d3.l = [] := by rw [hd3']
  have hw3 : d3.wf := by rw [hd3]; exact hw2.sync
  have hlen3 : d3.len = d2.len := len_now hn3
  have hrd3 : ∀ j, d3.read j = d2.read j := fun j => read_agree hlen3 (fun i _ => by rw [hn3])
  have hC : IC k d3 := hB1.congr hn3
  have hlay3 : k.lg.lay b d = (DM.also (fun d => d.write k.lg.next hd) Dk.sync) d3 := by rw [hlay2]; unfold DM.also; rw [if_pos c3, ← hd3]
  have hlm3 : d.lim = none → d3.lim = none := fun hln => by rw [hd3]; exact (sync_free (hlm2 hln).2).2
  -- the head
  by_cases c4 : (d3.write k.lg.next hd).1 = true
  rotate_left
  · have c4' : (d3.write k.lg.next hd).1 = false := by simpa using c4
    have hl4 : k.lg.lay b d = (false, d3) := by rw [hlay3]; unfold DM.also; dsimp only; rw [if_neg c4, write_fail c4']
    rw [hl4]
    exact ⟨fun hf => (by cases hf), fun keep => .inl (hC.congr (crash_clean hl3 keep)), fun hln => absurd (write_free (hlm3 hln) ⟨by omega, by omega⟩ hhl).1 c4⟩
  obtain ⟨d4, hd4⟩ : ∃ d4, d4 = (d3.write k.lg.next hd).2 := ⟨_, rfl⟩
  have hlen4 : d4.len = d3.len := by rw [hd4]; exact Dk.write_len _ _ _
  have hw4 : d4.wf := by rw [hd4]; exact hw3.write _ _
  have hl4 : d4.l = [((k.lg.next).toNat, hd)] := by rw [hd4, write_done c4]; show d3.l ++ _ = _; rw [hl3]; rfl
  have hs4 : d4.sure = d3.now := by rw [hd4, write_done c4]; show d3.sure = laid d3.sure d3.l; rw [hl3]; rfl
  have hr4 : d4.read k.lg.next = hd := by rw [hd4]; exact (write_read c4).1
  have ho4 : ∀ j : Int, j ≠ k.lg.next → d4.read j = d3.read j := fun j hj => by rw [hd4]; exact write_other hj
  have hcb : Dk.cutN b.length = (b.length : Int) := by unfold Dk.cutN; omega
  have hD : IC (added k b st') d4 := by
    refine hC.head hep hlgw hlen4 (fun j _ hj => ho4 j hj) hf ?_ ?_ ?_ he hs
    · rw [hr4, hhd, hlg.2.2.1]
    · rw [spanGet_agree hlen4 (fun j a c => ho4 j tO), spanGet_agree hlen3 (fun j _ _ => hrd3 j)]; exact hget2
    · intro hlt
      rw [ho4 _ tO, hrd3]; exact hzz hlt
  have hE : ∀ keep, IC k (d4.crash keep) ∨ IC (added k b st') (d4.crash keep) := fun keep => by
    rcases crash_one hl4 keep with e | e
    · exact .inr (hD.congr e)
    · exact .inl (hC.congr (by rw [e, hs4]))
  have hlm4 : d.lim = none → d4.lim = none := fun hln => by rw [hd4]; exact (write_free (hlm3 hln) ⟨by omega, by omega⟩ hhl).2
  by_cases c5 : d4.sync.1 = true
  rotate_left
  · have c5' : d4.sync.1 = false := by simpa using c5
    have hl5 : k.lg.lay b d = (false, d4) := by rw [hlay3]; unfold DM.also; dsimp only; rw [if_pos c4, ← hd4]; exact Prod.ext c5' (sync_no c5')
    rw [hl5]
    exact ⟨fun hf => (by cases hf), hE, fun hln => absurd (sync_free (hlm4 hln)).1 c5⟩
  have hl5 : k.lg.lay b d = (true, ⟨d4.now, [], d4.lim, d4.cnt⟩) := by rw [hlay3]; unfold DM.also; dsimp only; rw [if_pos c4, ← hd4]; exact Prod.ext c5 (sync_yes c5)
  have hG : IC (added k b st') ⟨d4.now, [], d4.lim, d4.cnt⟩ := hD.congr rfl
  rw [hl5]
  exact ⟨fun _ => ⟨hG, rfl, by have := hw4.sync; rw [sync_yes c5] at this; exact this⟩, fun keep => .inr (hG.congr (crash_clean rfl keep)), fun hln => ⟨rfl, hlm4 hln⟩⟩
theorem i64_succ {n : Int} (h : 1 ≤ n) (h2 : n + 1 ≤ top) : i64 (n + 1) = n + 1 := by unfold i64; unfold top at h2; omega
theorem live_lg {s' : Stt} {E : Int} {d : Dk} (h : IC (renewed s' E) d) : kBegin d E = ⟨194, 354, 194, E, [], false⟩ := by
  obtain ⟨b, s0, h1, h2, h3, h4, h5⟩ := (kRead_iff h.ep).1 h.rd
  exact h3.symm
theorem renew_spec {k : Ks} {d : Dk} {s' : Stt} (h : Live k d) (hr : s'.right = true) (hz : s'.size ≤ 6144) (hE : k.epoch + 1 ≤ top) :
    ((kRenew { k with st := s' } d).1 = 0 ∧ (kRenew { k with st := s' } d).2.1 = renewed s' (k.epoch + 1) ∧ Live (renewed s' (k.epoch + 1)) (kRenew { k with st := s' } d).2.2 ∨ (kRenew { k with st := s' } d).1 = 12 ∧ (kRenew { k with st := s' } d).2.1 = { k with st := s' }) ∧
    (∀ keep, IC k ((kRenew { k with st := s' } d).2.2.crash keep) ∨ IC (renewed s' (k.epoch + 1)) ((kRenew { k with st := s' } d).2.2.crash keep)) ∧
    (d.lim = none → (kRenew { k with st := s' } d).1 = 0 ∧ (kRenew { k with st := s' } d).2.2.lim = none) := by
  obtain ⟨g1, g2, g3⟩ := rtLay_spec h hr hz hE
  have hi := (img_ok hr hz).1
  have h1 := h.ic.ep
  have hdead := h.ic.lg.2.2.2.2.1
  have e1 := i64_succ h1 hE
  obtain ⟨W, hW⟩ : ∃ W, W = rtLay (k.epoch + 1) (imgBytes s') d := ⟨_, rfl⟩
  rw [← hW] at g1 g2 g3
  have hrt : rtWrite (k.epoch + 1) (imgBytes s') d = if W.1 = true then (0, W.2) else (12, W.2) := by
    rw [hW]; unfold rtWrite; rw [if_neg tO, if_neg tO]
  have hkr : kRenew { k with st := s' } d = if W.1 = true then (0, { k with st := s', epoch := k.epoch + 1, lg := kBegin W.2 (k.epoch + 1) }, W.2) else (12, { k with st := s' }, W.2) := by
    unfold kRenew
    dsimp only
    rw [e1, hrt]
    by_cases c : W.1 = true
    · rw [if_pos c, if_pos c]; rfl
    · rw [if_neg c, if_neg c]; rfl
  rw [hkr]
  by_cases c : W.1 = true
  · rw [if_pos c]
    have hlv := g1 c
    have hk2 : ({ k with st := s', epoch := k.epoch + 1, lg := kBegin W.2 (k.epoch + 1) } : Ks) = renewed s' (k.epoch + 1) := by
      rw [live_lg hlv.ic]; unfold renewed; rw [← hdead]
    exact ⟨.inl ⟨rfl, hk2, hlv⟩, g2, fun hln => ⟨rfl, (g3 hln).2⟩⟩
  · rw [if_neg c]
    exact ⟨.inr ⟨rfl, rfl⟩, g2, fun hln => absurd (g3 hln).1 c⟩
theorem append_eq {g : Lg} {b : List UInt8} {d : Dk} (h1 : g.failed = false) (h2 : g.fits b.length = true) : g.append b d = if (g.lay b d).1 = true then (0, { g with recs := g.recs ++ [b], next := g.behind b }, (g.lay b d).2) else (12, { g with failed := true }, (g.lay b d).2) := by
  unfold Lg.append
  rw [if_neg (by rw [h1]; decide), if_neg (by rw [h2]; decide)]
  rfl
structure Added (k : Ks) (b : List UInt8) (st' : Stt) (d : Dk) : Prop where
  done : (kAppend k b d).1 = 0 → ∃ k', (kAppend k b d).2.1 = { k' with st := k.st } ∧ k'.st = st' ∧ Live k' (kAppend k b d).2.2 ∧ k.epoch ≤ k'.epoch ∧ k'.epoch ≤ k.epoch + 1
  err : (kAppend k b d).1 = 0 ∨ (kAppend k b d).1 = 12 ∨ ((kAppend k b d).1 = 9 ∧ 10176 < b.length ∧ (kAppend k b d).2 = (k, d))
  safe : ∀ keep, ∃ k', IC k' ((kAppend k b d).2.2.crash keep) ∧ (k'.st = k.st ∨ k'.st = st') ∧ k'.epoch ≤ k.epoch + 1
  free : d.lim = none → (kAppend k b d).1 ≠ 12 ∧ (kAppend k b d).2.2.lim = none
theorem append_spec {k : Ks} {d : Dk} {b : List UInt8} {es : List Eff} {st' : Stt} (h : Live k d) (hz : k.st.size ≤ 6144) (hE : k.epoch + 1 ≤ top) (he : effRead b = some es) (hs : applyS k.st es = (st', 0)) : Added k b st' d := by
  have hok := h.ok
  have hlg := h.ic.lg
  have h1 := h.ic.ep
  have hb0 : 0 < b.length := by
    rcases Nat.eq_zero_or_pos b.length with h0 | h0
    · rw [List.length_eq_zero_iff.1 h0, show effRead [] = none from rfl] at he; cases he
    · exact h0
  have hfit : ∀ {g : Lg}, g.wf → ¬ g.room < (b.length : Int) → g.fits b.length = true := fun {g} hg hr => by
    have := hg.nx
    unfold Lg.room at hr
    refine Lg.fits_iff.2 ⟨by omega, ?_⟩
    rw [need_pos tO]; omega
  -- a record added where it fits
  have key : ∀ {k2 : Ks} {d2 : Dk}, Live k2 d2 → k2.st = k.st → k2.epoch ≤ top → k2.lg.fits b.length = true →
      ((k2.lg.append b d2).1 = 0 → { k2 with lg := (k2.lg.append b d2).2.1 } = { added k2 b st' with st := k.st } ∧ Live (added k2 b st') (k2.lg.append b d2).2.2) ∧
      ((k2.lg.append b d2).1 = 0 ∨ (k2.lg.append b d2).1 = 12) ∧ (∀ keep, IC k2 ((k2.lg.append b d2).2.2.crash keep) ∨ IC (added k2 b st') ((k2.lg.append b d2).2.2.crash keep)) ∧ (d2.lim = none → (k2.lg.append b d2).1 ≠ 12 ∧ (k2.lg.append b d2).2.2.lim = none) := fun {k2 d2} hl2 hst2 hep hf => by
    obtain ⟨g1, g2, g3⟩ := lay_spec hl2 hep hf he (by rw [hst2]; exact hs)
    rw [append_eq hl2.ic.lg.2.2.2.1 hf]
    by_cases c : (k2.lg.lay b d2).1 = true
    · rw [if_pos c]
      exact ⟨fun _ => ⟨by unfold added; rw [← hst2], g1 c⟩, .inl rfl, g2, fun hln => ⟨by show (0 : Int) ≠ 12; decide, (g3 hln).2⟩⟩
    · rw [if_neg c]
      exact ⟨fun e => absurd (show (12 : Int) = 0 from e) tD, .inr rfl, g2, fun hln => absurd (g3 hln).1 c⟩
  by_cases c1 : k.lg.room < (b.length : Int)
  · by_cases c2 : 10176 < (b.length : Int)
    · have hr : kAppend k b d = (9, k, d) := by unfold kAppend; rw [if_pos c1, if_pos c2]
      refine ⟨fun e => ?_, .inr (.inr ⟨by rw [hr], by omega, by rw [hr]⟩), fun keep => ⟨k, by rw [hr]; exact (h.crash keep).ic, .inl rfl, by omega⟩, fun hln => ⟨by rw [hr]; show (9 : Int) ≠ 12; decide, by rw [hr]; exact hln⟩⟩
      rw [hr] at e; exact absurd (show (9 : Int) = 0 from e) tD
    · obtain ⟨r1, r2, r3⟩ := renew_spec h hok.right hz hE
      have hk0 : ({ k with st := k.st } : Ks) = k := rfl
      rw [hk0] at r1 r2 r3
      rcases r1 with ⟨q1, q2, q3⟩ | ⟨q1, q2⟩
      · obtain ⟨D, hD⟩ : ∃ D, D = (kRenew k d).2.2 := ⟨_, rfl⟩
        rw [← hD] at q3 r2 r3
        have hr : kAppend k b d = (((renewed k.st (k.epoch + 1)).lg.append b D).1, { renewed k.st (k.epoch + 1) with lg := ((renewed k.st (k.epoch + 1)).lg.append b D).2.1 }, ((renewed k.st (k.epoch + 1)).lg.append b D).2.2) := by
          unfold kAppend; rw [if_pos c1, if_neg c2]; dsimp only; rw [if_pos q1, q2, ← hD]
        have hf2 : (renewed k.st (k.epoch + 1)).lg.fits b.length = true := by
          refine Lg.fits_iff.2 ⟨by show (1 : Int) ≤ 354 - 194; decide, ?_⟩
          show need b.length ≤ 354 - 194 - 1
          rw [need_pos tO]; omega
        obtain ⟨g1, g2, g3, g4⟩ := key q3 rfl hE hf2
        refine ⟨fun e => ?_, ?_, fun keep => ?_, fun hln => ?_⟩
        · rw [hr] at e ⊢
          obtain ⟨a1, a2⟩ := g1 e
          exact ⟨_, a1, rfl, a2, by show k.epoch ≤ k.epoch + 1; omega, Int.le_refl _⟩
        · rw [hr]; exact g2.elim .inl (fun e => .inr (.inl e))
        · rw [hr]
          rcases g3 keep with a | a
          · exact ⟨_, a, .inl rfl, Int.le_refl _⟩
          · exact ⟨_, a, .inr rfl, Int.le_refl _⟩
        · rw [hr]; exact g4 (r3 hln).2
      · have hr : kAppend k b d = kRenew k d := by unfold kAppend; rw [if_pos c1, if_neg c2]; dsimp only; rw [if_neg (by rw [q1]; decide)]
        refine ⟨fun e => ?_, .inr (.inl (by rw [hr]; exact q1)), fun keep => ?_, fun hln => ?_⟩
        · rw [hr, q1] at e; exact absurd e tD
        · rw [hr]
          rcases r2 keep with a | a
          · exact ⟨_, a, .inl rfl, by omega⟩
          · exact ⟨_, a, .inl rfl, Int.le_refl _⟩
        · have := (r3 hln).1; rw [q1] at this; exact absurd this tD
  · have hr : kAppend k b d = ((k.lg.append b d).1, { k with lg := (k.lg.append b d).2.1 }, (k.lg.append b d).2.2) := by unfold kAppend; rw [if_neg c1]
    obtain ⟨g1, g2, g3, g4⟩ := key h rfl tO (hfit hok.lg c1)
    refine ⟨fun e => ?_, ?_, fun keep => ?_, fun hln => ?_⟩
    · rw [hr] at e ⊢
      obtain ⟨a1, a2⟩ := g1 e
      exact ⟨_, a1, rfl, a2, Int.le_refl _, by show k.epoch ≤ k.epoch + 1; omega⟩
    · rw [hr]; exact g2.elim .inl (fun e => .inr (.inl e))
    · rw [hr]
      rcases g3 keep with a | a
      · exact ⟨_, a, .inl rfl, by omega⟩
      · exact ⟨_, a, .inr rfl, by show k.epoch ≤ k.epoch + 1; omega⟩
    · rw [hr]; exact g4 hln
end Go.Proofs.YtkbhldicnamcdaaGreat.L
namespace Go.Proofs.YtkbhldicnamcdaaGreat.L
open Go
set_option linter.unusedVariables false
set_option linter.unusedSimpArgs false
def dk1 : Dk := (kOpen (Dk.new 354)).2.2
def ks1 : Ks := renewed ⟨1, []⟩ 1
theorem new_open : (kOpen (Dk.new 354)).1 = 0 := by kernel_rfl
theorem new_store : (kOpen (Dk.new 354)).2.1 = ks1 := by kernel_rfl
theorem new_read : kRead dk1 = some ks1 := by kernel_rfl
theorem new_l : dk1.l = [] := by kernel_rfl
theorem new_len : dk1.len = 354 := by kernel_rfl
theorem new_cnt : dk1.cnt = 2 := by kernel_rfl
theorem new_194 : dk1.read 194 = zSec := by kernel_rfl
theorem new_live : Live ks1 dk1 := ⟨⟨new_read, new_len, by decide, fun e' n _ _ => by rw [new_194]; exact zero_head _ _ _⟩, new_l, kOpen_wf (Dk.wf_new 354)⟩
theorem apply_nil {s : Stt} (h : s.right = true) : applyS s [] = (s, 0) := by rw [apply_eq h]; rfl
structure Done (k : Ks) (l : List Eff) (d : Dk) : Prop where
  ok : (kDo k l d).1 = 0 → (applyS k.st l).2 = 0 ∧ Live (kDo k l d).2.1 (kDo k l d).2.2 ∧ (kDo k l d).2.1.st = (applyS k.st l).1 ∧ (applyS k.st l).1.size ≤ 6000 ∧ k.epoch ≤ (kDo k l d).2.1.epoch ∧ (kDo k l d).2.1.epoch ≤ k.epoch + 1
  no : (kDo k l d).1 ≠ 0 → (kDo k l d).1 ≠ 12 → (kDo k l d).2 = (k, d)
  broke : (kDo k l d).1 = 12 → (applyS k.st l).2 = 0 ∧ (kDo k l d).2.1.dead = true ∧ (kDo k l d).2.1.st = k.st
  safe : ∀ keep, ∃ k', IC k' ((kDo k l d).2.2.crash keep) ∧ (k'.st = k.st ∨ ((applyS k.st l).2 = 0 ∧ k'.st = (applyS k.st l).1 ∧ (applyS k.st l).1.size ≤ 6000)) ∧ k'.epoch ≤ k.epoch + 1
  free : d.lim = none → (kDo k l d).1 ≠ 12 ∧ (kDo k l d).2.2.lim = none
theorem do_spec {k : Ks} {d : Dk} {l : List Eff} (h : Live k d) (hz : k.st.size ≤ 6000) (hE : k.epoch + 1 ≤ top) (hl : l.length ≤ 10000) : Done k l d := by
  have hok := h.ok
  have hdd := h.ic.lg.2.2.2.2.1
  have hcode := apply_code k.st l
  have stay : ∀ {e : Int}, kDo k l d = (e, k, d) → e ≠ 0 → e ≠ 12 → Done k l d := fun {e} hr h0 h12 =>
    ⟨fun e' => by rw [hr] at e'; exact absurd e' h0, fun _ _ => by rw [hr], fun e' => by rw [hr] at e'; exact absurd e' h12, fun keep => ⟨k, by rw [hr]; exact (h.crash keep).ic, .inl rfl, by omega⟩, fun hln => ⟨by rw [hr]; exact h12, by rw [hr]; exact hln⟩⟩
  by_cases c1 : (applyS k.st l).2 = 0
  rotate_left
  · exact stay (e := (applyS k.st l).2) (by unfold kDo; rw [if_neg (by rw [hdd]; decide), if_pos c1]) c1 tO
  by_cases c2 : (6000 : Int) < ((applyS k.st l).1.size : Nat)
  · exact stay (e := 9) (by unfold kDo; rw [if_neg (by rw [hdd]; decide), if_neg (by rw [c1]; decide), if_pos c2]) tD tD
  by_cases c3 : l = []
  · have hr : kDo k l d = (0, k, d) := by unfold kDo; rw [if_neg (by rw [hdd]; decide), if_neg (by rw [c1]; decide), if_neg c2, if_pos c3]
    have ha : applyS k.st l = (k.st, 0) := by rw [c3]; exact apply_nil hok.right
    refine ⟨fun _ => ⟨c1, by rw [hr]; exact h, by rw [hr, ha], by omega, by rw [hr]; exact Int.le_refl _, by rw [hr]; show k.epoch ≤ _; omega⟩, fun e => ?_, fun e => ?_, fun keep => ⟨k, by rw [hr]; exact (h.crash keep).ic, .inl rfl, by omega⟩, fun hln => ⟨by rw [hr]; show (0 : Int) ≠ 12; decide, by rw [hr]; exact hln⟩⟩
    · rw [hr] at e; exact absurd rfl e
    · rw [hr] at e; exact absurd (show (0 : Int) = 12 from e) tD
  · have hr : kDo k l d = ((kAppend k (effsBytes l) d).1, { (kAppend k (effsBytes l) d).2.1 with dead := decide ((kAppend k (effsBytes l) d).1 = 12), st := if (kAppend k (effsBytes l) d).1 = 0 then (applyS k.st l).1 else k.st }, (kAppend k (effsBytes l) d).2.2) := by
      unfold kDo; rw [if_neg (by rw [hdd]; decide), if_neg (by rw [c1]; decide), if_neg c2, if_neg c3]
    obtain ⟨a1, a2, a3, a4⟩ := append_spec (st' := (applyS k.st l).1) h tO hE (effs_back c1 hl) (Prod.ext rfl c1)
    generalize kAppend k (effsBytes l) d = r at hr a1 a2 a3 a4
    refine ⟨fun e => ?_, fun e e2 => ?_, fun e => ?_, fun keep => ?_, fun hln => ?_⟩
    · rw [hr] at e ⊢
      have e : r.1 = 0 := e
      obtain ⟨k', b1, b2, b3, b4, b5⟩ := a1 e
      have hkk : ({ r.2.1 with dead := decide (r.1 = 12), st := if r.1 = 0 then (applyS k.st l).1 else k.st } : Ks) = k' := by
        have hd' := b3.ic.lg.2.2.2.2.1
        rw [b1, e, if_pos rfl]
        obtain ⟨st, ep, dd, lg⟩ := k'
        dsimp only at b2 hd' ⊢
        rw [b2, hd']; rfl
      exact ⟨c1, by show Live { r.2.1 with dead := decide (r.1 = 12), st := if r.1 = 0 then (applyS k.st l).1 else k.st } r.2.2; rw [hkk]; exact b3, by show (if r.1 = 0 then (applyS k.st l).1 else k.st) = _; rw [if_pos e], by omega, by show k.epoch ≤ r.2.1.epoch; rw [b1]; exact b4, by show r.2.1.epoch ≤ _; rw [b1]; exact b5⟩
    · rw [hr] at e e2
      rcases a2 with q | q | ⟨q1, q2, q3⟩
      · exact absurd q e
      · exact absurd q e2
      · rw [hr]
        have e1 : r.2.1 = k := by rw [q3]
        have e2 : r.2.2 = d := by rw [q3]
        show ({ r.2.1 with dead := decide (r.1 = 12), st := if r.1 = 0 then (applyS k.st l).1 else k.st }, r.2.2) = _
        rw [e1, e2, q1]
        obtain ⟨st, ep, dd, lg⟩ := k
        cases hdd
        rfl
    · rw [hr] at e ⊢
      have e : r.1 = 12 := e
      exact ⟨c1, by show decide (r.1 = 12) = true; rw [e]; rfl, by show (if r.1 = 0 then _ else k.st) = k.st; rw [if_neg (by rw [e]; decide)]⟩
    · obtain ⟨k', b1, b2, b3⟩ := a3 keep
      exact ⟨k', by rw [hr]; exact b1, b2.imp id (fun e => ⟨c1, e, by omega⟩), b3⟩
    · rw [hr]; exact a4 hln
end Go.Proofs.YtkbhldicnamcdaaGreat.L
namespace Go.Proofs.YtkbhldicnamcdaaGreat.L
open Go Go.Proofs
attribute [local irreducible] pv fv pt fz RowF RowO rowP old pure_ elA Rd.int Rd.text Rd.flag Rd.msg Rd.rint Rd.rtext Rd.rflag Rd.rmsg
set_option maxRecDepth 100000
set_option linter.unusedSimpArgs false
set_option linter.unusedVariables false
attribute [local irreducible] DkX KsX
def tT : ByteArray := ⟨#[116]⟩
def mkT : Eff := ⟨1, tT, ⟨#[]⟩, ⟨#[]⟩, 1, 0, false, ⟨0, 0, 0, false, ⟨#[]⟩, ⟨#[]⟩⟩⟩
def stT (rows : List Rw) : Stt := ⟨1, [⟨tT, 1, 0, rows, [], []⟩]⟩
def ks2 : Ks := (kDo ks1 [mkT] dk1).2.1
def dk2 : Dk := (kDo ks1 [mkT] dk1).2.2
theorem mk_done : (kDo ks1 [mkT] dk1).1 = 0 := by kernel_rfl
theorem ks2_st : ks2.st = stT [] := by kernel_rfl
theorem dk2_cnt : dk2.cnt = 6 := by kernel_rfl
theorem ks1_size : ks1.st.size = 16 := by kernel_rfl
theorem live2 : Live ks2 dk2 := ((do_spec (l := [mkT]) new_live (by rw [ks1_size]; decide) tD tD).ok mk_done).2.1
theorem ks_Open0 (p : Nat) : Fn Tryz.prog 17 [.pointer (some ⟨p, 0, none⟩)].toArray [DkX p (Dk.new 354)] (fun r post => ∃ s, r = .tuple #[.pointer (some ⟨s, 0, none⟩), .int .i64 0] ∧ post = [DkX p dk1, KsX s p ks1]) :=
  (ks_OpenG p (Dk.new 354) (Dk.wf_new 354) tD (Nat.zero_le _) new_open).mono fun r post ⟨s, h1, h2⟩ => ⟨s, h1, by rw [h2, new_store]; rfl⟩
theorem ks_Do1 (s p : Nat) (q : Option Addr) : Fn Tryz.prog 24 [.pointer (some ⟨s, 0, none⟩), .slice q 1 1].toArray [RowF Kd.eff q [mkT], DkX p dk1, KsX s p ks1]
    (fun r post => r = .int .i64 0 ∧ post = [DkX p dk2, KsX s p ks2]) :=
  (ks_DoX s p dk1 ks1 q 1 [mkT] new_live.ok new_live.wf (by rw [new_len]; decide) (by rw [new_cnt]; decide) tD).mono fun r post ⟨h1, h2⟩ => ⟨by rw [h1, mk_done], h2⟩
theorem num21 (n : Int) : Fn Tryz.prog 19 [.int .i64 n].toArray [] (fun r post => r = .int .i64 n ∧ post = []) := by
  refine Fn.enter (N := 4) Tryz.func19 rfl Tryz.ntmps19 tK rfl (fun ρ L => ?_)
  refine K.seq <| K.region <| KO.q rfl (q_assign rfl) <| KO.done <| K.seq <| K.region <| KO.q rfl (q_move rfl) <| KO.q rfl (q_assign rfl) <| KO.done ?_
  refine kr1 Tryz.func19 Tryz.results19 rfl (fun w hs => ?_)
  exact ⟨_, [], rfl, ⟨rfl, rfl⟩, hs.fitD⟩
theorem st_len1 {s' : Sz} {x : Ob} {n : Int} (h : s'.st = ⟨n, [x]⟩) : s'.l.length = 1 := by
  have := congrArg (fun s : Stt => s.objs.length) h
  simpa [Sz.st] using this
set_option maxHeartbeats 1600000 in
theorem alive21 : Fn Tryz.prog 10 ([] : List Value).toArray [] (fun r post => r = .bool true ∧ post = []) := by
  have hok2 := live2.ok
  refine Fn.enter (N := 38) Tryz.func10 rfl Tryz.ntmps10 tK rfl (fun ρ L => ?_)
  refine K.seq <| K.region <| KO.q rfl (q_assign rfl) <| KO.done <| K.seq <| K.region <| KO.loud rfl (OpL.callD rfl (h := ks_Need)) ?_
  rintro _ _ ⟨_, ⟨rfl, rfl⟩, rfl⟩
  refine KO.loud rfl (OpL.callD rfl (h := dk_New 354)) ?_
  rintro _ _ ⟨_, ⟨p, rfl, rfl⟩, rfl⟩
  refine KO.loud rfl (OpL.callD rfl (h := ks_Open0 p)) ?_
  rintro _ _ ⟨_, ⟨s, rfl, rfl⟩, rfl⟩
  refine KO.q rfl (q_move rfl) <| KO.q rfl (q_extract rfl rfl) <| KO.q rfl (q_extract rfl rfl) <| KO.q rfl (q_assign rfl) <| KO.q rfl (q_assign rfl) <| KO.done <| K.seq <| K.seq <| K.region <| KO.q rfl (q_move rfl) <| KO.loud rfl (OpL.callD rfl (h := num21 _)) ?_
  rintro _ _ ⟨_, ⟨rfl, rfl⟩, rfl⟩
  refine KO.q rfl (q_ne rfl rfl) <| KO.q rfl (q_move rfl) ?_
  refine KO.dsplit 14 rfl (fun g14 => ?_) (fun g14 => ?_)
  · exact absurd g14 tD
  · refine KO.q rfl (q_move rfl) <| KO.q rfl (q_pnil Tryz.underlying36 rfl rfl) <| KO.q rfl (q_pickF rfl rfl) <| KO.done <| K.no rfl <| K.skip <| K.seq <| K.region <| KO.q rfl (q_move rfl) <| KO.loud rfl (OpL.callD rfl (h := ks_EpochX s p ks1)) ?_
    rintro _ _ ⟨_, ⟨rfl, rfl⟩, rfl⟩
    refine KO.q rfl (q_assign rfl) <| KO.done <| K.seq <| K.region <| KO.q rfl (q_move rfl) <| KO.q rfl (q_as (q_build st_58 rfl tF) (show _ = mkT.cells from rfl)) <| KO.loud rfl (l_slice1 sz_64_1 rfl rfl ⟨rfl, rfl, rfl⟩) ?_
    rintro _ _ ⟨b22, rfl, rfl⟩
    refine KO.st (fun w h => pv_effs [mkT] rfl h) <| KO.loud rfl (OpL.callD rfl (h := ks_Do1 s p (some ⟨b22, 0, none⟩))) ?_
    rintro _ _ ⟨_, ⟨rfl, rfl⟩, rfl⟩
    refine KO.q rfl (q_assign rfl) <| KO.done <| K.seq <| K.region <| KO.q rfl (q_move rfl) <| KO.q rfl (q_eqT rfl rfl (rfl)) <| KO.q rfl (q_move rfl) <| KO.q rfl (q_move rfl) <| KO.loud rfl (OpL.callD rfl (h := num21 _)) ?_
    rintro _ _ ⟨_, ⟨rfl, rfl⟩, rfl⟩
    refine KO.q rfl (q_eqT rfl rfl (rfl)) <| KO.q rfl (q_pickT rfl rfl) <| KO.q rfl (q_move rfl) <| KO.q rfl (q_move rfl) <| KO.loud rfl (OpL.callD rfl (h := ks_StateX s p ks2 hok2)) ?_
    rintro _ _ ⟨_, ⟨sz, rfl, hst, hgd, rfl⟩, rfl⟩
    have hl1 : sz.l.length = 1 := st_len1 (hst.trans ks2_st)
    refine KO.q rfl (q_fldV Tryz.underlying47 rfl ck_45 rfl rfl) <| KO.q rfl (q_len Tryz.underlying45 rfl) <| KO.q rfl (q_eqT rfl rfl ((by rw [hl1]; rfl))) <| KO.q rfl (q_pickT rfl rfl) <| KO.q rfl (q_assign rfl) <| KO.done ?_
    refine kr1 Tryz.func10 Tryz.results10 rfl (fun w hs => ?_)
    exact ⟨_, [], rfl, ⟨rfl, rfl⟩, hs.fitD⟩
end Go.Proofs.YtkbhldicnamcdaaGreat.L
namespace Go.Proofs.YtkbhldicnamcdaaGreat.L
open Go Go.Proofs
attribute [local irreducible] pv fv pt fz RowF RowO rowP old pure_ elA Rd.int Rd.text Rd.flag Rd.msg Rd.rint Rd.rtext Rd.rflag Rd.rmsg
set_option maxRecDepth 100000
set_option linter.unusedSimpArgs false
set_option linter.unusedVariables false
attribute [local irreducible] DkX KsX
theorem tableO_name (o : Ob) (e : Eff) : (tableO o e).1.name = o.name := by unfold tableO; split <;> rfl
theorem freeO_name (o : Ob) (id : Int) (t : Bool) : (freeO o id t).1.name = o.name := by
  unfold freeO
  split
  · rfl
  · split
    · rfl
    · split
      · rfl
      · split <;> rfl
theorem queueO_name (s : Stt) (o : Ob) (e : Eff) : (queueO s o e).1.name = o.name := by
  unfold queueO
  split
  · split
    · rfl
    · split <;> rfl
  · split
    · rfl
    · split
      · split <;> rfl
      · split
        · exact freeO_name _ _ _
        · rfl
def hasO (s : Stt) (n : ByteArray) : Prop := ∃ o ∈ s.objs, o.name = n
theorem hasO_set {s : Stt} {i : Nat} {o p : Ob} {n : ByteArray} (ho : s.objs[i]? = some o) (hn : p.name = o.name) (h : hasO s n) (m : Int) : hasO ⟨m, s.objs.set i p⟩ n := by
  obtain ⟨x, hx, hxn⟩ := h
  obtain ⟨j, hj⟩ := List.mem_iff_getElem?.1 hx
  obtain ⟨hi, _⟩ := List.getElem?_eq_some_iff.1 ho
  by_cases e : i = j
  · subst e
    rw [ho] at hj; cases hj
    exact ⟨p, List.mem_iff_getElem?.2 ⟨i, by rw [List.getElem?_set_self hi]⟩, by rw [hn, hxn]⟩
  · exact ⟨x, List.mem_iff_getElem?.2 ⟨j, by rw [List.getElem?_set_ne e]; exact hj⟩, hxn⟩
theorem doS_has {s : Stt} {e : Eff} {n : ByteArray} (h : hasO s n) : hasO (doS s e).1 n := by
  unfold doS
  split
  · exact h
  · split
    · unfold makeS
      split
      · exact h
      · split
        · exact h
        · obtain ⟨x, hx, hxn⟩ := h
          refine ⟨x, ?_, hxn⟩
          show x ∈ insAt s.objs _ _
          exact (ins_perm _ _ _).mem_iff.2 (List.mem_cons_of_mem _ hx)
    · split
      · unfold nextS
        split
        · exact h
        · exact h
      · split
        · exact h
        · rename_i cf
          obtain ⟨i, o, ho, hi, _⟩ := SR.obj_at cf
          rw [hi, gd_at ho]
          split
          · exact h
          · split
            · exact hasO_set ho (tableO_name _ _) h _
            · exact hasO_set ho (queueO_name _ _ _) h _
theorem make_twice {s : Stt} (h : hasO s tT) : (doS s mkT).2 = 4 := by
  have hf : 0 ≤ findO s tT := by
    rcases Int.lt_or_le (findO s tT) 0 with hh | hh
    · obtain ⟨o, ho, hn⟩ := h; exact absurd hn (findO_none hh o ho)
    · exact hh
  unfold doS
  rw [if_neg tD, if_pos (by rfl)]
  unfold makeS
  rw [if_pos (show 0 ≤ findO s mkT.object from hf)]
theorem twice_all : ∀ (a b : List Eff) (s : Stt), hasO s tT → (doAll s (a ++ mkT :: b)).2 ≠ 0
  | [], b, s, h => by
    show (doAll s (mkT :: b)).2 ≠ 0
    unfold doAll
    rw [if_neg (by rw [make_twice h]; decide)]
    show (doS s mkT).2 ≠ 0
    rw [make_twice h]; decide
  | e :: a, b, s, h => by
    show (doAll s (e :: (a ++ mkT :: b))).2 ≠ 0
    unfold doAll
    by_cases c : (doS s e).2 = 0
    · rw [if_pos c]; exact twice_all a b _ (doS_has h)
    · rw [if_neg c]; exact c
def putA : Eff := ⟨2, tT, ⟨#[97]⟩, ⟨#[]⟩, 0, 0, false, ⟨0, 0, 0, false, ⟨#[]⟩, ⟨#[]⟩⟩⟩
theorem put_done : (kDo ks2 [putA] dk2).1 = 0 := by kernel_rfl
theorem put_cnt : (kDo ks2 [putA] dk2).2.2.cnt = 10 := by kernel_rfl
theorem nil_done : kDo ks2 [] dk2 = (0, ks2, dk2) := by kernel_rfl
set_option maxHeartbeats 3200000 in
theorem law_KeepErrors (q : Option Addr) (c : Nat) (l : List Eff) (at_ : Int) (hlc : l.length ≤ c) (hlb : (l.length : Int) ≤ 9223372036854775807) : Fn Tryz.prog 6 [.slice q l.length c, .int .i64 at_].toArray [RowF Kd.eff q l] (fun r post => r = .bool true ∧ post = []) := by
  have hok2 := live2.ok
  refine Fn.enter (N := 100) Tryz.func6 rfl Tryz.ntmps6 tK rfl (fun ρ L => ?_)
  refine K.seq <| K.region <| KO.q rfl (q_assign rfl) <| KO.done <| K.seq <| K.region <| KO.loud rfl (OpL.callD rfl (h := alive21)) ?_
  rintro _ _ ⟨_, ⟨rfl, rfl⟩, rfl⟩
  refine KO.q rfl (q_assign rfl) <| KO.done <| K.seq <| K.seq <| K.region <| KO.q rfl (q_move rfl) <| KO.q rfl (q_not rfl) <| KO.q rfl (q_move rfl) <| KO.q rfl (q_move rfl) <| KO.q rfl (q_len Tryz.underlying64 rfl) <| KO.q rfl (q_gt rfl rfl) ?_
  refine KO.q rfl (q_pickF rfl rfl) <| KO.q rfl (q_move rfl) ?_
  refine KO.dsplit 24 rfl (fun g24 => ?_) (fun g24 => ?_)
  · refine KO.skip rfl <| KO.skip rfl <| KO.q rfl (q_pickT rfl rfl) <| KO.done <| K.yes rfl <| K.seq <| K.region <| KO.q rfl (q_move rfl) <| KO.q rfl (q_assign rfl) <| KO.done ?_
    refine kr1 Tryz.func6 Tryz.results6 rfl (fun w hs => ?_)
    exact ⟨_, [], rfl, ⟨by first | rfl | (rw [dk2_cnt]; rfl) | (simp [dk2_cnt]), rfl⟩, hs.fitD⟩
  · refine KO.q rfl (q_move rfl) <| KO.q rfl (q_lt rfl rfl) <| KO.q rfl (q_pickF rfl rfl) <| KO.done ?_
    refine K.dcond (s := 27) rfl (fun g27 => ?_) (fun g27 => ?_)
    · refine K.seq <| K.region <| KO.q rfl (q_move rfl) <| KO.q rfl (q_assign rfl) <| KO.done ?_
      refine kr1 Tryz.func6 Tryz.results6 rfl (fun w hs => ?_)
      exact ⟨_, [], rfl, ⟨by first | rfl | (rw [dk2_cnt]; rfl) | (simp [dk2_cnt]), rfl⟩, hs.fitD⟩
    · refine K.skip <| K.seq <| K.region <| KO.loud rfl (OpL.callD rfl (h := ks_Need)) ?_
      rintro _ _ ⟨_, ⟨rfl, rfl⟩, rfl⟩
      refine KO.loud rfl (OpL.callD rfl (h := dk_New 354)) ?_
      rintro _ _ ⟨_, ⟨p, rfl, rfl⟩, rfl⟩
      refine KO.q rfl (q_assign rfl) <| KO.done <| K.seq <| K.region <| KO.q rfl (q_move rfl) <| KO.loud rfl (OpL.callD rfl (h := ks_Open0 p)) ?_
      rintro _ _ ⟨_, ⟨s, rfl, rfl⟩, rfl⟩
      refine KO.q rfl (q_move rfl) <| KO.q rfl (q_extract rfl rfl) <| KO.q rfl (q_extract rfl rfl) <| KO.q rfl (q_assign rfl) <| KO.q rfl (q_assign rfl) <| KO.done <| K.seq <| K.seq <| K.region <| KO.q rfl (q_move rfl) <| KO.loud rfl (OpL.callD rfl (h := num21 _)) ?_
      rintro _ _ ⟨_, ⟨rfl, rfl⟩, rfl⟩
      refine KO.q rfl (q_ne rfl rfl) <| KO.q rfl (q_move rfl) ?_
      refine KO.dsplit 39 rfl (fun g39 => ?_) (fun g39 => ?_)
      · exact absurd g39 tD
      · refine KO.q rfl (q_move rfl) <| KO.q rfl (q_pnil Tryz.underlying36 rfl rfl) <| KO.q rfl (q_pickF rfl rfl) <| KO.done <| K.no rfl <| K.skip <| K.seq <| K.region <| KO.q rfl (q_move rfl) <| KO.q rfl (q_as (q_build st_58 rfl tF) (show _ = mkT.cells from rfl)) <| KO.loud rfl (l_slice1 sz_64_1 rfl rfl ⟨rfl, rfl, rfl⟩) ?_
        rintro _ _ ⟨b45, rfl, rfl⟩
        refine KO.st (fun w h => pv_effs [mkT] rfl h) <| KO.loud rfl (OpL.callD rfl (h := ks_Do1 s p (some ⟨b45, 0, none⟩))) ?_
        rintro _ _ ⟨_, ⟨rfl, rfl⟩, rfl⟩
        refine KO.done <| K.seq <| K.region <| KO.q rfl (q_move rfl) <| KO.loud rfl (OpL.callD rfl (h := ks_StateX s p ks2 hok2)) ?_
        rintro _ _ ⟨_, ⟨sz, rfl, hst, hgd, rfl⟩, rfl⟩
        have hszok := Sz.ok_of hgd.sm hgd.room hgd.cap
        refine KO.loud rfl (l_alloc zo_47) ?_
        rintro _ _ ⟨b9, rfl, rfl⟩
        refine KO.loudN rfl (l_storeAll ck_47 rfl rfl ⟨rfl, rfl⟩ (sz_one _) tP) ?_
        rintro _ _ ⟨rfl, rfl⟩
        refine KO.done <| K.seq ?_
        obtain ⟨k, hk, hkl⟩ : ∃ k : Nat, at_.tmod ((l.length : Int) + 1) = (k : Int) ∧ k ≤ l.length := by
          refine ⟨(at_.tmod ((l.length : Int) + 1)).toNat, ?_, ?_⟩
          · rw [Int.tmod_eq_emod_of_nonneg tO]; have := Int.emod_nonneg at_ (b := (l.length : Int) + 1) tO; omega
          · rw [Int.tmod_eq_emod_of_nonneg tO]; have := Int.emod_lt_of_pos at_ (b := (l.length : Int) + 1) tO; omega
        refine K.region <| KO.q rfl (q_move rfl) <| KO.q rfl (q_move rfl) <| KO.q rfl (q_len Tryz.underlying64 rfl) <| KO.q rfl (q_add rfl rfl tN tN) <| KO.q rfl (q_is (q_rem rfl rfl tO) (congrArg (Value.int .i64) hk)) <| KO.q rfl (q_assign rfl) <| KO.done <| K.seq ?_
        have htk : (l.take k).length = k := by rw [List.length_take]; omega
        have hdk : (l.drop k).length = l.length - k := by rw [List.length_drop]
        refine K.st (fun w h => rowF_take (k := Kd.eff) (p := q) (xs := l) k tM h) <| K.st (fun w h => rowF_cut (k := Kd.eff) (p := q) (xs := l) (cap := c) k hlc tM h) <| K.st (fun w h => rowO_nil (k := Kd.eff) 58 h) <| K.drawS [] (fun _ h => h.subD) mixed <| dq 0 rfl (q_move rfl) <| dq 1 rfl (q_move rfl) <| dq 2 rfl (q_is (q_cutH se_64 rfl rfl tO tO) (show Value.slice q (k : Int).toNat c = Value.slice q (l.take k).length c by rw [htk]; rfl)) <| dq 4 rfl (q_as (q_build st_58 rfl tF) (show _ = mkT.cells from rfl)) <| dq 7 rfl (q_move rfl) <| dq 8 rfl (q_move rfl) ?_
        refine dq 9 rfl (q_is (q_cutL se_64 rfl rfl tO tO hlc) (show Value.slice (cutAddr q c (k : Int).toNat 13) (l.length - (k : Int).toNat) (c - (k : Int).toNat) = Value.slice (cutAddr q c k 13) (l.drop k).length (c - k) by rw [hdk]; rfl)) ?_
        refine D.all (rs := [3, 5]) tK rfl (DAll.cons rfl tK (l_append Kd.eff (xs := []) (ys := l.take k) se_64 Tryz.underlying64 ⟨_, ze_58, rfl⟩ tD rfl rfl tP isF tM rfl rfl (by show (2 * (0 + (l.take k).length) + 768) * _ ≤ _; omega)) (.inr (by rintro _ _ ⟨q1, c1, rfl, rfl⟩ w h; exact h.subD)) rfl ?_ (DAll.cons rfl tK (l_slice1 sz_64_1 rfl rfl ⟨rfl, rfl, rfl⟩) (.inr (by rintro _ _ ⟨b59, rfl, rfl⟩ w h; exact h.subD)) rfl ?_ DAll.nil))
        · rintro _ _ ⟨q1, c1, rfl, rfl⟩
          refine dq1 5 rfl (l_slice1 sz_64_1 rfl rfl ⟨rfl, rfl, rfl⟩) (.inr (by rintro _ _ ⟨b59, rfl, rfl⟩ w h; exact h.subD)) ?_
          rintro _ _ ⟨b59, rfl, rfl⟩
          refine dq1 6 rfl (l_append Kd.eff (ys := [mkT]) se_64 Tryz.underlying64 ⟨_, ze_58, rfl⟩ tD rfl rfl tP isP tM rfl rfl (by show (2 * (([] ++ l.take k).length + 1) + 768) * _ ≤ _; rw [List.nil_append]; omega)) (.inr (by rintro _ _ ⟨q2, c2, rfl, rfl⟩ w h; exact h.subD)) ?_
          rintro _ _ ⟨q2, c2, rfl, rfl⟩
          refine dq1 10 rfl (l_append Kd.eff (ys := l.drop k) se_64 Tryz.underlying64 ⟨_, ze_58, rfl⟩ tD rfl rfl tP isF tM rfl rfl (by show (2 * (([] ++ l.take k ++ [mkT]).length + (l.drop k).length) + 768) * _ ≤ _; rw [List.nil_append, List.length_append]; simp only [List.length_singleton]; omega)) (.inr (by rintro _ _ ⟨q3, c3, rfl, rfl⟩ w h; exact h.subD)) ?_
          rintro _ _ ⟨q3, c3, rfl, rfl⟩
          refine dq 11 rfl (q_assign rfl) <| D.done tK <| K.st (fun w h => rowO_freeze (h.pick tP)) ?_
          have hall : ([] : List Eff) ++ l.take k ++ [mkT] ++ l.drop k = l.take k ++ mkT :: l.drop k := by simp
          have hlen : (l.take k ++ mkT :: l.drop k).length ≤ 10000 := by rw [List.length_append, List.length_cons]; omega
          rw [hall]
          have hne : (applyS ks2.st (l.take k ++ mkT :: l.drop k)).2 ≠ 0 := by
            rw [ks2_st, apply_eq tD]
            exact twice_all _ _ _ ⟨⟨tT, 1, 0, [], [], []⟩, List.mem_cons_self, rfl⟩
          have hcd := apply_code ks2.st (l.take k ++ mkT :: l.drop k)
          have hkd : kDo ks2 (l.take k ++ mkT :: l.drop k) dk2 = ((applyS ks2.st (l.take k ++ mkT :: l.drop k)).2, ks2, dk2) := by
            unfold kDo; rw [if_neg (by rw [live2.ic.lg.2.2.2.2.1]; decide), if_pos hne]
          refine K.seq <| K.region <| KO.q rfl (q_move rfl) <| KO.q rfl (q_move rfl) <| KO.loud rfl (OpL.callD rfl (h := ks_DoX s p dk2 ks2 q3 c3 (l.take k ++ mkT :: l.drop k) hok2 live2.wf (by rw [live2.ic.len]; decide) (by rw [dk2_cnt]; decide) hlen)) ?_
          rintro _ _ ⟨_, ⟨rfl, rfl⟩, rfl⟩
          rw [hkd]
          refine KO.q rfl (q_assign rfl) <| KO.done <| K.seq <| K.region <| KO.q rfl (q_move rfl) <| KO.loud rfl (OpL.callD rfl (h := dk_Writes p dk2)) ?_
          rintro _ _ ⟨_, ⟨rfl, rfl⟩, rfl⟩
          refine KO.q rfl (q_assign rfl) <| KO.done <| K.seq <| K.seq <| K.drawS [pv b9 47 sz.cells] (fun _ h => h.subD) mixed <| dq 0 rfl (q_move rfl) <| dq1 1 rfl (OpL.callD rfl (h := num21 _)) (.inl tK) ?_
          rintro _ _ ⟨_, ⟨rfl, rfl⟩, rfl⟩
          refine dq 2 rfl (q_eqF rfl rfl (hne)) <| dq 3 rfl (q_move rfl) <| dq 4 rfl (q_move rfl) <| dq 6 rfl (q_as_sz (l_ := sz.l) (q_loadN ck_47 rfl rfl tC) rfl) <| dq1 5 rfl (OpL.callD rfl (h := ks_StateX s p ks2 hok2)) (.inr (by rintro _ _ ⟨_, ⟨sz2, rfl, hst2, hgd2, rfl⟩, rfl⟩ w h; exact h.subD)) ?_
          rintro _ _ ⟨_, ⟨sz2, rfl, hst2, hgd2, rfl⟩, rfl⟩
          have hsz2ok := Sz.ok_of hgd2.sm hgd2.room hgd2.cap
          refine dq1 7 rfl (OpL.callD rfl (h := ref_SameState sz2 sz hsz2ok)) (.inr (by rintro _ _ ⟨_, ⟨rfl, rfl⟩, rfl⟩ w h; exact h.subD)) ?_
          rintro _ _ ⟨_, ⟨rfl, rfl⟩, rfl⟩
          rw [decide_eq_true (show sz2.st = sz.st by rw [hst, hst2])]
          refine dq 8 rfl (q_not rfl) <| dq 9 rfl (q_pickF rfl rfl) <| D.done tK <| K.no rfl <| K.skip <| K.seq <| K.st (fun w h => rowF_nilA (k := Kd.eff) h) <| K.region <| KO.q rfl (q_move rfl) <| KO.loud rfl (OpL.callD rfl (h := ks_DoX s p dk2 ks2 none 0 [] hok2 live2.wf (by rw [live2.ic.len]; decide) (by rw [dk2_cnt]; decide) tD)) ?_
          rintro _ _ ⟨_, ⟨rfl, rfl⟩, rfl⟩
          rw [nil_done]
          refine KO.q rfl (q_assign rfl) <| KO.done <| K.seq <| K.region <| KO.q rfl (q_move rfl) <| KO.q rfl (q_as (q_build st_58 rfl tF) (show _ = putA.cells from rfl)) <| KO.loud rfl (l_slice1 sz_64_1 rfl rfl ⟨rfl, rfl, rfl⟩) ?_
          rintro _ _ ⟨b84, rfl, rfl⟩
          refine KO.st (fun w h => pv_effs [putA] rfl h) <| KO.loud rfl (OpL.callD rfl (h := ks_DoX s p dk2 ks2 (some ⟨b84, 0, none⟩) 1 [putA] hok2 live2.wf (by rw [live2.ic.len]; decide) (by rw [dk2_cnt]; decide) tD)) ?_
          rintro _ _ ⟨_, ⟨rfl, rfl⟩, rfl⟩
          rw [put_done]
          refine KO.q rfl (q_assign rfl) <| KO.done <| K.seq <| K.region <| KO.q rfl (q_move rfl) <| KO.loud rfl (OpL.callD rfl (h := num21 _)) ?_
          rintro _ _ ⟨_, ⟨rfl, rfl⟩, rfl⟩
          refine KO.q rfl (q_eqT rfl rfl (rfl)) <| KO.q rfl (q_move rfl) <| KO.q rfl (q_move rfl) <| KO.loud rfl (OpL.callD rfl (h := num21 _)) ?_
          rintro _ _ ⟨_, ⟨rfl, rfl⟩, rfl⟩
          refine KO.q rfl (q_eqT rfl rfl (rfl)) <| KO.q rfl (q_pickT rfl rfl) <| KO.q rfl (q_move rfl) <| KO.q rfl (q_move rfl) <| KO.loud rfl (OpL.callD rfl (h := dk_Writes p (kDo ks2 [putA] dk2).2.2)) ?_
          rintro _ _ ⟨_, ⟨rfl, rfl⟩, rfl⟩
          rw [put_cnt]
          refine KO.q rfl (q_move rfl) <| KO.q rfl (q_gt rfl rfl) <| KO.q rfl (q_pickT rfl rfl) <| KO.q rfl (q_assign rfl) <| KO.done ?_
          refine kr1 Tryz.func6 Tryz.results6 rfl (fun w hs => ?_)
          exact ⟨_, [], rfl, ⟨by first | rfl | (rw [dk2_cnt]; rfl) | (simp [dk2_cnt]), rfl⟩, hs.fitD⟩
        · rintro _ _ ⟨b59, rfl, rfl⟩
          refine dq1 3 rfl (l_append Kd.eff (xs := []) (ys := l.take k) se_64 Tryz.underlying64 ⟨_, ze_58, rfl⟩ tD rfl rfl tP isF tM rfl rfl (by show (2 * (0 + (l.take k).length) + 768) * _ ≤ _; omega)) (.inr (by rintro _ _ ⟨q1, c1, rfl, rfl⟩ w h; exact h.subD)) ?_
          rintro _ _ ⟨q1, c1, rfl, rfl⟩
          refine dq1 6 rfl (l_append Kd.eff (ys := [mkT]) se_64 Tryz.underlying64 ⟨_, ze_58, rfl⟩ tD rfl rfl tP isP tM rfl rfl (by show (2 * (([] ++ l.take k).length + 1) + 768) * _ ≤ _; rw [List.nil_append]; omega)) (.inr (by rintro _ _ ⟨q2, c2, rfl, rfl⟩ w h; exact h.subD)) ?_
          rintro _ _ ⟨q2, c2, rfl, rfl⟩
          refine dq1 10 rfl (l_append Kd.eff (ys := l.drop k) se_64 Tryz.underlying64 ⟨_, ze_58, rfl⟩ tD rfl rfl tP isF tM rfl rfl (by show (2 * (([] ++ l.take k ++ [mkT]).length + (l.drop k).length) + 768) * _ ≤ _; rw [List.nil_append, List.length_append]; simp only [List.length_singleton]; omega)) (.inr (by rintro _ _ ⟨q3, c3, rfl, rfl⟩ w h; exact h.subD)) ?_
          rintro _ _ ⟨q3, c3, rfl, rfl⟩
          refine dq 11 rfl (q_assign rfl) <| D.done tK <| K.st (fun w h => rowO_freeze (h.pick tP)) ?_
          have hall : ([] : List Eff) ++ l.take k ++ [mkT] ++ l.drop k = l.take k ++ mkT :: l.drop k := by simp
          have hlen : (l.take k ++ mkT :: l.drop k).length ≤ 10000 := by rw [List.length_append, List.length_cons]; omega
          rw [hall]
          have hne : (applyS ks2.st (l.take k ++ mkT :: l.drop k)).2 ≠ 0 := by
            rw [ks2_st, apply_eq tD]
            exact twice_all _ _ _ ⟨⟨tT, 1, 0, [], [], []⟩, List.mem_cons_self, rfl⟩
          have hcd := apply_code ks2.st (l.take k ++ mkT :: l.drop k)
          have hkd : kDo ks2 (l.take k ++ mkT :: l.drop k) dk2 = ((applyS ks2.st (l.take k ++ mkT :: l.drop k)).2, ks2, dk2) := by
            unfold kDo; rw [if_neg (by rw [live2.ic.lg.2.2.2.2.1]; decide), if_pos hne]
          refine K.seq <| K.region <| KO.q rfl (q_move rfl) <| KO.q rfl (q_move rfl) <| KO.loud rfl (OpL.callD rfl (h := ks_DoX s p dk2 ks2 q3 c3 (l.take k ++ mkT :: l.drop k) hok2 live2.wf (by rw [live2.ic.len]; decide) (by rw [dk2_cnt]; decide) hlen)) ?_
          rintro _ _ ⟨_, ⟨rfl, rfl⟩, rfl⟩
          rw [hkd]
          refine KO.q rfl (q_assign rfl) <| KO.done <| K.seq <| K.region <| KO.q rfl (q_move rfl) <| KO.loud rfl (OpL.callD rfl (h := dk_Writes p dk2)) ?_
          rintro _ _ ⟨_, ⟨rfl, rfl⟩, rfl⟩
          refine KO.q rfl (q_assign rfl) <| KO.done <| K.seq <| K.seq <| K.drawS [pv b9 47 sz.cells] (fun _ h => h.subD) mixed <| dq 0 rfl (q_move rfl) <| dq1 1 rfl (OpL.callD rfl (h := num21 _)) (.inl tK) ?_
          rintro _ _ ⟨_, ⟨rfl, rfl⟩, rfl⟩
          refine dq 2 rfl (q_eqF rfl rfl (hne)) <| dq 3 rfl (q_move rfl) <| dq 4 rfl (q_move rfl) <| dq 6 rfl (q_as_sz (l_ := sz.l) (q_loadN ck_47 rfl rfl tC) rfl) <| dq1 5 rfl (OpL.callD rfl (h := ks_StateX s p ks2 hok2)) (.inr (by rintro _ _ ⟨_, ⟨sz2, rfl, hst2, hgd2, rfl⟩, rfl⟩ w h; exact h.subD)) ?_
          rintro _ _ ⟨_, ⟨sz2, rfl, hst2, hgd2, rfl⟩, rfl⟩
          have hsz2ok := Sz.ok_of hgd2.sm hgd2.room hgd2.cap
          refine dq1 7 rfl (OpL.callD rfl (h := ref_SameState sz2 sz hsz2ok)) (.inr (by rintro _ _ ⟨_, ⟨rfl, rfl⟩, rfl⟩ w h; exact h.subD)) ?_
          rintro _ _ ⟨_, ⟨rfl, rfl⟩, rfl⟩
          rw [decide_eq_true (show sz2.st = sz.st by rw [hst, hst2])]
          refine dq 8 rfl (q_not rfl) <| dq 9 rfl (q_pickF rfl rfl) <| D.done tK <| K.no rfl <| K.skip <| K.seq <| K.st (fun w h => rowF_nilA (k := Kd.eff) h) <| K.region <| KO.q rfl (q_move rfl) <| KO.loud rfl (OpL.callD rfl (h := ks_DoX s p dk2 ks2 none 0 [] hok2 live2.wf (by rw [live2.ic.len]; decide) (by rw [dk2_cnt]; decide) tD)) ?_
          rintro _ _ ⟨_, ⟨rfl, rfl⟩, rfl⟩
          rw [nil_done]
          refine KO.q rfl (q_assign rfl) <| KO.done <| K.seq <| K.region <| KO.q rfl (q_move rfl) <| KO.q rfl (q_as (q_build st_58 rfl tF) (show _ = putA.cells from rfl)) <| KO.loud rfl (l_slice1 sz_64_1 rfl rfl ⟨rfl, rfl, rfl⟩) ?_
          rintro _ _ ⟨b84, rfl, rfl⟩
          refine KO.st (fun w h => pv_effs [putA] rfl h) <| KO.loud rfl (OpL.callD rfl (h := ks_DoX s p dk2 ks2 (some ⟨b84, 0, none⟩) 1 [putA] hok2 live2.wf (by rw [live2.ic.len]; decide) (by rw [dk2_cnt]; decide) tD)) ?_
          rintro _ _ ⟨_, ⟨rfl, rfl⟩, rfl⟩
          rw [put_done]
          refine KO.q rfl (q_assign rfl) <| KO.done <| K.seq <| K.region <| KO.q rfl (q_move rfl) <| KO.loud rfl (OpL.callD rfl (h := num21 _)) ?_
          rintro _ _ ⟨_, ⟨rfl, rfl⟩, rfl⟩
          refine KO.q rfl (q_eqT rfl rfl (rfl)) <| KO.q rfl (q_move rfl) <| KO.q rfl (q_move rfl) <| KO.loud rfl (OpL.callD rfl (h := num21 _)) ?_
          rintro _ _ ⟨_, ⟨rfl, rfl⟩, rfl⟩
          refine KO.q rfl (q_eqT rfl rfl (rfl)) <| KO.q rfl (q_pickT rfl rfl) <| KO.q rfl (q_move rfl) <| KO.q rfl (q_move rfl) <| KO.loud rfl (OpL.callD rfl (h := dk_Writes p (kDo ks2 [putA] dk2).2.2)) ?_
          rintro _ _ ⟨_, ⟨rfl, rfl⟩, rfl⟩
          rw [put_cnt]
          refine KO.q rfl (q_move rfl) <| KO.q rfl (q_gt rfl rfl) <| KO.q rfl (q_pickT rfl rfl) <| KO.q rfl (q_assign rfl) <| KO.done ?_
          refine kr1 Tryz.func6 Tryz.results6 rfl (fun w hs => ?_)
          exact ⟨_, [], rfl, ⟨by first | rfl | (rw [dk2_cnt]; rfl) | (simp [dk2_cnt]), rfl⟩, hs.fitD⟩
end Go.Proofs.YtkbhldicnamcdaaGreat.L
