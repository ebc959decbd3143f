/- Walks: the example of the document; what frees all claimed messages. -/
import Derived.Test.YthnmoiilaaoooaaE8
import Derived.Test.YthnmoiilaaoooaaC7
namespace Go.Proofs.Ythnmoiilaaoooaa.L
open Go Go.Proofs
attribute [local irreducible] pv fv pt fz RowF RowO rowP old pure_ elA
set_option maxRecDepth 100000
set_option linter.unusedSimpArgs false
set_option linter.unusedVariables false

theorem pv_effs {ρ : World} {L : List HP} {w : World} {b t : Nat} {cs : List Value} (xs : List Eff) (hcs : cs = xs.flatMap Eff.cells) (h : St ρ (pv b t cs :: L) w) : St ρ (RowF Kd.eff (some ⟨b, 0, none⟩) xs :: L) w := pv_flat xs hcs h
--%call poste/postelaw19.num := l19_num _
theorem l19_num (n : Int) : Fn Try.prog 9 [.int .i64 n].toArray [] (fun r post => r = .int .i64 n ∧ post = []) := by
  refine Fn.enter (N := 4) Try.func9 rfl Try.ntmps9 (by kernel_rfl) rfl (fun ρ L => ?_)
  refine K.seq ?_
  refine K.region ?_
  refine KO.q rfl (q_assign rfl) ?_
  refine KO.done ?_
  refine K.seq ?_
  refine K.region ?_
  refine KO.q rfl (q_move rfl) ?_
  refine KO.q rfl (q_assign rfl) ?_
  refine KO.done ?_
  refine K.ret (fn := Try.f9) Try.func9 (fun a w hk hs => res1 Try.results9 hk rfl) (fun w hs => ?_)
  exact ⟨_, [], rfl, ⟨rfl, rfl⟩, hs.fitD⟩
theorem st_Size0 : Fn Try.prog 17 [.agg (Sz.cells ⟨0, none, 0, []⟩).toArray].toArray [] (fun r post => r = .int .i64 16 ∧ post = []) := by
  refine Fn.enter (N := 65) Try.func17 rfl Try.ntmps17 (by kernel_rfl) rfl (fun ρ L => ?_)
  refine K.seq ?_
  refine K.region ?_
  refine KO.loud rfl (l_box rfl rfl) ?_
  rintro _ _ ⟨b1, rfl, rfl⟩
  refine KO.q rfl (q_assign rfl) ?_
  refine KO.done ?_
  refine K.seq ?_
  refine K.region ?_
  refine KO.q rfl (q_assign rfl) ?_
  refine KO.done ?_
  refine K.seq <| K.seq ?_
  refine K.region ?_
  refine KO.q rfl (q_field fo_33_1 rfl) ?_
  refine KO.q rfl (q_load1D ck_31 rfl) ?_
  refine KO.q rfl (q_len Try.underlying31 rfl) ?_
  refine KO.q rfl (q_move rfl) ?_
  refine KO.done ?_
  refine K.block ?_
  refine K.rloop (ι := Unit) (fun _ => [(13, .int .i64 0), (12, .int .i64 0), (3, .int .i64 16)]) (fun _ => 0) () (by repeat (first | exact Env.sub_nil _ | refine Env.sub_cons rfl ?_)) (fun x ih => ?_)
  refine K.seq ?_
  refine K.region ?_
  refine KO.q rfl (q_lt rfl rfl) ?_
  refine KO.done ?_
  refine K.seq ?_
  refine K.dcond (s := 14) rfl (fun g14 => ?_) (fun g14 => ?_)
  · exact absurd g14 (by decide)
  · refine K.exit rfl ?_
    refine K.seq ?_
    refine K.region ?_
    refine KO.q rfl (q_move rfl) ?_
    refine KO.q rfl (q_assign rfl) ?_
    refine KO.done ?_
    refine K.ret (fn := Try.f17) Try.func17 (fun a w hk hs => res1 Try.results17 hk rfl) (fun w hs => ?_)
    exact ⟨_, [], rfl, ⟨rfl, rfl⟩, hs.fitD⟩
def alEff : Eff := ⟨1, ⟨#[113]⟩, ⟨#[]⟩, ⟨#[]⟩, 2, 3, false, ⟨0, 0, 0, false, ⟨#[]⟩, ⟨#[]⟩⟩⟩
theorem al_apply : applyS ⟨1, []⟩ [alEff] = (⟨1, [⟨⟨#[113]⟩, 2, 3, [], [], []⟩]⟩, 0) := by decide +kernel
theorem al_good : Sz.good ⟨1, none, 0, []⟩ 0 := ⟨⟨(by decide), (by decide), fun o ho => by cases ho⟩, Nat.le_refl _, fun o ho => by cases ho⟩
--%call poste/postelaw19.alive := l19_alive
set_option maxHeartbeats 800000 in
theorem l19_alive : Fn Try.prog 7 ([] : List Value).toArray [] (fun r post => r = .bool true ∧ post = []) := by
  refine Fn.enter (N := 29) Try.func7 rfl Try.ntmps7 (by kernel_rfl) rfl (fun ρ L => ?_)
  refine K.seq ?_
  refine K.region ?_
  refine KO.q rfl (q_assign rfl) ?_
  refine KO.done ?_
  refine K.seq ?_
  refine K.region ?_
  refine KO.q rfl (q_as_sz (l_ := []) (q_build st_33 rfl (by repeat (first | exact Fill.nil | (apply Fill.cons; rfl; rfl; rfl) | exact SetN.nil | apply SetN.cons | exact SetAt.here | apply SetAt.there))) rfl) ?_
  refine KO.q rfl (q_as_eff (q_build st_35 rfl (by repeat (first | exact Fill.nil | (apply Fill.cons; rfl; rfl; rfl) | exact SetN.nil | apply SetN.cons | exact SetAt.here | apply SetAt.there))) (by rfl)) ?_
  refine KO.loud rfl (l_slice1 sz_36_1 rfl rfl ⟨rfl, rfl, rfl⟩) ?_
  rintro _ _ ⟨b6, rfl, rfl⟩
  refine KO.st (fun w h => nestF_nil (rowF_nilA (k := Kd.oz) h)) ?_
  refine KO.loud rfl (OpL.callD rfl (h := st_Apply (pv b6 35 alEff.cells) ⟨1, none, 0, []⟩ 0 (some ⟨b6, 0, none⟩) 1 [alEff] isP al_good (by decide))) ?_
  rintro _ _ ⟨_, ⟨s', rfl, hs1, rfl, hs2⟩, rfl⟩
  refine KO.q rfl (q_move rfl) ?_
  refine KO.q rfl (q_extract rfl rfl) ?_
  refine KO.q rfl (q_extract rfl rfl) ?_
  refine KO.loud rfl (l_alloc zo_33) ?_
  rintro _ _ ⟨b1, rfl, rfl⟩
  refine KO.loudN rfl (l_storeAll ck_33 rfl rfl ⟨rfl, rfl⟩ (sz_one _) (by repeat (first | exact Pick.here | apply Pick.there))) ?_
  rintro _ _ ⟨rfl, rfl⟩
  refine KO.q rfl (q_assign rfl) ?_
  refine KO.done ?_
  refine K.seq ?_
  have hs1 : s'.st = ⟨1, [⟨⟨#[113]⟩, 2, 3, [], [], []⟩]⟩ := by rw [hs1, show Sz.st ⟨1, none, 0, []⟩ = ⟨1, []⟩ from rfl, al_apply]
  have hl : s'.l.length = 1 := by
    have := congrArg (fun s : Stt => s.objs.length) hs1
    rwa [show s'.st.objs.length = s'.l.length from List.length_map _] at this
  have hf : findO s'.st ⟨#[113]⟩ = 0 := by rw [hs1]; decide +kernel
  rw [show Sz.st ⟨1, none, 0, []⟩ = ⟨1, []⟩ from rfl, al_apply]
  refine K.region ?_
  refine KO.q rfl (q_as_sz (l_ := []) (q_build st_33 rfl (by repeat (first | exact Fill.nil | (apply Fill.cons; rfl; rfl; rfl) | exact SetN.nil | apply SetN.cons | exact SetAt.here | apply SetAt.there))) rfl) ?_
  refine KO.loud rfl (OpL.callG rfl (by repeat (first | exact Give.nil | (apply Give.perI; (repeat (first | exact List.Mem.head _ | apply List.Mem.tail))) | (apply Give.own; (repeat (first | exact Pick.here | apply Pick.there))))) st_Size0) ?_
  rintro _ _ ⟨_, ⟨rfl, rfl⟩, rfl⟩
  refine KO.q rfl (q_eqT rfl rfl (rfl)) ?_
  refine KO.q rfl (q_move rfl) ?_
  refine KO.q rfl (q_move rfl) ?_
  refine KO.loud rfl (OpL.callD rfl (h := l19_num _)) ?_
  rintro _ _ ⟨_, ⟨rfl, rfl⟩, rfl⟩
  refine KO.q rfl (q_eqT rfl rfl (rfl)) ?_
  refine KO.q rfl (q_pickT rfl rfl) ?_
  refine KO.q rfl (q_move rfl) ?_
  refine KO.q rfl (q_field fo_33_1 rfl) ?_
  refine KO.q rfl (q_load1D ck_31 rfl) ?_
  refine KO.q rfl (q_len Try.underlying31 rfl) ?_
  refine KO.q rfl (q_eqT rfl rfl (by rw [hl]; rfl)) ?_
  refine KO.q rfl (q_pickT rfl rfl) ?_
  refine KO.q rfl (q_move rfl) ?_
  refine KO.q rfl (q_loadN ck_33 rfl rfl (by first | (apply cells_pv; (repeat (first | exact List.Mem.head _ | apply List.Mem.tail))) | (apply cells_fv; (repeat (first | exact List.Mem.head _ | apply List.Mem.tail))))) ?_
  refine KO.loud rfl (OpL.callD rfl (h := st_Find (RowF Kd.oz s'.q s'.l) s' ⟨#[113]⟩ isF (by omega))) ?_
  rintro _ _ ⟨_, ⟨rfl, rfl⟩, rfl⟩
  refine KO.q rfl (q_eqT rfl rfl (hf)) ?_
  refine KO.q rfl (q_pickT rfl rfl) ?_
  refine KO.q rfl (q_assign rfl) ?_
  refine KO.done ?_
  refine K.ret (fn := Try.f7) Try.func7 (fun a w hk hs => res1 Try.results7 hk rfl) (fun w hs => ?_)
  exact ⟨_, [], rfl, ⟨rfl, rfl⟩, hs.fitD⟩
set_option maxHeartbeats 1600000 in
theorem st_Claims (s : Sz) (n : Nat) (hs : s.good n) (hn : (claimsS s.st).length ≤ 100000000) (hn2 : n ≤ 100000000) : Fn Try.prog 12 [.agg s.cells.toArray].toArray (StL s) (fun r post => ∃ po co, r = .slice po (claimsS s.st).length co ∧ post = [RowO Kd.eff 35 po co (claimsS s.st)]) := by
  have hlen := Sz.len_of hs.sm
  have hcl : claimsS s.st = s.l.flatMap (fun o => claimsO o.x) := by
    show (s.l.map (·.x)).flatMap claimsO = _
    rw [List.flatMap_map]
  rw [hcl] at hn
  refine Fn.enter (N := 35) Try.func12 rfl Try.ntmps12 (by kernel_rfl) rfl (fun ρ L => ?_)
  refine K.seq ?_
  refine K.region ?_
  refine KO.loud rfl (l_box rfl rfl) ?_
  rintro _ _ ⟨b1, rfl, rfl⟩
  refine KO.q rfl (q_assign rfl) ?_
  refine KO.done ?_
  refine K.seq ?_
  refine K.region ?_
  refine KO.q rfl (q_assign rfl) ?_
  refine KO.done ?_
  refine K.seq <| K.seq ?_
  refine K.region ?_
  refine KO.q rfl (q_field fo_33_1 rfl) ?_
  refine KO.q rfl (q_load1D ck_31 rfl) ?_
  refine KO.q rfl (q_len Try.underlying31 rfl) ?_
  refine KO.q rfl (q_move rfl) ?_
  refine KO.done ?_
  refine K.block ?_
  refine K.rounds2 (ι := { x : Nat × Option Addr × Nat // x.1 ≤ s.l.length }) (fun x => [(11, .int .i64 x.1.1), (10, .int .i64 s.l.length), (9, .slice s.q s.l.length s.c), (3, .slice x.1.2.1 ((s.l.take x.1.1).flatMap (fun o => claimsO o.x)).length x.1.2.2)]) (fun x => RowO Kd.eff 35 x.1.2.1 x.1.2.2 ((s.l.take x.1.1).flatMap (fun o => claimsO o.x)) :: StL s ++ L) (fun x => s.l.length - x.1.1) ⟨(0, none, 0), Nat.zero_le _⟩ (by repeat (first | exact Env.sub_nil _ | refine Env.sub_cons rfl ?_)) (fun w h => rowO_nil (k := Kd.eff) 35 (h.fit (M := StL s) (by repeat (first | exact Give.nil | (apply Give.perI; (repeat (first | exact List.Mem.head _ | apply List.Mem.tail))) | (apply Give.own; (repeat (first | exact Pick.here | apply Pick.there))))) (by repeat (first | exact Drop.refl | apply Drop.skip)))) (fun x ih => ?_)
  obtain ⟨⟨i, po, co⟩, hi⟩ := x
  dsimp only at hi ⊢
  have hol := flatMap_take_le (fun o : Oz => claimsO o.x) s.l i
  obtain ⟨A, hA⟩ : ∃ A, A = (s.l.take i).flatMap (fun o => claimsO o.x) := ⟨_, rfl⟩
  rw [← hA] at hol ⊢
  refine K.seq ?_
  refine K.region ?_
  refine KO.q rfl (q_lt rfl rfl) ?_
  refine KO.done ?_
  refine K.seq ?_
  refine K.dcond (s := 12) rfl (fun g12 => ?_) (fun g12 => ?_)
  · obtain ⟨o, ho⟩ : ∃ o, s.l[i]? = some o := ⟨_, List.getElem?_eq_getElem (by omega)⟩
    have hmo := List.mem_of_getElem? ho
    have hos := flatMap_take_succ (fun o : Oz => claimsO o.x) ho
    rw [← hA] at hos
    have hol2 := flatMap_take_le (fun o : Oz => claimsO o.x) s.l (i + 1)
    have hom := (hs.sm.oz hmo).2.2.1
    refine K.st (fun w h => nestF_at (l := s.l) (by repeat (first | exact List.Mem.head _ | apply List.Mem.tail)) hmo h) ?_
    refine K.skip <| K.seq <| K.block <| K.seq ?_
    refine K.region ?_
    first | refine KO.q rfl (q_ix _ se_31 rfl rfl rfl isF (by repeat (first | exact List.Mem.head _ | apply List.Mem.tail)) rfl (by first | assumption | omega | exact (List.getElem?_eq_some_iff.1 (by assumption)).1 | (simp; omega))) ?_ | refine KO.q rfl (q_ix _ se_31 rfl rfl rfl isO (by repeat (first | exact List.Mem.head _ | apply List.Mem.tail)) rfl (by first | assumption | omega | exact (List.getElem?_eq_some_iff.1 (by assumption)).1 | (simp; omega))) ?_
    first | refine KO.q rfl (q_ldEN ck_28 rfl isF (by repeat (first | exact List.Mem.head _ | apply List.Mem.tail)) (by first | assumption | exact List.getElem?_eq_getElem (by first | assumption | omega | (simp; omega)))) ?_ | refine KO.q rfl (q_ldEN ck_28 rfl isO (by repeat (first | exact List.Mem.head _ | apply List.Mem.tail)) (by first | assumption | exact List.getElem?_eq_getElem (by first | assumption | omega | (simp; omega)))) ?_
    refine KO.loud rfl (l_alloc zo_28) ?_
    rintro _ _ ⟨b5, rfl, rfl⟩
    refine KO.loudN rfl (l_storeAll ck_28 rfl rfl ⟨rfl, rfl⟩ (oz_one _) (by repeat (first | exact Pick.here | apply Pick.there))) ?_
    rintro _ _ ⟨rfl, rfl⟩
    refine KO.done ?_
    refine K.seq ?_
    refine K.region ?_
    refine KO.q rfl (q_field fo_28_4 rfl) ?_
    refine KO.q rfl (q_load1D ck_25 rfl) ?_
    refine KO.q rfl (q_len Try.underlying25 rfl) ?_
    refine KO.q rfl (q_move rfl) ?_
    refine KO.done ?_
    refine K.block ?_
    refine K.rounds2 (ι := { x : Nat × Option Addr × Nat // x.1 ≤ o.x.msgs.length }) (fun x => [(18, .int .i64 x.1.1), (17, .int .i64 o.x.msgs.length), (16, .slice o.z.q2 o.x.msgs.length o.z.c2), (3, .slice x.1.2.1 (A ++ claimsO { o.x with msgs := o.x.msgs.take x.1.1 }).length x.1.2.2), (5, .pointer (some ⟨b5, 0, none⟩)), (11, .int .i64 i), (10, .int .i64 s.l.length), (9, .slice s.q s.l.length s.c)]) (fun x => RowO Kd.eff 35 x.1.2.1 x.1.2.2 (A ++ claimsO { o.x with msgs := o.x.msgs.take x.1.1 }) :: RowF Kd.msg o.z.q2 o.x.msgs :: pv b5 28 o.cells :: StL s ++ L) (fun x => o.x.msgs.length - x.1.1) ⟨(0, po, co), Nat.zero_le _⟩ (by rw [show A ++ claimsO { o.x with msgs := o.x.msgs.take 0 } = A from List.append_nil _]; exact (by repeat (first | exact Env.sub_nil _ | refine Env.sub_cons rfl ?_))) (fun w h => by rw [show A ++ claimsO { o.x with msgs := o.x.msgs.take 0 } = A from List.append_nil _]; exact h.fitD) (fun x ih2 => ?_)
    obtain ⟨⟨j, px, cx⟩, hj⟩ := x
    dsimp only at hj ⊢
    obtain ⟨B, hB⟩ : ∃ B, B = A ++ claimsO { o.x with msgs := o.x.msgs.take j } := ⟨_, rfl⟩
    have hcj : (claimsO { o.x with msgs := o.x.msgs.take j }).length ≤ n := by
      unfold claimsO
      rw [List.length_map]
      refine Nat.le_trans (List.length_filter_le _ _) ?_
      show (o.x.msgs.take j).length ≤ n
      rw [List.length_take]; omega
    have hBl : B.length ≤ 1000000000 := by rw [hB, List.length_append]; omega
    rw [← hB]
    refine K.seq ?_
    refine K.region ?_
    refine KO.q rfl (q_lt rfl rfl) ?_
    refine KO.done ?_
    refine K.seq ?_
    refine K.dcond (s := 19) rfl (fun g19 => ?_) (fun g19 => ?_)
    · obtain ⟨m, hm⟩ : ∃ m, o.x.msgs[j]? = some m := ⟨_, List.getElem?_eq_getElem (by omega)⟩
      have hcs : claimsO { o.x with msgs := o.x.msgs.take (j + 1) } = claimsO { o.x with msgs := o.x.msgs.take j } ++ (if m.claimed = true then [⟨7, o.x.name, ⟨#[]⟩, ⟨#[]⟩, m.id, 0, true, ⟨0, 0, 0, false, ⟨#[]⟩, ⟨#[]⟩⟩⟩] else []) := by
        unfold claimsO
        show ((o.x.msgs.take (j + 1)).filter _).map _ = ((o.x.msgs.take j).filter _).map _ ++ _
        rw [filter_take_succ (fun m : Msg => m.claimed) hm, List.map_append]
        cases hmc : m.claimed <;> simp [hmc]
      refine K.skip <| K.seq <| K.block <| K.seq ?_
      refine K.region ?_
      first | refine KO.q rfl (q_ix _ se_25 rfl rfl rfl isF (by repeat (first | exact List.Mem.head _ | apply List.Mem.tail)) rfl (by first | assumption | omega | exact (List.getElem?_eq_some_iff.1 (by assumption)).1 | (simp; omega))) ?_ | refine KO.q rfl (q_ix _ se_25 rfl rfl rfl isO (by repeat (first | exact List.Mem.head _ | apply List.Mem.tail)) rfl (by first | assumption | omega | exact (List.getElem?_eq_some_iff.1 (by assumption)).1 | (simp; omega))) ?_
      first | refine KO.q rfl (q_ldEN ck_24 rfl isF (by repeat (first | exact List.Mem.head _ | apply List.Mem.tail)) (by first | assumption | exact List.getElem?_eq_getElem (by first | assumption | omega | (simp; omega)))) ?_ | refine KO.q rfl (q_ldEN ck_24 rfl isO (by repeat (first | exact List.Mem.head _ | apply List.Mem.tail)) (by first | assumption | exact List.getElem?_eq_getElem (by first | assumption | omega | (simp; omega)))) ?_
      refine KO.loud rfl (l_alloc zo_24) ?_
      rintro _ _ ⟨b7, rfl, rfl⟩
      refine KO.loudN rfl (l_storeAll ck_24 rfl rfl ⟨rfl, rfl⟩ (msg_one _) (by repeat (first | exact Pick.here | apply Pick.there))) ?_
      rintro _ _ ⟨rfl, rfl⟩
      refine KO.done ?_
      refine K.seq ?_
      refine K.region ?_
      refine KO.q rfl (q_field fo_24_3 rfl) ?_
      refine KO.q rfl (q_load1D ck_4 rfl) ?_
      refine KO.done ?_
      first | refine K.dcond (s := 23) rfl (fun g23 => ?_) (fun g23 => ?_) | refine K.bcond (s := 23) rfl (fun g23 => ?_) (fun g23 => ?_)
      · have hmc : m.claimed = true := by simpa using g23
        have hz : A ++ claimsO { o.x with msgs := o.x.msgs.take (j + 1) } = B ++ [⟨7, o.x.name, ⟨#[]⟩, ⟨#[]⟩, m.id, 0, true, ⟨0, 0, 0, false, ⟨#[]⟩, ⟨#[]⟩⟩⟩] := by rw [hcs, if_pos hmc, ← List.append_assoc, ← hB]
        refine K.region ?_
        refine KO.q rfl (q_move rfl) ?_
        refine KO.q rfl (q_field fo_28_0 rfl) ?_
        refine KO.q rfl (q_load1D ck_9 rfl) ?_
        refine KO.q rfl (q_field fo_24_0 rfl) ?_
        refine KO.q rfl (q_load1D ck_3 rfl) ?_
        refine KO.q rfl (q_as_eff (q_build st_35 rfl (by repeat (first | exact Fill.nil | (apply Fill.cons; rfl; rfl; rfl) | exact SetN.nil | apply SetN.cons | exact SetAt.here | apply SetAt.there))) (by rfl)) ?_
        refine KO.loud rfl (l_slice1 sz_36_1 rfl rfl ⟨rfl, rfl, rfl⟩) ?_
        rintro _ _ ⟨b30, rfl, rfl⟩
        refine KO.loud rfl (l_append Kd.eff (ys := [⟨7, o.x.name, ⟨#[]⟩, ⟨#[]⟩, m.id, 0, true, ⟨0, 0, 0, false, ⟨#[]⟩, ⟨#[]⟩⟩⟩]) se_36 Try.underlying36 ⟨_, ze_35, rfl⟩ (by decide) rfl rfl (by repeat (first | exact Pick.here | apply Pick.there)) isP (by repeat (first | exact List.Mem.head _ | apply List.Mem.tail)) rfl rfl (by show (2 * (B.length + 1) + 768) * _ ≤ _; omega)) ?_
        rintro _ _ ⟨pn, dn, rfl, rfl⟩
        refine KO.q rfl (q_assign rfl) ?_
        refine KO.done ?_
        refine K.inBlock ?_
        refine K.region ?_
        refine KO.q rfl (q_add rfl rfl (by first | omega | (simp; omega)) (by first | omega | (simp; omega))) ?_
        refine KO.q rfl (q_move rfl) ?_
        refine KO.done ?_
        exact K.weak (E' := [(18, .int .i64 ((j + 1 : Nat) : Int)), (17, .int .i64 o.x.msgs.length), (16, .slice o.z.q2 o.x.msgs.length o.z.c2), (3, .slice pn (A ++ claimsO { o.x with msgs := o.x.msgs.take (j + 1) }).length dn), (5, .pointer (some ⟨b5, 0, none⟩)), (11, .int .i64 i), (10, .int .i64 s.l.length), (9, .slice s.q s.l.length s.c)]) (by rw [hz]; exact (by repeat (first | exact Env.sub_nil _ | refine Env.sub_cons rfl ?_))) (fun w h => by rw [hz]; exact h.fitD) (ih2 ⟨(j + 1, pn, dn), by show j + 1 ≤ _; omega⟩ (by show o.x.msgs.length - (j + 1) < o.x.msgs.length - j; omega))
      · have hmc : ¬ m.claimed = true := by simpa using g23
        have hz : A ++ claimsO { o.x with msgs := o.x.msgs.take (j + 1) } = B := by rw [hcs, if_neg hmc, List.append_nil, ← hB]
        refine K.skip <| K.inBlock ?_
        refine K.region ?_
        refine KO.q rfl (q_add rfl rfl (by first | omega | (simp; omega)) (by first | omega | (simp; omega))) ?_
        refine KO.q rfl (q_move rfl) ?_
        refine KO.done ?_
        exact K.weak (E' := [(18, .int .i64 ((j + 1 : Nat) : Int)), (17, .int .i64 o.x.msgs.length), (16, .slice o.z.q2 o.x.msgs.length o.z.c2), (3, .slice px (A ++ claimsO { o.x with msgs := o.x.msgs.take (j + 1) }).length cx), (5, .pointer (some ⟨b5, 0, none⟩)), (11, .int .i64 i), (10, .int .i64 s.l.length), (9, .slice s.q s.l.length s.c)]) (by rw [hz]; exact (by repeat (first | exact Env.sub_nil _ | refine Env.sub_cons rfl ?_))) (fun w h => by rw [hz]; exact h.fitD) (ih2 ⟨(j + 1, px, cx), by show j + 1 ≤ _; omega⟩ (by show o.x.msgs.length - (j + 1) < o.x.msgs.length - j; omega))
    · obtain rfl : j = o.x.msgs.length := by omega
      have hBA : (s.l.take (i + 1)).flatMap (fun o => claimsO o.x) = B := by rw [hos, hB, List.take_length]
      clear ih2
      refine K.exit rfl ?_
      refine K.inBlock ?_
      refine K.region ?_
      refine KO.q rfl (q_add rfl rfl (by first | omega | (simp; omega)) (by first | omega | (simp; omega))) ?_
      refine KO.q rfl (q_move rfl) ?_
      refine KO.done ?_
      exact K.weak (E' := [(11, .int .i64 ((i + 1 : Nat) : Int)), (10, .int .i64 s.l.length), (9, .slice s.q s.l.length s.c), (3, .slice px ((s.l.take (i + 1)).flatMap (fun o => claimsO o.x)).length cx)]) (by rw [hBA]; exact (by repeat (first | exact Env.sub_nil _ | refine Env.sub_cons rfl ?_))) (fun w h => by rw [hBA]; exact h.fitD) (ih ⟨(i + 1, px, cx), by show i + 1 ≤ _; omega⟩ (by show s.l.length - (i + 1) < s.l.length - i; omega))
  · obtain rfl : i = s.l.length := by omega
    rw [List.take_length] at hA
    have hfin : claimsS s.st = A := by rw [hcl, hA]
    clear ih
    refine K.exit rfl ?_
    refine K.seq ?_
    refine K.region ?_
    refine KO.q rfl (q_move rfl) ?_
    refine KO.q rfl (q_assign rfl) ?_
    refine KO.done ?_
    refine K.ret (fn := Try.f12) Try.func12 (fun a w hk hs => res1 Try.results12 hk rfl) (fun w hs => ?_)
    rw [hfin]
    exact ⟨_, [RowO Kd.eff 35 po co A], rfl, ⟨po, co, rfl, rfl⟩, hs.fitD⟩
end Go.Proofs.Ythnmoiilaaoooaa.L
