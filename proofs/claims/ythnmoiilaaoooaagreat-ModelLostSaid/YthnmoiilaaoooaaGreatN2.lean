/- Walks: an object's place; the example of the document. -/
import Derived.Test.YthnmoiilaaoooaaGreatN1
namespace Go.Proofs.YthnmoiilaaoooaaGreat.L
open Go Go.Proofs
attribute [local irreducible] pv fv pt fz RowF RowO rowP old pure_ elA
set_option maxRecDepth 100000
set_option linter.unusedSimpArgs false
set_option linter.unusedVariables false

theorem ref_FindObject (s : Sz) (name : ByteArray) (hl : s.l.length ≤ 1000000000) : Fn Tryz.prog 8 [.agg s.cells.toArray, .string name].toArray (StL s) (fun r post => r = .int .i64 (findO s.st name) ∧ post = []) := by
  have hm : findO s.st name = idxP (fun o : Oz => decide (o.x.name = name)) s.l := idxP_map _ _ _
  rw [hm]
  refine Fn.enter (N := 22) Tryz.func8 rfl Tryz.ntmps8 (by kernel_rfl) rfl (fun ρ L => ?_)
  refine K.seq ?_
  refine K.region ?_
  refine KO.loud rfl (l_box rfl rfl) ?_
  rintro _ _ ⟨b2, rfl, rfl⟩
  refine KO.q rfl (q_assign rfl) ?_
  refine KO.done ?_
  refine K.seq <| K.seq ?_
  refine K.region ?_
  refine KO.q rfl (q_assign rfl) ?_
  refine KO.done ?_
  refine K.block ?_
  refine K.rounds2 (ι := { i : Nat // i ≤ s.l.length ∧ (s.l.take i).any (fun o : Oz => decide (o.x.name = name)) = false }) (fun x => [(5, .int .i64 x.1), (2, .pointer (some ⟨b2, 0, none⟩)), (1, .string name)]) (fun x => pv b2 24 s.cells :: StL s ++ L) (fun x => s.l.length - x.1) ⟨0, Nat.zero_le _, rfl⟩ (by repeat (first | exact Env.sub_nil _ | refine Env.sub_cons rfl ?_)) (fun w h => h.fitD) (fun x ih => ?_)
  obtain ⟨i, hi, hno⟩ := x
  dsimp only at hi hno ⊢
  refine K.seq <| K.seq ?_
  refine K.region ?_
  refine KO.q rfl (q_move rfl) ?_
  refine KO.q rfl (q_field fo_24_1 rfl) ?_
  refine KO.q rfl (q_load1D ck_22 rfl) ?_
  refine KO.q rfl (q_len Tryz.underlying22 rfl) ?_
  refine KO.q rfl (q_lt rfl rfl) ?_
  refine KO.done ?_
  refine K.dcond (s := 10) rfl (fun g10 => ?_) (fun g10 => ?_)
  · obtain ⟨o, ho⟩ : ∃ o, s.l[i]? = some o := ⟨_, List.getElem?_eq_getElem (by omega)⟩
    refine K.skip <| K.seq <| K.block <| K.seq ?_
    refine K.region ?_
    refine KO.q rfl (q_field fo_24_1 rfl) ?_
    refine KO.q rfl (q_load1D ck_22 rfl) ?_
    refine KO.q rfl (q_move rfl) ?_
    refine KO.q rfl (q_ix (xs := s.l) i se_22 rfl rfl rfl isF (by repeat (first | exact List.Mem.head _ | apply List.Mem.tail)) rfl (by omega)) ?_
    refine KO.q rfl (q_fieldE fo_33_0 rfl) ?_
    refine KO.q rfl (q_ldE (xs := s.l) ck_9 rfl isF (by repeat (first | exact List.Mem.head _ | apply List.Mem.tail)) ho rfl) ?_
    refine KO.q rfl (q_move rfl) ?_
    refine KO.q rfl (q_seq rfl rfl) ?_
    refine KO.done ?_
    refine K.dcond (s := 20) rfl (fun g20 => ?_) (fun g20 => ?_)
    · have hr := idxP_some ho (decide_eq_true g20) hno
      refine K.seq ?_
      refine K.region ?_
      refine KO.q rfl (q_move rfl) ?_
      refine KO.q rfl (q_assign rfl) ?_
      refine KO.done ?_
      refine K.ret (fn := Tryz.f8) Tryz.func8 (fun a w hk hs => res1 Tryz.results8 hk rfl) (fun w hs => ?_)
      rw [hr]
      exact ⟨_, [], rfl, ⟨rfl, rfl⟩, hs.fitD⟩
    · refine K.skip <| K.inBlock ?_
      refine K.region ?_
      refine KO.q rfl (q_move rfl) ?_
      refine KO.q rfl (q_add rfl rfl (by first | omega | (simp; omega)) (by first | omega | (simp; omega))) ?_
      refine KO.q rfl (q_assign rfl) ?_
      refine KO.done ?_
      exact K.weak (by repeat (first | exact Env.sub_nil _ | refine Env.sub_cons rfl ?_)) (fun w h => h.fitD) (ih ⟨i + 1, by omega, by rw [List.take_add_one, ho, List.any_append, hno]; simpa using g20⟩ (by show s.l.length - (i + 1) < s.l.length - i; omega))
  · obtain rfl : i = s.l.length := by omega
    rw [List.take_length] at hno
    have hr := idxP_none hno
    refine K.exit rfl ?_
    refine K.seq ?_
    refine K.region ?_
    refine KO.q rfl (q_assign rfl) ?_
    refine KO.done ?_
    refine K.ret (fn := Tryz.f8) Tryz.func8 (fun a w hk hs => res1 Tryz.results8 hk rfl) (fun w hs => ?_)
    rw [hr]
    exact ⟨_, [], rfl, ⟨rfl, rfl⟩, hs.fitD⟩
theorem mo_SerialIs (s : Sz) (n : Nat) (q : Option Addr) (c : Nat) (ls : List (Sl Deed)) {t : Stt} {b : Bool} (hs : s.good n) (hn : n + totL ls ≤ 1000000) (hll : ls.length ≤ 1000000) (hnx : 1 ≤ s.next ∨ ls = []) (hok : ∀ x ∈ ls, okL x) (hr : serS (unclS s.st) (ls.map (·.l)) = (t, b)) : Fn Tryz.prog 10 [.agg s.cells.toArray, .slice q ls.length c].toArray (RowF Kd.sl q ls :: NestSl Kd.deed ls :: StL s)
    (fun r post => ∃ s' : Sz, r = .tuple #[.agg s'.cells.toArray, .bool b] ∧ s'.st = t ∧ post = RowF Kd.sl q ls :: NestSl Kd.deed ls :: (StL s ++ StL s') ∧ s'.good (n + totL ls)) := by
  have := mo_Serial s n q c ls hs hn hll hnx hok
  rw [hr] at this
  exact this
theorem q_deed {X : Fx} {o : Oper} {E : Env} {L : List HP} {cs : List Value} (d : Deed) (h : OpQ X o E L (.agg cs.toArray)) (hc : cs = d.cells) : OpQ X o E L (.agg d.cells.toArray) := q_as h hc
theorem pv_sls {ρ : World} {L : List HP} {w : World} {b t : Nat} {cs : List Value} (xs : List (Sl Deed)) (hcs : cs = xs.flatMap Sl.cells) (h : St ρ (pv b t cs :: L) w) : St ρ (RowF Kd.sl (some ⟨b, 0, none⟩) xs :: L) w := pv_flat xs hcs h
theorem pv_deeds {ρ : World} {L : List HP} {w : World} {b t : Nat} {cs : List Value} (xs : List Deed) (hcs : cs = xs.flatMap Deed.cells) (h : St ρ (pv b t cs :: L) w) : St ρ (RowF Kd.deed (some ⟨b, 0, none⟩) xs :: L) w := pv_flat xs hcs h
def alOb : Ob := ⟨⟨#[116]⟩, 1, 0, [], [], []⟩
def alPut : Deed := dPut ⟨#[116]⟩ ⟨#[97]⟩ ⟨#[]⟩
theorem am_tbl : Tbl (unclS ⟨1, [alOb]⟩) ⟨#[116]⟩ 0 alOb := ⟨by decide +kernel, by decide +kernel, rfl, rfl, rfl⟩
theorem am_ser : serS (unclS ⟨1, [alOb]⟩) [[alPut]] = (⟨1, [putO alOb ⟨⟨#[97]⟩, ⟨#[]⟩⟩]⟩, true) := by
  unfold serS
  rw [show [alPut] = [dPut ⟨#[116]⟩ ⟨#[97]⟩ ⟨#[]⟩] from rfl, run_put am_tbl (by decide +kernel), if_pos rfl]
  rfl
def alOz : Oz := ⟨alOb, ⟨none, 0, none, 0, none, 0⟩⟩
theorem am_small : Stt.small ⟨1, [alOb]⟩ 1 := by
  refine ⟨⟨by decide, by decide⟩, by decide, fun o ho => ?_⟩
  simp only [List.mem_cons, List.not_mem_nil, or_false] at ho
  subst ho
  exact ⟨⟨by decide, by decide, by decide, (fun r hr => by cases hr), (fun m hm => by cases hm), (fun m hm => by cases hm), by decide, by decide, by decide⟩, by decide, by decide, by decide⟩
theorem am_good (q : Option Addr) : Sz.good ⟨1, q, 1, [alOz]⟩ 1 := ⟨am_small, Nat.le_refl _, fun o ho => by
  simp only [List.mem_cons, List.not_mem_nil, or_false] at ho
  subst ho
  exact ⟨Nat.le_refl 0, Nat.le_refl 0, Nat.le_refl 0⟩⟩
theorem am_okL (q : Option Addr) : okL ⟨q, 1, [alPut]⟩ := by
  refine ⟨fun d hd => ?_, fun d hd => ?_, ?_⟩
  · simp only [List.mem_cons, List.not_mem_nil, or_false] at hd
    subst hd
    exact ⟨rfl, .inr (.inr (.inr rfl))⟩
  · simp only [List.mem_cons, List.not_mem_nil, or_false] at hd
    subst hd
    show ¬ (8 : Int) = 5
    decide
  · show ((effsD (doD [] (dPut ⟨#[116]⟩ ⟨#[97]⟩ ⟨#[]⟩))).map plOf).Nodup
    rw [do_put, List.nil_append, eff_dPut]
    exact List.nodup_cons.2 ⟨(fun h => by cases h), List.nodup_nil⟩
theorem sz_one_obj {s : Sz} {t : Int} {o : Ob} (h : s.st = ⟨t, [o]⟩) : ∃ p : Oz, s.l = [p] ∧ p.x = o := by
  have h1 : s.l.map (·.x) = [o] := congrArg Stt.objs h
  cases hl : s.l with
  | nil => rw [hl] at h1; cases h1
  | cons p l =>
    rw [hl] at h1
    cases l with
    | nil => exact ⟨p, rfl, by simpa using h1⟩
    | cons _ _ => simp at h1
--%call poste/postelaw26.alive := l26_alive
set_option maxHeartbeats 1600000 in
theorem l26_alive : Fn Tryz.prog 5 ([] : List Value).toArray [] (fun r post => r = .bool true ∧ post = []) := by
  refine Fn.enter (N := 40) Tryz.func5 rfl Tryz.ntmps5 (by kernel_rfl) rfl (fun ρ L => ?_)
  refine K.seq ?_
  refine K.region ?_
  refine KO.q rfl (q_assign rfl) ?_
  refine KO.done ?_
  refine K.seq ?_
  refine K.st (fun w h => nestF_nil h) ?_
  refine K.st (fun w h => rowF_nilA (k := Kd.oz) h) ?_
  refine K.st (fun w h => nestSl_nil (k := Kd.deed) h) ?_
  refine K.st (fun w h => rowF_nilA (k := (Kd.sl : Kd (Sl Deed))) h) ?_
  refine K.region ?_
  refine KO.q rfl (q_as_sz (l_ := []) (q_build st_24 rfl (by repeat (first | exact Fill.nil | (apply Fill.cons; rfl; rfl; rfl) | exact SetN.nil | apply SetN.cons | exact SetAt.here | apply SetAt.there))) rfl) ?_
  refine KO.loud rfl (OpL.callD rfl (h := mo_SerialIs ⟨0, none, 0, []⟩ 0 none 0 [] (t := ⟨0, []⟩) (b := true) (Sz.zero_good 0) (by decide) (by decide) (.inr rfl) (fun x hx => by cases hx) rfl)) ?_
  rintro _ _ ⟨_, ⟨s1, rfl, hs1, rfl, hg1⟩, rfl⟩
  refine KO.q rfl (q_move rfl) ?_
  refine KO.q rfl (q_extract rfl rfl) ?_
  refine KO.q rfl (q_extract rfl rfl) ?_
  refine KO.loud rfl (l_alloc zo_24) ?_
  rintro _ _ ⟨b1, rfl, rfl⟩
  refine KO.loudN rfl (l_storeAll ck_24 rfl rfl ⟨rfl, rfl⟩ (sz_one _) (by repeat (first | exact Pick.here | apply Pick.there))) ?_
  rintro _ _ ⟨rfl, rfl⟩
  refine KO.q rfl (q_assign rfl) ?_
  refine KO.done ?_
  refine K.seq ?_
  refine K.region ?_
  refine KO.q rfl (q_as_oz (rows_ := []) (msgs_ := []) (dead_ := []) (q_build st_33 rfl (by repeat (first | exact Fill.nil | (apply Fill.cons; rfl; rfl; rfl) | exact SetN.nil | apply SetN.cons | exact SetAt.here | apply SetAt.there))) rfl) ?_
  refine KO.loud rfl (l_slice1 sz_22_1 rfl rfl ⟨rfl, rfl, rfl⟩) ?_
  rintro _ _ ⟨b12, rfl, rfl⟩
  refine KO.st (fun w h => pv_flat (n := 6) (enc := Oz.cells) (hl := oz_sz) (h1 := oz_one) [alOz] rfl h) ?_
  refine KO.q rfl (q_as_sz (l_ := [alOz]) (q_build st_24 rfl (by repeat (first | exact Fill.nil | (apply Fill.cons; rfl; rfl; rfl) | exact SetN.nil | apply SetN.cons | exact SetAt.here | apply SetAt.there))) rfl) ?_
  refine KO.q rfl (q_as_req (q_build st_36 rfl (by repeat (first | exact Fill.nil | (apply Fill.cons; rfl; rfl; rfl) | exact SetN.nil | apply SetN.cons | exact SetAt.here | apply SetAt.there))) (by rfl)) ?_
  refine KO.q rfl (q_deed alPut (q_build st_43 rfl (by repeat (first | exact Fill.nil | (apply Fill.cons; rfl; rfl; rfl) | exact SetN.nil | apply SetN.cons | exact SetAt.here | apply SetAt.there))) rfl) ?_
  refine KO.loud rfl (l_slice1 sz_46_1 rfl rfl ⟨rfl, rfl, rfl⟩) ?_
  rintro _ _ ⟨b16, rfl, rfl⟩
  refine KO.st (fun w h => pv_deeds [alPut] rfl h) ?_
  refine KO.loud rfl (l_slice1 sz_57_1 rfl rfl ⟨rfl, rfl, rfl⟩) ?_
  rintro _ _ ⟨b17, rfl, rfl⟩
  refine KO.st (fun w h => pv_sls [⟨some ⟨b16, 0, none⟩, 1, [alPut]⟩] rfl h) ?_
  refine KO.st (fun w h => nestSl_cons (k := Kd.deed) (l := []) ⟨some ⟨b16, 0, none⟩, 1, [alPut]⟩ (by repeat (first | exact List.Mem.head _ | apply List.Mem.tail)) (by repeat (first | exact List.Mem.head _ | apply List.Mem.tail)) (nestSl_nil h)) ?_
  refine KO.st (fun w h => nestF_put (l := []) (l' := [alOz]) alOz (fun p hp => .inr (List.mem_singleton.1 hp)) (by repeat (first | exact List.Mem.head _ | apply List.Mem.tail)) (by repeat (first | exact List.Mem.head _ | apply List.Mem.tail)) (by repeat (first | exact List.Mem.head _ | apply List.Mem.tail)) (by repeat (first | exact List.Mem.head _ | apply List.Mem.tail)) (nestF_nil (rowF_nilA (k := Kd.rw) (rowF_nilA (k := Kd.msg) h)))) ?_
  refine KO.loud rfl (OpL.callD rfl (h := mo_SerialIs ⟨1, some ⟨b12, 0, none⟩, 1, [alOz]⟩ 1 (some ⟨b17, 0, none⟩) 1 [⟨some ⟨b16, 0, none⟩, 1, [alPut]⟩] (am_good _) (by show 1 + 1 ≤ 1000000; decide) (by show 1 ≤ 1000000; decide) (.inl (Int.le_refl 1)) (fun x hx => by rw [List.mem_singleton.1 hx]; exact am_okL _) am_ser)) ?_
  rintro _ _ ⟨_, ⟨s2, rfl, hs2, rfl, hg2⟩, rfl⟩
  refine KO.q rfl (q_move rfl) ?_
  refine KO.q rfl (q_extract rfl rfl) ?_
  refine KO.q rfl (q_extract rfl rfl) ?_
  refine KO.loud rfl (l_alloc zo_24) ?_
  rintro _ _ ⟨b3, rfl, rfl⟩
  refine KO.loudN rfl (l_storeAll ck_24 rfl rfl ⟨rfl, rfl⟩ (sz_one _) (by repeat (first | exact Pick.here | apply Pick.there))) ?_
  rintro _ _ ⟨rfl, rfl⟩
  refine KO.q rfl (q_assign rfl) ?_
  refine KO.done ?_
  refine K.seq ?_
  obtain ⟨p, hpl, hpx⟩ := sz_one_obj hs2
  refine K.st (fun w h => nestF_at (l := s2.l) (o := p) (by repeat (first | exact List.Mem.head _ | apply List.Mem.tail)) (by rw [hpl]; exact List.mem_singleton.2 rfl) h) ?_
  refine K.region ?_
  refine KO.q rfl (q_move rfl) ?_
  refine KO.q rfl (q_move rfl) ?_
  refine KO.q rfl (q_move rfl) ?_
  refine KO.q rfl (q_pickT rfl rfl) ?_
  refine KO.q rfl (q_move rfl) ?_
  refine KO.q rfl (q_field fo_24_1 rfl) ?_
  refine KO.q rfl (q_load1D ck_22 rfl) ?_
  refine KO.q rfl (q_len Tryz.underlying22 rfl) ?_
  refine KO.q rfl (q_eqT rfl rfl (by rw [hpl]; rfl)) ?_
  refine KO.q rfl (q_pickT rfl rfl) ?_
  refine KO.q rfl (q_move rfl) ?_
  refine KO.q rfl (q_field fo_24_1 rfl) ?_
  refine KO.q rfl (q_load1D ck_22 rfl) ?_
  refine KO.q rfl (q_ix (xs := s2.l) 0 se_22 rfl rfl rfl isF (by repeat (first | exact List.Mem.head _ | apply List.Mem.tail)) rfl (by rw [hpl]; exact Nat.zero_lt_one)) ?_
  refine KO.q rfl (q_fieldE fo_33_3 rfl) ?_
  refine KO.q rfl (q_ldE (xs := s2.l) ck_30 rfl isF (by repeat (first | exact List.Mem.head _ | apply List.Mem.tail)) (by rw [hpl]; rfl) rfl) ?_
  refine KO.q rfl (q_len Tryz.underlying30 rfl) ?_
  refine KO.q rfl (q_eqT rfl rfl (by rw [hpx]; rfl)) ?_
  refine KO.q rfl (q_pickT rfl rfl) ?_
  refine KO.q rfl (q_assign rfl) ?_
  refine KO.done ?_
  refine K.ret (fn := Tryz.f5) Tryz.func5 (fun a w hk hs => res1 Tryz.results5 hk rfl) (fun w hs => ?_)
  exact ⟨_, [], rfl, ⟨rfl, rfl⟩, hs.fitD⟩
end Go.Proofs.YthnmoiilaaoooaaGreat.L
