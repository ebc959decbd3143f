/- The law ModelReads, walked. -/
import Derived.Test.YthnmoiilaaoooaaGreatN2
import Derived.Test.YthnmoiilaaoooaaGreatOW
namespace Go.Proofs.YthnmoiilaaoooaaGreat.L
open Go Go.Proofs
attribute [local irreducible] pv fv pt fz RowF RowO rowP old pure_ elA
set_option maxRecDepth 100000
set_option linter.unusedSimpArgs false
set_option linter.unusedVariables false

theorem okPG (q : Option Addr) (c : Nat) (t k v v2 : ByteArray) : okL ⟨q, c, [dPut t k v, dGet t k v2]⟩ := by
  refine ⟨fun d hd => ?_, fun d hd => ?_, ?_⟩
  · simp only [List.mem_cons, List.not_mem_nil, or_false] at hd
    rcases hd with rfl | rfl
    · exact ⟨rfl, .inr (.inr (.inr rfl))⟩
    · exact ⟨rfl, .inr (.inr (.inl rfl))⟩
  · simp only [List.mem_cons, List.not_mem_nil, or_false] at hd
    rcases hd with rfl | rfl
    · show ¬ (8 : Int) = 5; decide
    · show ¬ (7 : Int) = 5; decide
  · show ((effsD (doD (doD [] (dPut t k v)) (dGet t k v2))).map plOf).Nodup
    rw [do_put, do_get, List.nil_append, List.singleton_append, eff_dPG]
    exact List.nodup_cons.2 ⟨(fun h => by cases h), List.nodup_nil⟩
theorem okP (q : Option Addr) (c : Nat) (t k v : ByteArray) : okL ⟨q, c, [dPut t k v]⟩ := by
  refine ⟨fun d hd => ?_, fun d hd => ?_, ?_⟩
  · simp only [List.mem_cons, List.not_mem_nil, or_false] at hd
    subst hd
    exact ⟨rfl, .inr (.inr (.inr rfl))⟩
  · simp only [List.mem_cons, List.not_mem_nil, or_false] at hd
    subst hd
    show ¬ (8 : Int) = 5; decide
  · show ((effsD (doD [] (dPut t k v))).map plOf).Nodup
    rw [do_put, List.nil_append, eff_dPut]
    exact List.nodup_cons.2 ⟨(fun h => by cases h), List.nodup_nil⟩
theorem okG (q : Option Addr) (c : Nat) (t k v : ByteArray) : okL ⟨q, c, [dGet t k v]⟩ := by
  refine ⟨fun d hd => ?_, fun d hd => ?_, ?_⟩
  · simp only [List.mem_cons, List.not_mem_nil, or_false] at hd
    subst hd
    exact ⟨rfl, .inr (.inr (.inl rfl))⟩
  · simp only [List.mem_cons, List.not_mem_nil, or_false] at hd
    subst hd
    show ¬ (7 : Int) = 5; decide
  · show ((effsD (doD [] (dGet t k v))).map plOf).Nodup
    rw [do_get, List.nil_append, eff_dG]
    exact List.nodup_nil
theorem findO_full {s : Sz} {name : ByteArray} (h : ¬ findO s.st name < 0) : ∃ (i : Nat) (o : Oz), s.l[i]? = some o ∧ findO s.st name = (i : Int) ∧ o.x.name = name := by
  have hm : findO s.st name = idxP (fun o : Oz => decide (o.x.name = name)) s.l := idxP_map _ _ _
  rw [hm] at h
  obtain ⟨i, o, ho, hi, hp⟩ := idxP_nat h
  exact ⟨i, o, ho, hm.trans hi, of_decide_eq_true hp⟩
theorem st_obj {s : Sz} {i : Nat} {o : Ob} (h : s.st.objs[i]? = some o) : ∃ p, s.l[i]? = some p ∧ p.x = o := by
  have h' : (s.l.map (·.x))[i]? = some o := h
  rw [List.getElem?_map] at h'
  cases hp : s.l[i]? with
  | none => rw [hp] at h'; cases h'
  | some p => rw [hp] at h'; exact ⟨p, rfl, Option.some.inj h'⟩
theorem forall2 {α : Type} {P : α → Prop} {a b : α} (ha : P a) (hb : P b) : ∀ x ∈ [a, b], P x := fun x hx => by
  simp only [List.mem_cons, List.not_mem_nil, or_false] at hx
  rcases hx with rfl | rfl
  · exact ha
  · exact hb
theorem forall1 {α : Type} {P : α → Prop} {a : α} (ha : P a) : ∀ x ∈ [a], P x := fun x hx => by rw [List.mem_singleton.1 hx]; exact ha
set_option maxHeartbeats 6400000 in
theorem law_ModelReads (s : Sz) (hok : s.ok) (table key value other : ByteArray) : Fn Tryz.prog 3 [.agg s.cells.toArray, .string table, .string key, .string value, .string other].toArray (StL s) (fun r post => r = .bool true ∧ post = []) := by
  refine Fn.enter (N := 136) Tryz.func3 rfl Tryz.ntmps3 (by kernel_rfl) rfl (fun ρ L => ?_)
  refine K.seq ?_
  refine K.region ?_
  refine KO.loud rfl (l_box rfl rfl) ?_
  rintro _ _ ⟨b5, rfl, rfl⟩
  refine KO.q rfl (q_assign rfl) ?_
  refine KO.done ?_
  refine K.seq ?_
  refine K.region ?_
  refine KO.loud rfl (OpL.callD rfl (h := l26_alive)) ?_
  rintro _ _ ⟨_, ⟨rfl, rfl⟩, rfl⟩
  refine KO.q rfl (q_assign rfl) ?_
  refine KO.done ?_
  refine K.seq <| K.seq ?_
  refine K.region ?_
  refine KO.q rfl (q_move rfl) ?_
  refine KO.q rfl (q_not rfl) ?_
  refine KO.q rfl (q_move rfl) ?_
  refine KO.q rfl (q_loadN ck_24 rfl rfl (by first | (apply cells_pv; (repeat (first | exact List.Mem.head _ | apply List.Mem.tail))) | (apply cells_fv; (repeat (first | exact List.Mem.head _ | apply List.Mem.tail))))) ?_
  refine KO.loud rfl (OpL.callD rfl (h := few19 s hok)) ?_
  rintro _ _ ⟨_, ⟨fb, rfl, hfb, rfl⟩, rfl⟩
  refine KO.q rfl (q_not rfl) ?_
  refine KO.q rfl (q_pickF rfl rfl) ?_
  refine KO.q rfl (q_move rfl) ?_
  refine KO.split 31 rfl (fun g31 => ?_) (fun g31 => ?_)
  · refine KO.skip rfl ?_
    refine KO.skip rfl ?_
    refine KO.skip rfl ?_
    refine KO.q rfl (q_pickT rfl rfl) ?_
    refine KO.q rfl (q_move rfl) ?_
    refine KO.skip rfl ?_
    refine KO.skip rfl ?_
    refine KO.skip rfl ?_
    refine KO.q rfl (q_pickT rfl rfl) ?_
    refine KO.done ?_
    refine K.yes rfl ?_
    refine K.seq ?_
    refine K.region ?_
    refine KO.q rfl (q_move rfl) ?_
    refine KO.q rfl (q_assign rfl) ?_
    refine KO.done ?_
    refine K.ret (fn := Tryz.f3) Tryz.func3 (fun a w hk hs => res1 Tryz.results3 hk rfl) (fun w hs => ?_)
    exact ⟨_, [], rfl, ⟨rfl, rfl⟩, hs.fitD⟩
  · have hcnt : s.cnt s.l.length ≤ 200 := hfb (by simpa using g31)
    have hgood := good_of hok hcnt (by decide)
    have hsl := Sz.len_of hgood.sm
    refine KO.q rfl (q_loadN ck_24 rfl rfl (by first | (apply cells_pv; (repeat (first | exact List.Mem.head _ | apply List.Mem.tail))) | (apply cells_fv; (repeat (first | exact List.Mem.head _ | apply List.Mem.tail))))) ?_
    refine KO.loud rfl (OpL.callD rfl (h := ref_RightState s hok (by omega))) ?_
    rintro _ _ ⟨_, ⟨rfl, rfl⟩, rfl⟩
    refine KO.q rfl (q_not rfl) ?_
    refine KO.q rfl (q_pickF rfl rfl) ?_
    refine KO.q rfl (q_move rfl) ?_
    refine KO.split 36 rfl (fun g36 => ?_) (fun g36 => ?_)
    · refine KO.skip rfl ?_
      refine KO.skip rfl ?_
      refine KO.skip rfl ?_
      refine KO.q rfl (q_pickT rfl rfl) ?_
      refine KO.done ?_
      refine K.yes rfl ?_
      refine K.seq ?_
      refine K.region ?_
      refine KO.q rfl (q_move rfl) ?_
      refine KO.q rfl (q_assign rfl) ?_
      refine KO.done ?_
      refine K.ret (fn := Tryz.f3) Tryz.func3 (fun a w hk hs => res1 Tryz.results3 hk rfl) (fun w hs => ?_)
      exact ⟨_, [], rfl, ⟨rfl, rfl⟩, hs.fitD⟩
    · have hright : s.st.right = true := by simpa using g36
      have hnx : 1 ≤ s.next := (right_SR hright).nx.1
      refine KO.q rfl (q_move rfl) ?_
      refine KO.q rfl (q_move rfl) ?_
      refine KO.q rfl (q_seq rfl rfl) ?_
      refine KO.q rfl (q_pickF rfl rfl) ?_
      refine KO.done ?_
      refine K.dcond (s := 40) rfl (fun g40 => ?_) (fun g40 => ?_)
      · refine K.seq ?_
        refine K.region ?_
        refine KO.q rfl (q_move rfl) ?_
        refine KO.q rfl (q_assign rfl) ?_
        refine KO.done ?_
        refine K.ret (fn := Tryz.f3) Tryz.func3 (fun a w hk hs => res1 Tryz.results3 hk rfl) (fun w hs => ?_)
        exact ⟨_, [], rfl, ⟨rfl, rfl⟩, hs.fitD⟩
      · have hne : value ≠ other := g40
        refine K.skip <| K.seq ?_
        refine K.region ?_
        refine KO.q rfl (q_loadN ck_24 rfl rfl (by first | (apply cells_pv; (repeat (first | exact List.Mem.head _ | apply List.Mem.tail))) | (apply cells_fv; (repeat (first | exact List.Mem.head _ | apply List.Mem.tail))))) ?_
        refine KO.q rfl (q_move rfl) ?_
        refine KO.loud rfl (OpL.callD rfl (h := ref_FindObject s table hsl)) ?_
        rintro _ _ ⟨_, ⟨rfl, rfl⟩, rfl⟩
        refine KO.q rfl (q_assign rfl) ?_
        refine KO.done ?_
        refine K.seq ?_
        refine K.region ?_
        refine KO.q rfl (q_move rfl) ?_
        refine KO.q rfl (q_move rfl) ?_
        refine KO.q rfl (q_as_rw (q_build st_29 rfl (by repeat (first | exact Fill.nil | (apply Fill.cons; rfl; rfl; rfl) | exact SetN.nil | apply SetN.cons | exact SetAt.here | apply SetAt.there))) (by rfl)) ?_
        refine KO.loud rfl (l_alloc zo_29) ?_
        rintro _ _ ⟨b13, rfl, rfl⟩
        refine KO.loudN rfl (l_storeAll ck_29 rfl rfl ⟨rfl, rfl⟩ (rw_one _) (by repeat (first | exact Pick.here | apply Pick.there))) ?_
        rintro _ _ ⟨rfl, rfl⟩
        refine KO.done ?_
        refine K.seq <| K.seq ?_
        refine K.region ?_
        refine KO.q rfl (q_move rfl) ?_
        refine KO.q rfl (q_lt rfl rfl) ?_
        refine KO.q rfl (q_move rfl) ?_
        refine KO.dsplit 50 rfl (fun g50 => ?_) (fun g50 => ?_)
        · refine KO.skip rfl ?_
          refine KO.skip rfl ?_
          refine KO.skip rfl ?_
          refine KO.skip rfl ?_
          refine KO.skip rfl ?_
          refine KO.skip rfl ?_
          refine KO.skip rfl ?_
          refine KO.q rfl (q_pickT rfl rfl) ?_
          refine KO.q rfl (q_move rfl) ?_
          refine KO.skip rfl ?_
          refine KO.skip rfl ?_
          refine KO.skip rfl ?_
          refine KO.q rfl (q_pickT rfl rfl) ?_
          refine KO.done ?_
          refine K.yes rfl ?_
          refine K.seq ?_
          refine K.region ?_
          refine KO.q rfl (q_assign rfl) ?_
          refine KO.done ?_
          refine K.ret (fn := Tryz.f3) Tryz.func3 (fun a w hk hs => res1 Tryz.results3 hk rfl) (fun w hs => ?_)
          exact ⟨_, [], rfl, ⟨rfl, rfl⟩, hs.fitD⟩
        · obtain ⟨i, o, ho, hi, hname⟩ := findO_full (s := s) (name := table) g50
          have hil := (List.getElem?_eq_some_iff.1 ho).1
          refine KO.q rfl (q_field fo_24_1 rfl) ?_
          refine KO.q rfl (q_load1D ck_22 rfl) ?_
          refine KO.q rfl (q_move rfl) ?_
          refine KO.q rfl (q_ix (xs := s.l) i se_22 rfl rfl hi isF (by repeat (first | exact List.Mem.head _ | apply List.Mem.tail)) rfl hil) ?_
          refine KO.q rfl (q_fieldE fo_33_1 rfl) ?_
          refine KO.q rfl (q_ldE (xs := s.l) ck_3 rfl isF (by repeat (first | exact List.Mem.head _ | apply List.Mem.tail)) ho rfl) ?_
          refine KO.q rfl (q_ne rfl rfl) ?_
          refine KO.q rfl (q_pickF rfl rfl) ?_
          refine KO.q rfl (q_move rfl) ?_
          refine KO.dsplit 59 rfl (fun g59 => ?_) (fun g59 => ?_)
          · refine KO.skip rfl ?_
            refine KO.skip rfl ?_
            refine KO.skip rfl ?_
            refine KO.q rfl (q_pickT rfl rfl) ?_
            refine KO.done ?_
            refine K.yes rfl ?_
            refine K.seq ?_
            refine K.region ?_
            refine KO.q rfl (q_assign rfl) ?_
            refine KO.done ?_
            refine K.ret (fn := Tryz.f3) Tryz.func3 (fun a w hk hs => res1 Tryz.results3 hk rfl) (fun w hs => ?_)
            exact ⟨_, [], rfl, ⟨rfl, rfl⟩, hs.fitD⟩
          · have hkind : o.x.kind = 1 := Decidable.not_not.1 g59
            refine KO.q rfl (q_loadN ck_29 rfl rfl (by first | (apply cells_pv; (repeat (first | exact List.Mem.head _ | apply List.Mem.tail))) | (apply cells_fv; (repeat (first | exact List.Mem.head _ | apply List.Mem.tail))))) ?_
            refine KO.loud rfl (OpL.callD rfl (h := ref_RightRow _)) ?_
            rintro _ _ ⟨_, ⟨rfl, rfl⟩, rfl⟩
            refine KO.q rfl (q_not rfl) ?_
            refine KO.q rfl (q_pickF rfl rfl) ?_
            refine KO.done ?_
            refine K.bcond (s := 63) rfl (fun g63 => ?_) (fun g63 => ?_)
            · refine K.seq ?_
              refine K.region ?_
              refine KO.q rfl (q_assign rfl) ?_
              refine KO.done ?_
              refine K.ret (fn := Tryz.f3) Tryz.func3 (fun a w hk hs => res1 Tryz.results3 hk rfl) (fun w hs => ?_)
              exact ⟨_, [], rfl, ⟨rfl, rfl⟩, hs.fitD⟩
            · have hrr : Rw.right ⟨key, value⟩ = true := by simpa using g63
              have hT : Tbl s.st table i o.x := ⟨hright, hi, by show (s.l.map (·.x))[i]? = _; rw [List.getElem?_map, ho]; rfl, hname, hkind⟩
              have hU := hT.uncl
              refine K.skip <| K.seq ?_
              refine K.region ?_
              refine KO.q rfl (q_move rfl) ?_
              refine KO.q rfl (q_move rfl) ?_
              refine KO.q rfl (q_move rfl) ?_
              refine KO.q rfl (q_as_req (q_build st_36 rfl (by repeat (first | exact Fill.nil | (apply Fill.cons; rfl; rfl; rfl) | exact SetN.nil | apply SetN.cons | exact SetAt.here | apply SetAt.there))) (by rfl)) ?_
              refine KO.q rfl (q_deed (dPut table key value) (q_build st_43 rfl (by repeat (first | exact Fill.nil | (apply Fill.cons; rfl; rfl; rfl) | exact SetN.nil | apply SetN.cons | exact SetAt.here | apply SetAt.there))) rfl) ?_
              refine KO.loud rfl (l_alloc zo_43) ?_
              rintro _ _ ⟨b14, rfl, rfl⟩
              refine KO.loudN rfl (l_storeAll ck_43 rfl rfl ⟨rfl, rfl⟩ (deed_one _) (by repeat (first | exact Pick.here | apply Pick.there))) ?_
              rintro _ _ ⟨rfl, rfl⟩
              refine KO.done ?_
              refine K.seq ?_
              refine K.region ?_
              refine KO.q rfl (q_move rfl) ?_
              refine KO.q rfl (q_move rfl) ?_
              refine KO.q rfl (q_as_req (q_build st_36 rfl (by repeat (first | exact Fill.nil | (apply Fill.cons; rfl; rfl; rfl) | exact SetN.nil | apply SetN.cons | exact SetAt.here | apply SetAt.there))) (by rfl)) ?_
              refine KO.q rfl (q_loadN ck_29 rfl rfl (by first | (apply cells_pv; (repeat (first | exact List.Mem.head _ | apply List.Mem.tail))) | (apply cells_fv; (repeat (first | exact List.Mem.head _ | apply List.Mem.tail))))) ?_
              refine KO.q rfl (q_build st_41 rfl (by repeat (first | exact Fill.nil | (apply Fill.cons; rfl; rfl; rfl) | exact SetN.nil | apply SetN.cons | exact SetAt.here | apply SetAt.there))) ?_
              refine KO.q rfl (q_deed (dGet table key value) (q_build st_43 rfl (by repeat (first | exact Fill.nil | (apply Fill.cons; rfl; rfl; rfl) | exact SetN.nil | apply SetN.cons | exact SetAt.here | apply SetAt.there))) rfl) ?_
              refine KO.loud rfl (l_alloc zo_43) ?_
              rintro _ _ ⟨b15, rfl, rfl⟩
              refine KO.loudN rfl (l_storeAll ck_43 rfl rfl ⟨rfl, rfl⟩ (deed_one _) (by repeat (first | exact Pick.here | apply Pick.there))) ?_
              rintro _ _ ⟨rfl, rfl⟩
              refine KO.done ?_
              refine K.seq ?_
              refine K.region ?_
              refine KO.q rfl (q_loadN ck_43 rfl rfl (by first | (apply cells_pv; (repeat (first | exact List.Mem.head _ | apply List.Mem.tail))) | (apply cells_fv; (repeat (first | exact List.Mem.head _ | apply List.Mem.tail))))) ?_
              refine KO.loud rfl (l_alloc zo_43) ?_
              rintro _ _ ⟨b16, rfl, rfl⟩
              refine KO.loudN rfl (l_storeAll ck_43 rfl rfl ⟨rfl, rfl⟩ (deed_one _) (by repeat (first | exact Pick.here | apply Pick.there))) ?_
              rintro _ _ ⟨rfl, rfl⟩
              refine KO.done ?_
              refine K.seq ?_
              refine K.region ?_
              refine KO.q rfl (q_move rfl) ?_
              refine KO.q rfl (q_field fo_43_1 rfl) ?_
              refine KO.q rfl (q_field fo_41_2 rfl) ?_
              refine KO.q rfl (q_field fo_29_1 rfl) ?_
              refine KO.loudN rfl (l_store1 ck_9 rfl rfl rfl (by repeat (first | exact Pick.here | apply Pick.there)) (by repeat (first | exact SetAt.here | apply SetAt.there))) ?_
              rintro _ _ ⟨rfl, rfl⟩
              refine KO.done ?_
              refine K.seq ?_
              refine K.region ?_
              refine KO.q rfl (q_loadN ck_24 rfl rfl (by first | (apply cells_pv; (repeat (first | exact List.Mem.head _ | apply List.Mem.tail))) | (apply cells_fv; (repeat (first | exact List.Mem.head _ | apply List.Mem.tail))))) ?_
              refine KO.q rfl (q_loadN ck_43 rfl rfl (by first | (apply cells_pv; (repeat (first | exact List.Mem.head _ | apply List.Mem.tail))) | (apply cells_fv; (repeat (first | exact List.Mem.head _ | apply List.Mem.tail))))) ?_
              refine KO.q rfl (q_loadN ck_43 rfl rfl (by first | (apply cells_pv; (repeat (first | exact List.Mem.head _ | apply List.Mem.tail))) | (apply cells_fv; (repeat (first | exact List.Mem.head _ | apply List.Mem.tail))))) ?_
              refine KO.loud rfl (l_sliceR (enc := Deed.cells) [dPut table key value, dGet table key value] deed_sz (by decide) sz_46_2 rfl rfl) ?_
              rintro _ _ ⟨b84, rfl, rfl⟩
              refine KO.st (fun w h => pv_deeds [dPut table key value, dGet table key value] rfl h) ?_
              refine KO.q rfl (q_loadN ck_43 rfl rfl (by first | (apply cells_pv; (repeat (first | exact List.Mem.head _ | apply List.Mem.tail))) | (apply cells_fv; (repeat (first | exact List.Mem.head _ | apply List.Mem.tail))))) ?_
              refine KO.loud rfl (l_slice1 sz_46_1 rfl rfl ⟨rfl, rfl, rfl⟩) ?_
              rintro _ _ ⟨b86, rfl, rfl⟩
              refine KO.st (fun w h => pv_deeds [dGet table key value] rfl h) ?_
              refine KO.loud rfl (l_slice sz_57_2 rfl (by repeat (first | exact Fill.nil | (apply Fill.cons; rfl; rfl; rfl) | exact SetN.nil | apply SetN.cons | exact SetAt.here | apply SetAt.there))) ?_
              rintro _ _ ⟨b87, rfl, rfl⟩
              refine KO.st (fun w h => pv_sls [⟨some ⟨b84, 0, none⟩, 2, [dPut table key value, dGet table key value]⟩, ⟨some ⟨b86, 0, none⟩, 1, [dGet table key value]⟩] rfl h) ?_
              refine KO.st (fun w h => nestSl_nil (k := Kd.deed) h) ?_
              refine KO.st (fun w h => nestSl_cons (k := Kd.deed) (l := []) ⟨some ⟨b86, 0, none⟩, 1, [dGet table key value]⟩ (by repeat (first | exact List.Mem.head _ | apply List.Mem.tail)) (by repeat (first | exact List.Mem.head _ | apply List.Mem.tail)) h) ?_
              refine KO.st (fun w h => nestSl_cons (k := Kd.deed) (l := [⟨some ⟨b86, 0, none⟩, 1, [dGet table key value]⟩]) ⟨some ⟨b84, 0, none⟩, 2, [dPut table key value, dGet table key value]⟩ (by repeat (first | exact List.Mem.head _ | apply List.Mem.tail)) (by repeat (first | exact List.Mem.head _ | apply List.Mem.tail)) h) ?_
              refine KO.loud rfl (OpL.callD rfl (h := mo_SerialIs s 200 (some ⟨b87, 0, none⟩) 2 [⟨some ⟨b84, 0, none⟩, 2, [dPut table key value, dGet table key value]⟩, ⟨some ⟨b86, 0, none⟩, 1, [dGet table key value]⟩] hgood (by show 200 + (2 + (1 + 0)) ≤ 1000000; decide) (by show 2 ≤ 1000000; decide) (.inl hnx) (forall2 (okPG _ _ _ _ _ _) (okG _ _ _ _ _)) (ser_a hU hrr))) ?_
              rintro _ _ ⟨_, ⟨s1, rfl, hs1, rfl, hg1⟩, rfl⟩
              refine KO.q rfl (q_move rfl) ?_
              refine KO.q rfl (q_extract rfl rfl) ?_
              refine KO.q rfl (q_extract rfl rfl) ?_
              refine KO.loud rfl (l_alloc zo_24) ?_
              rintro _ _ ⟨b17, rfl, rfl⟩
              refine KO.loudN rfl (l_storeAll ck_24 rfl rfl ⟨rfl, rfl⟩ (sz_one _) (by repeat (first | exact Pick.here | apply Pick.there))) ?_
              rintro _ _ ⟨rfl, rfl⟩
              refine KO.q rfl (q_assign rfl) ?_
              refine KO.done ?_
              refine K.seq ?_
              refine K.region ?_
              refine KO.q rfl (q_loadN ck_24 rfl rfl (by first | (apply cells_pv; (repeat (first | exact List.Mem.head _ | apply List.Mem.tail))) | (apply cells_fv; (repeat (first | exact List.Mem.head _ | apply List.Mem.tail))))) ?_
              refine KO.q rfl (q_loadN ck_43 rfl rfl (by first | (apply cells_pv; (repeat (first | exact List.Mem.head _ | apply List.Mem.tail))) | (apply cells_fv; (repeat (first | exact List.Mem.head _ | apply List.Mem.tail))))) ?_
              refine KO.q rfl (q_deed (dGet table key other) (q_loadN ck_43 rfl rfl (by first | (apply cells_pv; (repeat (first | exact List.Mem.head _ | apply List.Mem.tail))) | (apply cells_fv; (repeat (first | exact List.Mem.head _ | apply List.Mem.tail))))) rfl) ?_
              refine KO.loud rfl (l_sliceR (enc := Deed.cells) [dPut table key value, dGet table key other] deed_sz (by decide) sz_46_2 rfl rfl) ?_
              rintro _ _ ⟨b95, rfl, rfl⟩
              refine KO.st (fun w h => pv_deeds [dPut table key value, dGet table key other] rfl h) ?_
              refine KO.loud rfl (l_slice1 sz_57_1 rfl rfl ⟨rfl, rfl, rfl⟩) ?_
              rintro _ _ ⟨b96, rfl, rfl⟩
              refine KO.st (fun w h => pv_sls [⟨some ⟨b95, 0, none⟩, 2, [dPut table key value, dGet table key other]⟩] rfl h) ?_
              refine KO.st (fun w h => nestSl_nil (k := Kd.deed) h) ?_
              refine KO.st (fun w h => nestSl_cons (k := Kd.deed) (l := []) ⟨some ⟨b95, 0, none⟩, 2, [dPut table key value, dGet table key other]⟩ (by repeat (first | exact List.Mem.head _ | apply List.Mem.tail)) (by repeat (first | exact List.Mem.head _ | apply List.Mem.tail)) h) ?_
              refine KO.loud rfl (OpL.callD rfl (h := mo_SerialIs s 200 (some ⟨b96, 0, none⟩) 1 [⟨some ⟨b95, 0, none⟩, 2, [dPut table key value, dGet table key other]⟩] hgood (by show 200 + (2 + 0) ≤ 1000000; decide) (by show 1 ≤ 1000000; decide) (.inl hnx) (forall1 (okPG _ _ _ _ _ _)) (ser_b hU hrr hne))) ?_
              rintro _ _ ⟨_, ⟨s2, rfl, hs2, rfl, hg2⟩, rfl⟩
              refine KO.q rfl (q_move rfl) ?_
              refine KO.q rfl (q_extract rfl rfl) ?_
              refine KO.q rfl (q_extract rfl rfl) ?_
              refine KO.loud rfl (l_alloc zo_24) ?_
              rintro _ _ ⟨b19, rfl, rfl⟩
              refine KO.loudN rfl (l_storeAll ck_24 rfl rfl ⟨rfl, rfl⟩ (sz_one _) (by repeat (first | exact Pick.here | apply Pick.there))) ?_
              rintro _ _ ⟨rfl, rfl⟩
              refine KO.q rfl (q_assign rfl) ?_
              refine KO.done ?_
              refine K.seq ?_
              refine K.region ?_
              refine KO.q rfl (q_loadN ck_24 rfl rfl (by first | (apply cells_pv; (repeat (first | exact List.Mem.head _ | apply List.Mem.tail))) | (apply cells_fv; (repeat (first | exact List.Mem.head _ | apply List.Mem.tail))))) ?_
              refine KO.q rfl (q_loadN ck_43 rfl rfl (by first | (apply cells_pv; (repeat (first | exact List.Mem.head _ | apply List.Mem.tail))) | (apply cells_fv; (repeat (first | exact List.Mem.head _ | apply List.Mem.tail))))) ?_
              refine KO.loud rfl (l_slice1 sz_46_1 rfl rfl ⟨rfl, rfl, rfl⟩) ?_
              rintro _ _ ⟨b103, rfl, rfl⟩
              refine KO.st (fun w h => pv_deeds [dPut table key value] rfl h) ?_
              refine KO.q rfl (q_deed (dGet table key other) (q_loadN ck_43 rfl rfl (by first | (apply cells_pv; (repeat (first | exact List.Mem.head _ | apply List.Mem.tail))) | (apply cells_fv; (repeat (first | exact List.Mem.head _ | apply List.Mem.tail))))) rfl) ?_
              refine KO.loud rfl (l_slice1 sz_46_1 rfl rfl ⟨rfl, rfl, rfl⟩) ?_
              rintro _ _ ⟨b105, rfl, rfl⟩
              refine KO.st (fun w h => pv_deeds [dGet table key other] rfl h) ?_
              refine KO.loud rfl (l_slice sz_57_2 rfl (by repeat (first | exact Fill.nil | (apply Fill.cons; rfl; rfl; rfl) | exact SetN.nil | apply SetN.cons | exact SetAt.here | apply SetAt.there))) ?_
              rintro _ _ ⟨b106, rfl, rfl⟩
              refine KO.st (fun w h => pv_sls [⟨some ⟨b103, 0, none⟩, 1, [dPut table key value]⟩, ⟨some ⟨b105, 0, none⟩, 1, [dGet table key other]⟩] rfl h) ?_
              refine KO.st (fun w h => nestSl_nil (k := Kd.deed) h) ?_
              refine KO.st (fun w h => nestSl_cons (k := Kd.deed) (l := []) ⟨some ⟨b105, 0, none⟩, 1, [dGet table key other]⟩ (by repeat (first | exact List.Mem.head _ | apply List.Mem.tail)) (by repeat (first | exact List.Mem.head _ | apply List.Mem.tail)) h) ?_
              refine KO.st (fun w h => nestSl_cons (k := Kd.deed) (l := [⟨some ⟨b105, 0, none⟩, 1, [dGet table key other]⟩]) ⟨some ⟨b103, 0, none⟩, 1, [dPut table key value]⟩ (by repeat (first | exact List.Mem.head _ | apply List.Mem.tail)) (by repeat (first | exact List.Mem.head _ | apply List.Mem.tail)) h) ?_
              refine KO.loud rfl (OpL.callD rfl (h := mo_SerialIs s 200 (some ⟨b106, 0, none⟩) 2 [⟨some ⟨b103, 0, none⟩, 1, [dPut table key value]⟩, ⟨some ⟨b105, 0, none⟩, 1, [dGet table key other]⟩] hgood (by show 200 + (1 + (1 + 0)) ≤ 1000000; decide) (by show 2 ≤ 1000000; decide) (.inl hnx) (forall2 (okP _ _ _ _ _) (okG _ _ _ _ _)) (ser_c hU hrr hne))) ?_
              rintro _ _ ⟨_, ⟨s3, rfl, hs3, rfl, hg3⟩, rfl⟩
              refine KO.q rfl (q_move rfl) ?_
              refine KO.q rfl (q_extract rfl rfl) ?_
              refine KO.q rfl (q_extract rfl rfl) ?_
              refine KO.loud rfl (l_alloc zo_24) ?_
              rintro _ _ ⟨b21, rfl, rfl⟩
              refine KO.loudN rfl (l_storeAll ck_24 rfl rfl ⟨rfl, rfl⟩ (sz_one _) (by repeat (first | exact Pick.here | apply Pick.there))) ?_
              rintro _ _ ⟨rfl, rfl⟩
              refine KO.q rfl (q_assign rfl) ?_
              refine KO.done ?_
              refine K.seq ?_
              have hat : s3.st.objs[i]? = some (putO (unclO o.x) ⟨key, value⟩) := by rw [hs3]; exact (hU.put hrr).2.at'
              obtain ⟨p, hp, hpx⟩ := st_obj hat
              have hpl := (List.getElem?_eq_some_iff.1 hp).1
              have hpos : 0 < p.x.rows.length := by rw [hpx]; exact put_pos _ _
              refine K.region ?_
              refine KO.q rfl (q_move rfl) ?_
              refine KO.q rfl (q_move rfl) ?_
              refine KO.q rfl (q_move rfl) ?_
              refine KO.q rfl (q_not rfl) ?_
              refine KO.q rfl (q_pickT rfl rfl) ?_
              refine KO.q rfl (q_move rfl) ?_
              refine KO.q rfl (q_move rfl) ?_
              refine KO.q rfl (q_not rfl) ?_
              refine KO.q rfl (q_pickT rfl rfl) ?_
              refine KO.q rfl (q_move rfl) ?_
              refine KO.q rfl (q_move rfl) ?_
              refine KO.q rfl (q_field fo_24_1 rfl) ?_
              refine KO.q rfl (q_load1D ck_22 rfl) ?_
              refine KO.q rfl (q_len Tryz.underlying22 rfl) ?_
              refine KO.q rfl (q_is (q_lt rfl rfl) (congrArg Value.bool (decide_eq_true (by omega)))) ?_
              refine KO.q rfl (q_pickT rfl rfl) ?_
              refine KO.q rfl (q_move rfl) ?_
              refine KO.q rfl (q_field fo_24_1 rfl) ?_
              refine KO.q rfl (q_load1D ck_22 rfl) ?_
              refine KO.q rfl (q_move rfl) ?_
              refine KO.q rfl (q_ix (xs := s3.l) i se_22 rfl rfl hi isF (by repeat (first | exact List.Mem.head _ | apply List.Mem.tail)) rfl hpl) ?_
              refine KO.q rfl (q_fieldE fo_33_3 rfl) ?_
              refine KO.q rfl (q_ldE (xs := s3.l) ck_30 rfl isF (by repeat (first | exact List.Mem.head _ | apply List.Mem.tail)) hp rfl) ?_
              refine KO.q rfl (q_len Tryz.underlying30 rfl) ?_
              refine KO.q rfl (q_is (q_gt rfl rfl) (congrArg Value.bool (decide_eq_true (by omega)))) ?_
              refine KO.q rfl (q_pickT rfl rfl) ?_
              refine KO.q rfl (q_assign rfl) ?_
              refine KO.done ?_
              refine K.ret (fn := Tryz.f3) Tryz.func3 (fun a w hk hs => res1 Tryz.results3 hk rfl) (fun w hs => ?_)
              exact ⟨_, [], rfl, ⟨rfl, rfl⟩, hs.fitD⟩
end Go.Proofs.YthnmoiilaaoooaaGreat.L
