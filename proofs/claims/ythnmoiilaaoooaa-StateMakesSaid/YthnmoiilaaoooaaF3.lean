/- The law StateFrees, walked. -/
import Derived.Test.YthnmoiilaaoooaaF1
import Derived.Test.YthnmoiilaaoooaaF2
import Derived.Test.YthnmoiilaaoooaaOW
namespace Go.Proofs.Ythnmoiilaaoooaa.L
open Go Go.Proofs
attribute [local irreducible] pv fv pt fz RowF RowO rowP old pure_ elA
set_option maxRecDepth 100000
set_option linter.unusedSimpArgs false
set_option linter.unusedVariables false

theorem cnt_obj {s : Sz} {n : Nat} (h : s.cnt s.l.length ≤ n) {o : Oz} (ho : o ∈ s.l) : o.x.cnt ≤ n := by
  obtain ⟨i, hi⟩ := List.mem_iff_getElem?.1 ho
  have h1 := cnt_succ hi
  have h2 := cnt_mono s (i + 1)
  omega
theorem good_of {s : Sz} {n : Nat} (hok : s.ok) (h : s.cnt s.l.length ≤ n) (hn : n ≤ 1000000) : s.good n := by
  refine ⟨⟨hok.1, ?_, fun ob hob => ?_⟩, hok.2.2.1, fun o ho => (hok.2.2.2 o ho).2⟩
  · rw [objs_len]
    have : s.l.length ≤ s.cnt s.l.length := by
      unfold Sz.cnt
      rw [List.take_length]
      generalize s.l = l
      induction l with
      | nil => exact Nat.le_refl _
      | cons o l ih =>
        simp only [List.length_cons, List.map_cons, List.sum_cons]
        have : 1 ≤ o.x.cnt := by unfold Ob.cnt; omega
        omega
    omega
  · obtain ⟨o, ho, rfl⟩ := List.mem_map.1 hob
    have hc := cnt_obj h ho
    unfold Ob.cnt at hc
    exact ⟨(hok.2.2.2 o ho).1, by omega, by omega, by omega⟩
theorem claims_few {s : Sz} {n : Nat} (h : s.cnt s.l.length ≤ n) : (claimsS s.st).length ≤ n := by
  refine claims_len s.st (Nat.le_trans ?_ h)
  unfold Sz.cnt
  rw [List.take_length]
  show ((s.l.map (·.x)).map fun o => o.msgs.length).sum ≤ _
  rw [List.map_map]
  generalize s.l = l
  induction l with
  | nil => exact Nat.le_refl _
  | cons o l ih =>
    simp only [List.map_cons, List.sum_cons]
    have : o.x.msgs.length ≤ o.x.cnt := by unfold Ob.cnt; omega
    show o.x.msgs.length + _ ≤ _
    omega
set_option maxHeartbeats 6400000 in
theorem law_StateFrees (s : Sz) (hok : s.ok) : Fn Try.prog 5 [.agg s.cells.toArray].toArray (StL s) (fun r post => r = .bool true ∧ post = []) := by
  refine Fn.enter (N := 137) Try.func5 rfl Try.ntmps5 (by kernel_rfl) rfl (fun ρ L => ?_)
  refine K.seq ?_
  refine K.region ?_
  refine KO.loud rfl (l_box rfl rfl) ?_
  rintro _ _ ⟨b1, rfl, rfl⟩
  refine KO.q rfl (q_assign rfl) ?_
  refine KO.done ?_
  refine K.seq ?_
  refine K.region ?_
  refine KO.loud rfl (OpL.callD rfl (h := l19_alive)) ?_
  rintro _ _ ⟨_, ⟨rfl, rfl⟩, rfl⟩
  refine KO.q rfl (q_assign rfl) ?_
  refine KO.done ?_
  refine K.seq <| K.seq ?_
  refine K.region ?_
  refine KO.q rfl (q_move rfl) ?_
  refine KO.q rfl (q_not rfl) ?_
  refine KO.q rfl (q_move rfl) ?_
  refine KO.q rfl (q_loadN ck_33 rfl rfl (by first | (apply cells_pv; (repeat (first | exact List.Mem.head _ | apply List.Mem.tail))) | (apply cells_fv; (repeat (first | exact List.Mem.head _ | apply List.Mem.tail))))) ?_
  refine KO.loud rfl (OpL.callD rfl (h := few19 s hok)) ?_
  rintro _ _ ⟨_, ⟨fb, rfl, hfb, rfl⟩, rfl⟩
  refine KO.q rfl (q_not rfl) ?_
  refine KO.q rfl (q_pickF rfl rfl) ?_
  refine KO.q rfl (q_move rfl) ?_
  refine KO.split 22 rfl (fun g22 => ?_) (fun g22 => ?_)
  · refine KO.skip rfl ?_
    refine KO.skip rfl ?_
    refine KO.skip rfl ?_
    refine KO.q rfl (q_pickT rfl rfl) ?_
    refine KO.done ?_
    refine K.yes rfl ?_
    refine K.seq ?_
    refine K.region ?_
    refine KO.q rfl (q_move rfl) ?_
    refine KO.q rfl (q_assign rfl) ?_
    refine KO.done ?_
    refine K.ret (fn := Try.f5) Try.func5 (fun a w hk hs => res1 Try.results5 hk rfl) (fun w hs => ?_)
    exact ⟨_, [], rfl, ⟨rfl, rfl⟩, hs.fitD⟩
  · have hcnt : s.cnt s.l.length ≤ 200 := hfb (by simpa using g22)
    have hgood := good_of hok hcnt (by decide)
    have hclen := claims_few hcnt
    refine KO.q rfl (q_loadN ck_33 rfl rfl (by first | (apply cells_pv; (repeat (first | exact List.Mem.head _ | apply List.Mem.tail))) | (apply cells_fv; (repeat (first | exact List.Mem.head _ | apply List.Mem.tail))))) ?_
    refine KO.loud rfl (OpL.callD rfl (h := ref_RightState s hok (by omega))) ?_
    rintro _ _ ⟨_, ⟨rfl, rfl⟩, rfl⟩
    refine KO.q rfl (q_not rfl) ?_
    refine KO.q rfl (q_pickF rfl rfl) ?_
    refine KO.done ?_
    refine K.bcond (s := 26) rfl (fun g26 => ?_) (fun g26 => ?_)
    · refine K.seq ?_
      refine K.region ?_
      refine KO.q rfl (q_move rfl) ?_
      refine KO.q rfl (q_assign rfl) ?_
      refine KO.done ?_
      refine K.ret (fn := Try.f5) Try.func5 (fun a w hk hs => res1 Try.results5 hk rfl) (fun w hs => ?_)
      exact ⟨_, [], rfl, ⟨rfl, rfl⟩, hs.fitD⟩
    · have hright : s.st.right = true := by simpa using g26
      have hSR := right_SR hright
      have hsl0 := Sz.len_of hgood.sm
      have hap := apply_claims hright
      refine K.skip <| K.seq ?_
      refine K.drawU (by repeat (first | apply SubL.pers | apply SubL.own (b := b1) | apply SubL.drop | exact SubL.none)) mixed ?_
      refine D.q 0 rfl (by kernel_rfl) (by kernel_rfl) (q_loadN ck_33 rfl rfl (by first | (apply cells_pv; (repeat (first | exact List.Mem.head _ | apply List.Mem.tail))) | (apply cells_fv; (repeat (first | exact List.Mem.head _ | apply List.Mem.tail))))) (fun _ h => h.subD) ?_
      refine D.q 1 rfl (by kernel_rfl) (by kernel_rfl) (q_loadN ck_33 rfl rfl (by first | (apply cells_pv; (repeat (first | exact List.Mem.head _ | apply List.Mem.tail))) | (apply cells_fv; (repeat (first | exact List.Mem.head _ | apply List.Mem.tail))))) (fun _ h => h.subD) ?_
      refine D.all (rs := [2, 7]) (by kernel_rfl) rfl (DAll.cons rfl (by kernel_rfl) (OpL.callD rfl (h := st_Claims s 200 hgood (by omega) (by decide))) (.inr (by rintro _ _ ⟨_, ⟨pc, cc, rfl, rfl⟩, rfl⟩ w h; exact h.subD)) rfl ?_ (DAll.cons rfl (by kernel_rfl) (l_alloc zo_33) (.inr (by rintro _ _ ⟨b4, rfl, rfl⟩ w h; exact h.subD)) rfl ?_ DAll.nil))
      · rintro _ _ ⟨_, ⟨pc, cc, rfl, rfl⟩, rfl⟩
        refine D.all (rs := [3, 7]) (by kernel_rfl) rfl (DAll.cons rfl (by kernel_rfl) (OpL.callD rfl (h := st_Apply (RowO Kd.eff 35 pc cc (claimsS s.st)) s 200 pc cc (claimsS s.st) isO hgood (by omega))) (.inl (by kernel_rfl)) rfl ?_ (DAll.cons rfl (by kernel_rfl) (l_alloc zo_33) (.inr (by rintro _ _ ⟨b4, rfl, rfl⟩ w h; exact h.subD)) rfl ?_ DAll.nil))
        · rintro _ _ ⟨_, ⟨s', rfl, hs1, rfl, hs2⟩, rfl⟩
          rw [hap] at hs1
          rw [hap]
          refine D.q 4 rfl (by kernel_rfl) (by kernel_rfl) (q_move rfl) (fun _ h => h.subD) ?_
          refine D.q 5 rfl (by kernel_rfl) (by kernel_rfl) (q_extract rfl rfl) (fun _ h => h.subD) ?_
          refine D.q 6 rfl (by kernel_rfl) (by kernel_rfl) (q_extract rfl rfl) (fun _ h => h.subD) ?_
          refine D.all (rs := [7]) (by kernel_rfl) rfl (DAll.cons rfl (by kernel_rfl) (l_alloc zo_33) (.inr (by rintro _ _ ⟨b4, rfl, rfl⟩ w h; exact h.subD)) rfl ?_ DAll.nil)
          rintro _ _ ⟨b4, rfl, rfl⟩
          refine D.all (rs := [8]) (by kernel_rfl) rfl (DAll.consN rfl (by kernel_rfl) (l_storeAll ck_33 rfl rfl ⟨rfl, rfl⟩ (sz_one _) (by repeat (first | exact Pick.here | apply Pick.there))) (.inr (by rintro _ _ ⟨rfl, rfl⟩ w h; exact h.subD)) rfl ?_ DAll.nil)
          rintro _ _ ⟨rfl, rfl⟩
          refine D.q 9 rfl (by kernel_rfl) (by kernel_rfl) (q_assign rfl) (fun _ h => h.subD) ?_
          refine D.done (by kernel_rfl) ?_
          refine K.seq <| K.seq ?_
          have hl' : s'.l.map (·.x) = (s.l.map (·.x)).map freedO := congrArg Stt.objs hs1
          have hlen : s'.l.length = s.l.length := by
            have := congrArg List.length hl'
            simpa only [List.length_map] using this
          have hcn : claimsS s'.st = [] := by rw [hs1]; exact claims_none s.st
          refine K.region ?_
          refine KO.q rfl (q_move rfl) ?_
          refine KO.loud rfl (OpL.callD rfl (h := l19_num _)) ?_
          rintro _ _ ⟨_, ⟨rfl, rfl⟩, rfl⟩
          refine KO.q rfl (q_neF rfl rfl (rfl)) ?_
          refine KO.q rfl (q_move rfl) ?_
          refine KO.q rfl (q_field fo_33_1 rfl) ?_
          refine KO.q rfl (q_load1D ck_31 rfl) ?_
          refine KO.q rfl (q_len Try.underlying31 rfl) ?_
          refine KO.q rfl (q_field fo_33_1 rfl) ?_
          refine KO.q rfl (q_load1D ck_31 rfl) ?_
          refine KO.q rfl (q_len Try.underlying31 rfl) ?_
          refine KO.q rfl (q_neF rfl rfl (by rw [hlen])) ?_
          refine KO.q rfl (q_pickF rfl rfl) ?_
          refine KO.q rfl (q_move rfl) ?_
          refine KO.q rfl (q_loadN ck_33 rfl rfl (by first | (apply cells_pv; (repeat (first | exact List.Mem.head _ | apply List.Mem.tail))) | (apply cells_fv; (repeat (first | exact List.Mem.head _ | apply List.Mem.tail))))) ?_
          refine KO.loud rfl (OpL.callD rfl (h := st_Claims s' (200 + (claimsS s.st).length) hs2 (by rw [hcn]; decide) (by omega))) ?_
          rintro _ _ ⟨_, ⟨pd, cd, rfl, rfl⟩, rfl⟩
          refine KO.q rfl (q_len Try.underlying36 rfl) ?_
          refine KO.q rfl (q_neF rfl rfl (by rw [hcn]; rfl)) ?_
          refine KO.q rfl (q_pickF rfl rfl) ?_
          refine KO.done ?_
          refine K.no rfl ?_
          refine K.skip <| K.seq <| K.seq ?_
          refine K.region ?_
          refine KO.q rfl (q_assign rfl) ?_
          refine KO.done ?_
          refine K.block ?_
          refine K.rounds2 (ι := { i : Nat // i ≤ s.l.length }) (fun x => [(6, .int .i64 x.1), (1, .pointer (some ⟨b1, 0, none⟩)), (4, .pointer (some ⟨b4, 0, none⟩))]) (fun x => [pv b1 33 s.cells, pv b4 33 s'.cells, RowF Kd.oz s.q s.l, NestF s.l, RowF Kd.oz s'.q s'.l, NestF s'.l] ++ L) (fun x => s.l.length - x.1) ⟨0, Nat.zero_le _⟩ (by repeat (first | exact Env.sub_nil _ | refine Env.sub_cons rfl ?_)) (fun w h => h.fitD) (fun x ih => ?_)
          obtain ⟨i, hi⟩ := x
          dsimp only at hi ⊢
          refine K.seq <| K.seq ?_
          refine K.region ?_
          refine KO.q rfl (q_move rfl) ?_
          refine KO.q rfl (q_field fo_33_1 rfl) ?_
          refine KO.q rfl (q_load1D ck_31 rfl) ?_
          refine KO.q rfl (q_len Try.underlying31 rfl) ?_
          refine KO.q rfl (q_lt rfl rfl) ?_
          refine KO.done ?_
          refine K.dcond (s := 57) rfl (fun g57 => ?_) (fun g57 => ?_)
          · obtain ⟨o, ho⟩ : ∃ o, s.l[i]? = some o := ⟨_, List.getElem?_eq_getElem (by omega)⟩
            have hmo := List.mem_of_getElem? ho
            obtain ⟨p, hp, hpx⟩ : ∃ p, s'.l[i]? = some p ∧ p.x = freedO o.x := by
              refine ⟨_, List.getElem?_eq_getElem (by omega), ?_⟩
              have := congrArg (fun z => z[i]?) hl'
              simp only [List.getElem?_map, ho, Option.map_some] at this
              rw [List.getElem?_eq_getElem (by omega)] at this
              exact Option.some.inj this
            have hmp := List.mem_of_getElem? hp
            have hol := hgood.sm.oz hmo
            have hpl := hs2.sm.oz hmp
            have hmb := hol.2.2.1
            have hom : o.x ∈ s.st.objs := List.mem_map_of_mem hmo
            refine K.st (fun w h => nestF_at (l := s.l) (by repeat (first | exact List.Mem.head _ | apply List.Mem.tail)) hmo h) ?_
            refine K.st (fun w h => nestF_at (l := s'.l) (by repeat (first | exact List.Mem.head _ | apply List.Mem.tail)) hmp h) ?_
            refine K.skip <| K.seq <| K.block <| K.seq ?_
            refine K.region ?_
            refine KO.q rfl (q_field fo_33_1 rfl) ?_
            refine KO.q rfl (q_load1D ck_31 rfl) ?_
            refine KO.q rfl (q_move rfl) ?_
            refine KO.q rfl (q_ix (xs := s.l) i se_31 rfl rfl rfl isF (by repeat (first | exact List.Mem.head _ | apply List.Mem.tail)) rfl (by omega)) ?_
            refine KO.q rfl (q_ldEN (xs := s.l) (enc := Oz.cells) ck_28 rfl isF (by repeat (first | exact List.Mem.head _ | apply List.Mem.tail)) ho) ?_
            refine KO.loud rfl (l_alloc zo_28) ?_
            rintro _ _ ⟨b7, rfl, rfl⟩
            refine KO.loudN rfl (l_storeAll ck_28 rfl rfl ⟨rfl, rfl⟩ (oz_one _) (by repeat (first | exact Pick.here | apply Pick.there))) ?_
            rintro _ _ ⟨rfl, rfl⟩
            refine KO.done ?_
            refine K.seq <| K.seq ?_
            refine K.region ?_
            refine KO.q rfl (q_assign rfl) ?_
            refine KO.done ?_
            refine K.block ?_
            refine K.rounds2 (ι := { k : Nat // k ≤ o.x.msgs.length }) (fun x => [(8, .int .i64 x.1), (7, .pointer (some ⟨b7, 0, none⟩)), (6, .int .i64 i), (1, .pointer (some ⟨b1, 0, none⟩)), (4, .pointer (some ⟨b4, 0, none⟩))]) (fun x => [pv b1 33 s.cells, pv b4 33 s'.cells, pv b7 28 o.cells, RowF Kd.oz s.q s.l, NestF s.l, RowF Kd.oz s'.q s'.l, NestF s'.l] ++ ObL o ++ ObL p ++ L) (fun x => o.x.msgs.length - x.1) ⟨0, Nat.zero_le _⟩ (by repeat (first | exact Env.sub_nil _ | refine Env.sub_cons rfl ?_)) (fun w h => h.fitD) (fun x ih2 => ?_)
            obtain ⟨k, hk⟩ := x
            dsimp only at hk ⊢
            refine K.seq <| K.seq ?_
            refine K.region ?_
            refine KO.q rfl (q_move rfl) ?_
            refine KO.q rfl (q_field fo_28_4 rfl) ?_
            refine KO.q rfl (q_load1D ck_25 rfl) ?_
            refine KO.q rfl (q_len Try.underlying25 rfl) ?_
            refine KO.q rfl (q_lt rfl rfl) ?_
            refine KO.done ?_
            refine K.dcond (s := 69) rfl (fun g69 => ?_) (fun g69 => ?_)
            · obtain ⟨m, hm⟩ : ∃ m, o.x.msgs[k]? = some m := ⟨_, List.getElem?_eq_getElem (by omega)⟩
              have hmm := List.mem_of_getElem? hm
              obtain ⟨w1, w2, w3⟩ := freed_where hSR hom hmm
              have hm0 := (hol.1.2.2.2.2.1 m hmm).2.2.1.1
              have hpm : p.x.msgs.length ≤ 9223372036854775807 := by have := hpl.2.2.1; omega
              have hpd : p.x.dead.length ≤ 9223372036854775807 := by have := hpl.2.2.2; omega
              refine K.skip <| K.seq <| K.block <| K.seq ?_
              refine K.region ?_
              refine KO.q rfl (q_field fo_28_4 rfl) ?_
              refine KO.q rfl (q_load1D ck_25 rfl) ?_
              refine KO.q rfl (q_move rfl) ?_
              refine KO.q rfl (q_ix (xs := o.x.msgs) k se_25 rfl rfl rfl isF (by repeat (first | exact List.Mem.head _ | apply List.Mem.tail)) rfl (by omega)) ?_
              refine KO.q rfl (q_ldEN (xs := o.x.msgs) (enc := Msg.cells) ck_24 rfl isF (by repeat (first | exact List.Mem.head _ | apply List.Mem.tail)) hm) ?_
              refine KO.loud rfl (l_alloc zo_24) ?_
              rintro _ _ ⟨b9, rfl, rfl⟩
              refine KO.loudN rfl (l_storeAll ck_24 rfl rfl ⟨rfl, rfl⟩ (msg_one _) (by repeat (first | exact Pick.here | apply Pick.there))) ?_
              rintro _ _ ⟨rfl, rfl⟩
              refine KO.done ?_
              refine K.seq ?_
              refine K.region ?_
              refine KO.q rfl (q_field fo_33_1 rfl) ?_
              refine KO.q rfl (q_load1D ck_31 rfl) ?_
              refine KO.q rfl (q_move rfl) ?_
              refine KO.q rfl (q_ix (xs := s'.l) i se_31 rfl rfl rfl isF (by repeat (first | exact List.Mem.head _ | apply List.Mem.tail)) rfl (by omega)) ?_
              refine KO.q rfl (q_fieldE fo_28_4 rfl) ?_
              refine KO.q rfl (q_ldE (xs := s'.l) ck_25 rfl isF (by repeat (first | exact List.Mem.head _ | apply List.Mem.tail)) hp rfl) ?_
              refine KO.q rfl (q_assign rfl) ?_
              refine KO.done ?_
              refine K.seq <| K.seq ?_
              refine K.region ?_
              refine KO.q rfl (q_field fo_24_3 rfl) ?_
              refine KO.q rfl (q_load1D ck_4 rfl) ?_
              refine KO.done ?_
              first | refine K.dcond (s := 84) rfl (fun g84 => ?_) (fun g84 => ?_) | refine K.bcond (s := 84) rfl (fun g84 => ?_) (fun g84 => ?_)
              · have hmc : m.claimed = true := by simpa using g84
                refine K.seq ?_
                refine K.region ?_
                refine KO.q rfl (q_loadN ck_24 rfl rfl (by first | (apply cells_pv; (repeat (first | exact List.Mem.head _ | apply List.Mem.tail))) | (apply cells_fv; (repeat (first | exact List.Mem.head _ | apply List.Mem.tail))))) ?_
                refine KO.q rfl (q_field fo_28_2 rfl) ?_
                refine KO.q rfl (q_load1D ck_3 rfl) ?_
                refine KO.loud rfl (OpL.callD rfl (h := ref_Tried m o.x.limit hm0)) ?_
                rintro _ _ ⟨_, ⟨rfl, rfl⟩, rfl⟩
                refine KO.q rfl (q_move rfl) ?_
                refine KO.q rfl (q_extract rfl rfl) ?_
                refine KO.q rfl (q_extract rfl rfl) ?_
                refine KO.loud rfl (l_alloc zo_24) ?_
                rintro _ _ ⟨b11, rfl, rfl⟩
                refine KO.loudN rfl (l_storeAll ck_24 rfl rfl ⟨rfl, rfl⟩ (msg_one _) (by repeat (first | exact Pick.here | apply Pick.there))) ?_
                rintro _ _ ⟨rfl, rfl⟩
                refine KO.q rfl (q_assign rfl) ?_
                refine KO.done ?_
                refine K.seq <| K.seq ?_
                refine K.region ?_
                refine KO.q rfl (q_move rfl) ?_
                refine KO.done ?_
                first | refine K.dcond (s := 92) rfl (fun g92 => ?_) (fun g92 => ?_) | refine K.bcond (s := 92) rfl (fun g92 => ?_) (fun g92 => ?_)
                · obtain ⟨a, ha, hget⟩ := w1 hmc g92
                  rw [← hpx] at ha hget
                  refine K.region ?_
                  refine KO.q rfl (q_field fo_33_1 rfl) ?_
                  refine KO.q rfl (q_load1D ck_31 rfl) ?_
                  refine KO.q rfl (q_move rfl) ?_
                  refine KO.q rfl (q_ix (xs := s'.l) i se_31 rfl rfl rfl isF (by repeat (first | exact List.Mem.head _ | apply List.Mem.tail)) rfl (by omega)) ?_
                  refine KO.q rfl (q_fieldE fo_28_5 rfl) ?_
                  refine KO.q rfl (q_ldE (xs := s'.l) ck_25 rfl isF (by repeat (first | exact List.Mem.head _ | apply List.Mem.tail)) hp rfl) ?_
                  refine KO.q rfl (q_assign rfl) ?_
                  refine KO.done ?_
                  refine K.region ?_
                  refine KO.q rfl (q_loadN ck_24 rfl rfl (by first | (apply cells_pv; (repeat (first | exact List.Mem.head _ | apply List.Mem.tail))) | (apply cells_fv; (repeat (first | exact List.Mem.head _ | apply List.Mem.tail))))) ?_
                  refine KO.loudN rfl (l_storeAll ck_24 rfl rfl ⟨rfl, rfl⟩ (msg_one _) (by repeat (first | exact Pick.here | apply Pick.there))) ?_
                  rintro _ _ ⟨rfl, rfl⟩
                  refine KO.done ?_
                  refine K.seq ?_
                  refine K.region ?_
                  refine KO.q rfl (q_move rfl) ?_
                  refine KO.q rfl (q_field fo_24_0 rfl) ?_
                  refine KO.q rfl (q_load1D ck_3 rfl) ?_
                  refine KO.loud rfl (OpL.callD rfl (h := ref_FindMsg p.z.q3 p.z.c3 p.x.dead m.id (by omega))) ?_
                  rintro _ _ ⟨_, ⟨rfl, rfl⟩, rfl⟩
                  refine KO.q rfl (q_assign rfl) ?_
                  refine KO.done ?_
                  refine K.seq ?_
                  have ha : idxP (fun x : Msg => decide (x.id = m.id)) _ = (a : Int) := ha
                  rw [ha]
                  have hal := (List.getElem?_eq_some_iff.1 hget).1
                  refine K.drawU (by repeat (first | apply SubL.pers | apply SubL.own (b := b9) | apply SubL.drop | exact SubL.none)) mixed ?_
                  refine D.q 0 rfl (by kernel_rfl) (by kernel_rfl) (q_move rfl) (fun _ h => h.subD) ?_
                  refine D.q 1 rfl (by kernel_rfl) (by kernel_rfl) (q_is (q_lt rfl rfl) (congrArg Value.bool (decide_eq_false (by omega)))) (fun _ h => h.subD) ?_
                  refine D.q 2 rfl (by kernel_rfl) (by kernel_rfl) (q_move rfl) (fun _ h => h.subD) ?_
                  refine D.q 3 rfl (by kernel_rfl) (by kernel_rfl) (q_move rfl) (fun _ h => h.subD) ?_
                  refine D.q 4 rfl (by kernel_rfl) (by kernel_rfl) (q_move rfl) (fun _ h => h.subD) ?_
                  refine D.q 5 rfl (by kernel_rfl) (by kernel_rfl) (q_ix (xs := p.x.dead) a se_25 rfl rfl rfl isF (by repeat (first | exact List.Mem.head _ | apply List.Mem.tail)) rfl hal) (fun _ h => h.subD) ?_
                  refine D.q 6 rfl (by kernel_rfl) (by kernel_rfl) (q_ldEN (xs := p.x.dead) (enc := Msg.cells) ck_24 rfl isF (by repeat (first | exact List.Mem.head _ | apply List.Mem.tail)) hget) (fun _ h => h.subD) ?_
                  refine D.q 7 rfl (by kernel_rfl) (by kernel_rfl) (q_loadN ck_24 rfl rfl (by first | (apply cells_pv; (repeat (first | exact List.Mem.head _ | apply List.Mem.tail))) | (apply cells_fv; (repeat (first | exact List.Mem.head _ | apply List.Mem.tail))))) (fun _ h => h.subD) ?_
                  refine D.q 8 rfl (by kernel_rfl) (by kernel_rfl) (q_recNG Try.underlying24 msg_hp msg_hg rfl rfl (msg_eqD _ _ Try.underlying24)) (fun _ h => h.subD) ?_
                  refine D.q 9 rfl (by kernel_rfl) (by kernel_rfl) (q_pickF rfl rfl) (fun _ h => h.subD) ?_
                  refine D.done (by kernel_rfl) ?_
                  refine K.dcond (s := 113) rfl (fun g113 => ?_) (fun g113 => ?_)
                  · exact absurd rfl g113
                  · refine K.skip <| K.inBlock ?_
                    refine K.region ?_
                    refine KO.q rfl (q_move rfl) ?_
                    refine KO.q rfl (q_add rfl rfl (by first | omega | (simp; omega)) (by first | omega | (simp; omega))) ?_
                    refine KO.q rfl (q_assign rfl) ?_
                    refine KO.done ?_
                    exact K.weak (by repeat (first | exact Env.sub_nil _ | refine Env.sub_cons rfl ?_)) (fun w h => h.fitD) (ih2 ⟨k + 1, by omega⟩ (by show o.x.msgs.length - (k + 1) < o.x.msgs.length - k; omega))
                · obtain ⟨a, ha, hget⟩ := w2 hmc g92
                  rw [← hpx] at ha hget
                  refine K.skip ?_
                  refine K.region ?_
                  refine KO.q rfl (q_loadN ck_24 rfl rfl (by first | (apply cells_pv; (repeat (first | exact List.Mem.head _ | apply List.Mem.tail))) | (apply cells_fv; (repeat (first | exact List.Mem.head _ | apply List.Mem.tail))))) ?_
                  refine KO.loudN rfl (l_storeAll ck_24 rfl rfl ⟨rfl, rfl⟩ (msg_one _) (by repeat (first | exact Pick.here | apply Pick.there))) ?_
                  rintro _ _ ⟨rfl, rfl⟩
                  refine KO.done ?_
                  refine K.seq ?_
                  refine K.region ?_
                  refine KO.q rfl (q_move rfl) ?_
                  refine KO.q rfl (q_field fo_24_0 rfl) ?_
                  refine KO.q rfl (q_load1D ck_3 rfl) ?_
                  refine KO.loud rfl (OpL.callD rfl (h := ref_FindMsg p.z.q2 p.z.c2 p.x.msgs m.id (by omega))) ?_
                  rintro _ _ ⟨_, ⟨rfl, rfl⟩, rfl⟩
                  refine KO.q rfl (q_assign rfl) ?_
                  refine KO.done ?_
                  refine K.seq ?_
                  have ha : idxP (fun x : Msg => decide (x.id = m.id)) _ = (a : Int) := ha
                  rw [ha]
                  have hal := (List.getElem?_eq_some_iff.1 hget).1
                  refine K.drawU (by repeat (first | apply SubL.pers | apply SubL.own (b := b9) | apply SubL.drop | exact SubL.none)) mixed ?_
                  refine D.q 0 rfl (by kernel_rfl) (by kernel_rfl) (q_move rfl) (fun _ h => h.subD) ?_
                  refine D.q 1 rfl (by kernel_rfl) (by kernel_rfl) (q_is (q_lt rfl rfl) (congrArg Value.bool (decide_eq_false (by omega)))) (fun _ h => h.subD) ?_
                  refine D.q 2 rfl (by kernel_rfl) (by kernel_rfl) (q_move rfl) (fun _ h => h.subD) ?_
                  refine D.q 3 rfl (by kernel_rfl) (by kernel_rfl) (q_move rfl) (fun _ h => h.subD) ?_
                  refine D.q 4 rfl (by kernel_rfl) (by kernel_rfl) (q_move rfl) (fun _ h => h.subD) ?_
                  refine D.q 5 rfl (by kernel_rfl) (by kernel_rfl) (q_ix (xs := p.x.msgs) a se_25 rfl rfl rfl isF (by repeat (first | exact List.Mem.head _ | apply List.Mem.tail)) rfl hal) (fun _ h => h.subD) ?_
                  refine D.q 6 rfl (by kernel_rfl) (by kernel_rfl) (q_ldEN (xs := p.x.msgs) (enc := Msg.cells) ck_24 rfl isF (by repeat (first | exact List.Mem.head _ | apply List.Mem.tail)) hget) (fun _ h => h.subD) ?_
                  refine D.q 7 rfl (by kernel_rfl) (by kernel_rfl) (q_loadN ck_24 rfl rfl (by first | (apply cells_pv; (repeat (first | exact List.Mem.head _ | apply List.Mem.tail))) | (apply cells_fv; (repeat (first | exact List.Mem.head _ | apply List.Mem.tail))))) (fun _ h => h.subD) ?_
                  refine D.q 8 rfl (by kernel_rfl) (by kernel_rfl) (q_recNG Try.underlying24 msg_hp msg_hg rfl rfl (msg_eqD _ _ Try.underlying24)) (fun _ h => h.subD) ?_
                  refine D.q 9 rfl (by kernel_rfl) (by kernel_rfl) (q_pickF rfl rfl) (fun _ h => h.subD) ?_
                  refine D.done (by kernel_rfl) ?_
                  refine K.dcond (s := 113) rfl (fun g113 => ?_) (fun g113 => ?_)
                  · exact absurd rfl g113
                  · refine K.skip <| K.inBlock ?_
                    refine K.region ?_
                    refine KO.q rfl (q_move rfl) ?_
                    refine KO.q rfl (q_add rfl rfl (by first | omega | (simp; omega)) (by first | omega | (simp; omega))) ?_
                    refine KO.q rfl (q_assign rfl) ?_
                    refine KO.done ?_
                    exact K.weak (by repeat (first | exact Env.sub_nil _ | refine Env.sub_cons rfl ?_)) (fun w h => h.fitD) (ih2 ⟨k + 1, by omega⟩ (by show o.x.msgs.length - (k + 1) < o.x.msgs.length - k; omega))
              · have hmc : ¬ m.claimed = true := by simpa using g84
                obtain ⟨a, ha, hget⟩ := w3 hmc
                rw [← hpx] at ha hget
                refine K.skip <| K.seq ?_
                refine K.region ?_
                refine KO.q rfl (q_move rfl) ?_
                refine KO.q rfl (q_field fo_24_0 rfl) ?_
                refine KO.q rfl (q_load1D ck_3 rfl) ?_
                refine KO.loud rfl (OpL.callD rfl (h := ref_FindMsg p.z.q2 p.z.c2 p.x.msgs m.id (by omega))) ?_
                rintro _ _ ⟨_, ⟨rfl, rfl⟩, rfl⟩
                refine KO.q rfl (q_assign rfl) ?_
                refine KO.done ?_
                refine K.seq ?_
                have ha : idxP (fun x : Msg => decide (x.id = m.id)) _ = (a : Int) := ha
                rw [ha]
                have hal := (List.getElem?_eq_some_iff.1 hget).1
                refine K.drawU (by repeat (first | apply SubL.pers | apply SubL.own (b := b9) | apply SubL.drop | exact SubL.none)) mixed ?_
                refine D.q 0 rfl (by kernel_rfl) (by kernel_rfl) (q_move rfl) (fun _ h => h.subD) ?_
                refine D.q 1 rfl (by kernel_rfl) (by kernel_rfl) (q_is (q_lt rfl rfl) (congrArg Value.bool (decide_eq_false (by omega)))) (fun _ h => h.subD) ?_
                refine D.q 2 rfl (by kernel_rfl) (by kernel_rfl) (q_move rfl) (fun _ h => h.subD) ?_
                refine D.q 3 rfl (by kernel_rfl) (by kernel_rfl) (q_move rfl) (fun _ h => h.subD) ?_
                refine D.q 4 rfl (by kernel_rfl) (by kernel_rfl) (q_move rfl) (fun _ h => h.subD) ?_
                refine D.q 5 rfl (by kernel_rfl) (by kernel_rfl) (q_ix (xs := p.x.msgs) a se_25 rfl rfl rfl isF (by repeat (first | exact List.Mem.head _ | apply List.Mem.tail)) rfl hal) (fun _ h => h.subD) ?_
                refine D.q 6 rfl (by kernel_rfl) (by kernel_rfl) (q_ldEN (xs := p.x.msgs) (enc := Msg.cells) ck_24 rfl isF (by repeat (first | exact List.Mem.head _ | apply List.Mem.tail)) hget) (fun _ h => h.subD) ?_
                refine D.q 7 rfl (by kernel_rfl) (by kernel_rfl) (q_loadN ck_24 rfl rfl (by first | (apply cells_pv; (repeat (first | exact List.Mem.head _ | apply List.Mem.tail))) | (apply cells_fv; (repeat (first | exact List.Mem.head _ | apply List.Mem.tail))))) (fun _ h => h.subD) ?_
                refine D.q 8 rfl (by kernel_rfl) (by kernel_rfl) (q_recNG Try.underlying24 msg_hp msg_hg rfl rfl (msg_eqD _ _ Try.underlying24)) (fun _ h => h.subD) ?_
                refine D.q 9 rfl (by kernel_rfl) (by kernel_rfl) (q_pickF rfl rfl) (fun _ h => h.subD) ?_
                refine D.done (by kernel_rfl) ?_
                refine K.dcond (s := 113) rfl (fun g113 => ?_) (fun g113 => ?_)
                · exact absurd rfl g113
                · refine K.skip <| K.inBlock ?_
                  refine K.region ?_
                  refine KO.q rfl (q_move rfl) ?_
                  refine KO.q rfl (q_add rfl rfl (by first | omega | (simp; omega)) (by first | omega | (simp; omega))) ?_
                  refine KO.q rfl (q_assign rfl) ?_
                  refine KO.done ?_
                  exact K.weak (by repeat (first | exact Env.sub_nil _ | refine Env.sub_cons rfl ?_)) (fun w h => h.fitD) (ih2 ⟨k + 1, by omega⟩ (by show o.x.msgs.length - (k + 1) < o.x.msgs.length - k; omega))
            · clear ih2
              have hfl := freedO_len o.x
              rw [← hpx] at hfl
              have hp2 := hpl.2.2.1
              have hp3 := hpl.2.2.2
              have ho2 := hol.2.2.1
              have ho3 := hol.2.2.2
              refine K.exit rfl ?_
              refine K.seq ?_
              refine K.drawS [pv b4 33 s'.cells, pv b7 28 o.cells, RowF Kd.oz s'.q s'.l] (fun _ h => h.subD) mixed ?_
              refine D.q 0 rfl (by kernel_rfl) (by kernel_rfl) (q_field fo_33_1 rfl) (fun _ h => h.subD) ?_
              refine D.q 1 rfl (by kernel_rfl) (by kernel_rfl) (q_load1D ck_31 rfl) (fun _ h => h.subD) ?_
              refine D.q 2 rfl (by kernel_rfl) (by kernel_rfl) (q_move rfl) (fun _ h => h.subD) ?_
              refine D.q 3 rfl (by kernel_rfl) (by kernel_rfl) (q_ix (xs := s'.l) i se_31 rfl rfl rfl isF (by repeat (first | exact List.Mem.head _ | apply List.Mem.tail)) rfl (by omega)) (fun _ h => h.subD) ?_
              refine D.q 4 rfl (by kernel_rfl) (by kernel_rfl) (q_fieldE fo_28_4 rfl) (fun _ h => h.subD) ?_
              refine D.q 5 rfl (by kernel_rfl) (by kernel_rfl) (q_ldE (xs := s'.l) ck_25 rfl isF (by repeat (first | exact List.Mem.head _ | apply List.Mem.tail)) hp rfl) (fun _ h => h.subD) ?_
              refine D.q 6 rfl (by kernel_rfl) (by kernel_rfl) (q_len Try.underlying25 rfl) (fun _ h => h.subD) ?_
              refine D.q 7 rfl (by kernel_rfl) (by kernel_rfl) (q_field fo_33_1 rfl) (fun _ h => h.subD) ?_
              refine D.q 8 rfl (by kernel_rfl) (by kernel_rfl) (q_load1D ck_31 rfl) (fun _ h => h.subD) ?_
              refine D.q 9 rfl (by kernel_rfl) (by kernel_rfl) (q_move rfl) (fun _ h => h.subD) ?_
              refine D.q 10 rfl (by kernel_rfl) (by kernel_rfl) (q_ix (xs := s'.l) i se_31 rfl rfl rfl isF (by repeat (first | exact List.Mem.head _ | apply List.Mem.tail)) rfl (by omega)) (fun _ h => h.subD) ?_
              refine D.q 11 rfl (by kernel_rfl) (by kernel_rfl) (q_fieldE fo_28_5 rfl) (fun _ h => h.subD) ?_
              refine D.q 12 rfl (by kernel_rfl) (by kernel_rfl) (q_ldE (xs := s'.l) ck_25 rfl isF (by repeat (first | exact List.Mem.head _ | apply List.Mem.tail)) hp rfl) (fun _ h => h.subD) ?_
              refine D.q 13 rfl (by kernel_rfl) (by kernel_rfl) (q_len Try.underlying25 rfl) (fun _ h => h.subD) ?_
              refine D.q 14 rfl (by kernel_rfl) (by kernel_rfl) (q_add rfl rfl (by first | omega | (simp; omega)) (by first | omega | (simp; omega))) (fun _ h => h.subD) ?_
              refine D.q 15 rfl (by kernel_rfl) (by kernel_rfl) (q_field fo_28_4 rfl) (fun _ h => h.subD) ?_
              refine D.q 16 rfl (by kernel_rfl) (by kernel_rfl) (q_load1D ck_25 rfl) (fun _ h => h.subD) ?_
              refine D.q 17 rfl (by kernel_rfl) (by kernel_rfl) (q_len Try.underlying25 rfl) (fun _ h => h.subD) ?_
              refine D.q 18 rfl (by kernel_rfl) (by kernel_rfl) (q_field fo_28_5 rfl) (fun _ h => h.subD) ?_
              refine D.q 19 rfl (by kernel_rfl) (by kernel_rfl) (q_load1D ck_25 rfl) (fun _ h => h.subD) ?_
              refine D.q 20 rfl (by kernel_rfl) (by kernel_rfl) (q_len Try.underlying25 rfl) (fun _ h => h.subD) ?_
              refine D.q 21 rfl (by kernel_rfl) (by kernel_rfl) (q_add rfl rfl (by first | omega | (simp; omega)) (by first | omega | (simp; omega))) (fun _ h => h.subD) ?_
              refine D.q 22 rfl (by kernel_rfl) (by kernel_rfl) (q_neF rfl rfl (by omega)) (fun _ h => h.subD) ?_
              refine D.done (by kernel_rfl) ?_
              refine K.no rfl ?_
              refine K.skip <| K.inBlock ?_
              refine K.region ?_
              refine KO.q rfl (q_move rfl) ?_
              refine KO.q rfl (q_add rfl rfl (by first | omega | (simp; omega)) (by first | omega | (simp; omega))) ?_
              refine KO.q rfl (q_assign rfl) ?_
              refine KO.done ?_
              exact K.weak (by repeat (first | exact Env.sub_nil _ | refine Env.sub_cons rfl ?_)) (fun w h => h.fitD) (ih ⟨i + 1, by omega⟩ (by show s.l.length - (i + 1) < s.l.length - i; omega))
          · clear ih
            refine K.exit rfl ?_
            refine K.seq ?_
            refine K.region ?_
            refine KO.q rfl (q_assign rfl) ?_
            refine KO.done ?_
            refine K.ret (fn := Try.f5) Try.func5 (fun a w hk hs => res1 Try.results5 hk rfl) (fun w hs => ?_)
            exact ⟨_, [], rfl, ⟨rfl, rfl⟩, hs.fitD⟩
        · rintro _ _ ⟨b4, rfl, rfl⟩
          refine D.all (rs := [3]) (by kernel_rfl) rfl (DAll.cons rfl (by kernel_rfl) (OpL.callD rfl (h := st_Apply (RowO Kd.eff 35 pc cc (claimsS s.st)) s 200 pc cc (claimsS s.st) isO hgood (by omega))) (.inl (by kernel_rfl)) rfl ?_ DAll.nil)
          rintro _ _ ⟨_, ⟨s', rfl, hs1, rfl, hs2⟩, rfl⟩
          rw [hap] at hs1
          rw [hap]
          refine D.q 4 rfl (by kernel_rfl) (by kernel_rfl) (q_move rfl) (fun _ h => h.subD) ?_
          refine D.q 5 rfl (by kernel_rfl) (by kernel_rfl) (q_extract rfl rfl) (fun _ h => h.subD) ?_
          refine D.q 6 rfl (by kernel_rfl) (by kernel_rfl) (q_extract rfl rfl) (fun _ h => h.subD) ?_
          refine D.all (rs := [8]) (by kernel_rfl) rfl (DAll.consN rfl (by kernel_rfl) (l_storeAll ck_33 rfl rfl ⟨rfl, rfl⟩ (sz_one _) (by repeat (first | exact Pick.here | apply Pick.there))) (.inr (by rintro _ _ ⟨rfl, rfl⟩ w h; exact h.subD)) rfl ?_ DAll.nil)
          rintro _ _ ⟨rfl, rfl⟩
          refine D.q 9 rfl (by kernel_rfl) (by kernel_rfl) (q_assign rfl) (fun _ h => h.subD) ?_
          refine D.done (by kernel_rfl) ?_
          refine K.seq <| K.seq ?_
          have hl' : s'.l.map (·.x) = (s.l.map (·.x)).map freedO := congrArg Stt.objs hs1
          have hlen : s'.l.length = s.l.length := by
            have := congrArg List.length hl'
            simpa only [List.length_map] using this
          have hcn : claimsS s'.st = [] := by rw [hs1]; exact claims_none s.st
          refine K.region ?_
          refine KO.q rfl (q_move rfl) ?_
          refine KO.loud rfl (OpL.callD rfl (h := l19_num _)) ?_
          rintro _ _ ⟨_, ⟨rfl, rfl⟩, rfl⟩
          refine KO.q rfl (q_neF rfl rfl (rfl)) ?_
          refine KO.q rfl (q_move rfl) ?_
          refine KO.q rfl (q_field fo_33_1 rfl) ?_
          refine KO.q rfl (q_load1D ck_31 rfl) ?_
          refine KO.q rfl (q_len Try.underlying31 rfl) ?_
          refine KO.q rfl (q_field fo_33_1 rfl) ?_
          refine KO.q rfl (q_load1D ck_31 rfl) ?_
          refine KO.q rfl (q_len Try.underlying31 rfl) ?_
          refine KO.q rfl (q_neF rfl rfl (by rw [hlen])) ?_
          refine KO.q rfl (q_pickF rfl rfl) ?_
          refine KO.q rfl (q_move rfl) ?_
          refine KO.q rfl (q_loadN ck_33 rfl rfl (by first | (apply cells_pv; (repeat (first | exact List.Mem.head _ | apply List.Mem.tail))) | (apply cells_fv; (repeat (first | exact List.Mem.head _ | apply List.Mem.tail))))) ?_
          refine KO.loud rfl (OpL.callD rfl (h := st_Claims s' (200 + (claimsS s.st).length) hs2 (by rw [hcn]; decide) (by omega))) ?_
          rintro _ _ ⟨_, ⟨pd, cd, rfl, rfl⟩, rfl⟩
          refine KO.q rfl (q_len Try.underlying36 rfl) ?_
          refine KO.q rfl (q_neF rfl rfl (by rw [hcn]; rfl)) ?_
          refine KO.q rfl (q_pickF rfl rfl) ?_
          refine KO.done ?_
          refine K.no rfl ?_
          refine K.skip <| K.seq <| K.seq ?_
          refine K.region ?_
          refine KO.q rfl (q_assign rfl) ?_
          refine KO.done ?_
          refine K.block ?_
          refine K.rounds2 (ι := { i : Nat // i ≤ s.l.length }) (fun x => [(6, .int .i64 x.1), (1, .pointer (some ⟨b1, 0, none⟩)), (4, .pointer (some ⟨b4, 0, none⟩))]) (fun x => [pv b1 33 s.cells, pv b4 33 s'.cells, RowF Kd.oz s.q s.l, NestF s.l, RowF Kd.oz s'.q s'.l, NestF s'.l] ++ L) (fun x => s.l.length - x.1) ⟨0, Nat.zero_le _⟩ (by repeat (first | exact Env.sub_nil _ | refine Env.sub_cons rfl ?_)) (fun w h => h.fitD) (fun x ih => ?_)
          obtain ⟨i, hi⟩ := x
          dsimp only at hi ⊢
          refine K.seq <| K.seq ?_
          refine K.region ?_
          refine KO.q rfl (q_move rfl) ?_
          refine KO.q rfl (q_field fo_33_1 rfl) ?_
          refine KO.q rfl (q_load1D ck_31 rfl) ?_
          refine KO.q rfl (q_len Try.underlying31 rfl) ?_
          refine KO.q rfl (q_lt rfl rfl) ?_
          refine KO.done ?_
          refine K.dcond (s := 57) rfl (fun g57 => ?_) (fun g57 => ?_)
          · obtain ⟨o, ho⟩ : ∃ o, s.l[i]? = some o := ⟨_, List.getElem?_eq_getElem (by omega)⟩
            have hmo := List.mem_of_getElem? ho
            obtain ⟨p, hp, hpx⟩ : ∃ p, s'.l[i]? = some p ∧ p.x = freedO o.x := by
              refine ⟨_, List.getElem?_eq_getElem (by omega), ?_⟩
              have := congrArg (fun z => z[i]?) hl'
              simp only [List.getElem?_map, ho, Option.map_some] at this
              rw [List.getElem?_eq_getElem (by omega)] at this
              exact Option.some.inj this
            have hmp := List.mem_of_getElem? hp
            have hol := hgood.sm.oz hmo
            have hpl := hs2.sm.oz hmp
            have hmb := hol.2.2.1
            have hom : o.x ∈ s.st.objs := List.mem_map_of_mem hmo
            refine K.st (fun w h => nestF_at (l := s.l) (by repeat (first | exact List.Mem.head _ | apply List.Mem.tail)) hmo h) ?_
            refine K.st (fun w h => nestF_at (l := s'.l) (by repeat (first | exact List.Mem.head _ | apply List.Mem.tail)) hmp h) ?_
            refine K.skip <| K.seq <| K.block <| K.seq ?_
            refine K.region ?_
            refine KO.q rfl (q_field fo_33_1 rfl) ?_
            refine KO.q rfl (q_load1D ck_31 rfl) ?_
            refine KO.q rfl (q_move rfl) ?_
            refine KO.q rfl (q_ix (xs := s.l) i se_31 rfl rfl rfl isF (by repeat (first | exact List.Mem.head _ | apply List.Mem.tail)) rfl (by omega)) ?_
            refine KO.q rfl (q_ldEN (xs := s.l) (enc := Oz.cells) ck_28 rfl isF (by repeat (first | exact List.Mem.head _ | apply List.Mem.tail)) ho) ?_
            refine KO.loud rfl (l_alloc zo_28) ?_
            rintro _ _ ⟨b7, rfl, rfl⟩
            refine KO.loudN rfl (l_storeAll ck_28 rfl rfl ⟨rfl, rfl⟩ (oz_one _) (by repeat (first | exact Pick.here | apply Pick.there))) ?_
            rintro _ _ ⟨rfl, rfl⟩
            refine KO.done ?_
            refine K.seq <| K.seq ?_
            refine K.region ?_
            refine KO.q rfl (q_assign rfl) ?_
            refine KO.done ?_
            refine K.block ?_
            refine K.rounds2 (ι := { k : Nat // k ≤ o.x.msgs.length }) (fun x => [(8, .int .i64 x.1), (7, .pointer (some ⟨b7, 0, none⟩)), (6, .int .i64 i), (1, .pointer (some ⟨b1, 0, none⟩)), (4, .pointer (some ⟨b4, 0, none⟩))]) (fun x => [pv b1 33 s.cells, pv b4 33 s'.cells, pv b7 28 o.cells, RowF Kd.oz s.q s.l, NestF s.l, RowF Kd.oz s'.q s'.l, NestF s'.l] ++ ObL o ++ ObL p ++ L) (fun x => o.x.msgs.length - x.1) ⟨0, Nat.zero_le _⟩ (by repeat (first | exact Env.sub_nil _ | refine Env.sub_cons rfl ?_)) (fun w h => h.fitD) (fun x ih2 => ?_)
            obtain ⟨k, hk⟩ := x
            dsimp only at hk ⊢
            refine K.seq <| K.seq ?_
            refine K.region ?_
            refine KO.q rfl (q_move rfl) ?_
            refine KO.q rfl (q_field fo_28_4 rfl) ?_
            refine KO.q rfl (q_load1D ck_25 rfl) ?_
            refine KO.q rfl (q_len Try.underlying25 rfl) ?_
            refine KO.q rfl (q_lt rfl rfl) ?_
            refine KO.done ?_
            refine K.dcond (s := 69) rfl (fun g69 => ?_) (fun g69 => ?_)
            · obtain ⟨m, hm⟩ : ∃ m, o.x.msgs[k]? = some m := ⟨_, List.getElem?_eq_getElem (by omega)⟩
              have hmm := List.mem_of_getElem? hm
              obtain ⟨w1, w2, w3⟩ := freed_where hSR hom hmm
              have hm0 := (hol.1.2.2.2.2.1 m hmm).2.2.1.1
              have hpm : p.x.msgs.length ≤ 9223372036854775807 := by have := hpl.2.2.1; omega
              have hpd : p.x.dead.length ≤ 9223372036854775807 := by have := hpl.2.2.2; omega
              refine K.skip <| K.seq <| K.block <| K.seq ?_
              refine K.region ?_
              refine KO.q rfl (q_field fo_28_4 rfl) ?_
              refine KO.q rfl (q_load1D ck_25 rfl) ?_
              refine KO.q rfl (q_move rfl) ?_
              refine KO.q rfl (q_ix (xs := o.x.msgs) k se_25 rfl rfl rfl isF (by repeat (first | exact List.Mem.head _ | apply List.Mem.tail)) rfl (by omega)) ?_
              refine KO.q rfl (q_ldEN (xs := o.x.msgs) (enc := Msg.cells) ck_24 rfl isF (by repeat (first | exact List.Mem.head _ | apply List.Mem.tail)) hm) ?_
              refine KO.loud rfl (l_alloc zo_24) ?_
              rintro _ _ ⟨b9, rfl, rfl⟩
              refine KO.loudN rfl (l_storeAll ck_24 rfl rfl ⟨rfl, rfl⟩ (msg_one _) (by repeat (first | exact Pick.here | apply Pick.there))) ?_
              rintro _ _ ⟨rfl, rfl⟩
              refine KO.done ?_
              refine K.seq ?_
              refine K.region ?_
              refine KO.q rfl (q_field fo_33_1 rfl) ?_
              refine KO.q rfl (q_load1D ck_31 rfl) ?_
              refine KO.q rfl (q_move rfl) ?_
              refine KO.q rfl (q_ix (xs := s'.l) i se_31 rfl rfl rfl isF (by repeat (first | exact List.Mem.head _ | apply List.Mem.tail)) rfl (by omega)) ?_
              refine KO.q rfl (q_fieldE fo_28_4 rfl) ?_
              refine KO.q rfl (q_ldE (xs := s'.l) ck_25 rfl isF (by repeat (first | exact List.Mem.head _ | apply List.Mem.tail)) hp rfl) ?_
              refine KO.q rfl (q_assign rfl) ?_
              refine KO.done ?_
              refine K.seq <| K.seq ?_
              refine K.region ?_
              refine KO.q rfl (q_field fo_24_3 rfl) ?_
              refine KO.q rfl (q_load1D ck_4 rfl) ?_
              refine KO.done ?_
              first | refine K.dcond (s := 84) rfl (fun g84 => ?_) (fun g84 => ?_) | refine K.bcond (s := 84) rfl (fun g84 => ?_) (fun g84 => ?_)
              · have hmc : m.claimed = true := by simpa using g84
                refine K.seq ?_
                refine K.region ?_
                refine KO.q rfl (q_loadN ck_24 rfl rfl (by first | (apply cells_pv; (repeat (first | exact List.Mem.head _ | apply List.Mem.tail))) | (apply cells_fv; (repeat (first | exact List.Mem.head _ | apply List.Mem.tail))))) ?_
                refine KO.q rfl (q_field fo_28_2 rfl) ?_
                refine KO.q rfl (q_load1D ck_3 rfl) ?_
                refine KO.loud rfl (OpL.callD rfl (h := ref_Tried m o.x.limit hm0)) ?_
                rintro _ _ ⟨_, ⟨rfl, rfl⟩, rfl⟩
                refine KO.q rfl (q_move rfl) ?_
                refine KO.q rfl (q_extract rfl rfl) ?_
                refine KO.q rfl (q_extract rfl rfl) ?_
                refine KO.loud rfl (l_alloc zo_24) ?_
                rintro _ _ ⟨b11, rfl, rfl⟩
                refine KO.loudN rfl (l_storeAll ck_24 rfl rfl ⟨rfl, rfl⟩ (msg_one _) (by repeat (first | exact Pick.here | apply Pick.there))) ?_
                rintro _ _ ⟨rfl, rfl⟩
                refine KO.q rfl (q_assign rfl) ?_
                refine KO.done ?_
                refine K.seq <| K.seq ?_
                refine K.region ?_
                refine KO.q rfl (q_move rfl) ?_
                refine KO.done ?_
                first | refine K.dcond (s := 92) rfl (fun g92 => ?_) (fun g92 => ?_) | refine K.bcond (s := 92) rfl (fun g92 => ?_) (fun g92 => ?_)
                · obtain ⟨a, ha, hget⟩ := w1 hmc g92
                  rw [← hpx] at ha hget
                  refine K.region ?_
                  refine KO.q rfl (q_field fo_33_1 rfl) ?_
                  refine KO.q rfl (q_load1D ck_31 rfl) ?_
                  refine KO.q rfl (q_move rfl) ?_
                  refine KO.q rfl (q_ix (xs := s'.l) i se_31 rfl rfl rfl isF (by repeat (first | exact List.Mem.head _ | apply List.Mem.tail)) rfl (by omega)) ?_
                  refine KO.q rfl (q_fieldE fo_28_5 rfl) ?_
                  refine KO.q rfl (q_ldE (xs := s'.l) ck_25 rfl isF (by repeat (first | exact List.Mem.head _ | apply List.Mem.tail)) hp rfl) ?_
                  refine KO.q rfl (q_assign rfl) ?_
                  refine KO.done ?_
                  refine K.region ?_
                  refine KO.q rfl (q_loadN ck_24 rfl rfl (by first | (apply cells_pv; (repeat (first | exact List.Mem.head _ | apply List.Mem.tail))) | (apply cells_fv; (repeat (first | exact List.Mem.head _ | apply List.Mem.tail))))) ?_
                  refine KO.loudN rfl (l_storeAll ck_24 rfl rfl ⟨rfl, rfl⟩ (msg_one _) (by repeat (first | exact Pick.here | apply Pick.there))) ?_
                  rintro _ _ ⟨rfl, rfl⟩
                  refine KO.done ?_
                  refine K.seq ?_
                  refine K.region ?_
                  refine KO.q rfl (q_move rfl) ?_
                  refine KO.q rfl (q_field fo_24_0 rfl) ?_
                  refine KO.q rfl (q_load1D ck_3 rfl) ?_
                  refine KO.loud rfl (OpL.callD rfl (h := ref_FindMsg p.z.q3 p.z.c3 p.x.dead m.id (by omega))) ?_
                  rintro _ _ ⟨_, ⟨rfl, rfl⟩, rfl⟩
                  refine KO.q rfl (q_assign rfl) ?_
                  refine KO.done ?_
                  refine K.seq ?_
                  have ha : idxP (fun x : Msg => decide (x.id = m.id)) _ = (a : Int) := ha
                  rw [ha]
                  have hal := (List.getElem?_eq_some_iff.1 hget).1
                  refine K.drawU (by repeat (first | apply SubL.pers | apply SubL.own (b := b9) | apply SubL.drop | exact SubL.none)) mixed ?_
                  refine D.q 0 rfl (by kernel_rfl) (by kernel_rfl) (q_move rfl) (fun _ h => h.subD) ?_
                  refine D.q 1 rfl (by kernel_rfl) (by kernel_rfl) (q_is (q_lt rfl rfl) (congrArg Value.bool (decide_eq_false (by omega)))) (fun _ h => h.subD) ?_
                  refine D.q 2 rfl (by kernel_rfl) (by kernel_rfl) (q_move rfl) (fun _ h => h.subD) ?_
                  refine D.q 3 rfl (by kernel_rfl) (by kernel_rfl) (q_move rfl) (fun _ h => h.subD) ?_
                  refine D.q 4 rfl (by kernel_rfl) (by kernel_rfl) (q_move rfl) (fun _ h => h.subD) ?_
                  refine D.q 5 rfl (by kernel_rfl) (by kernel_rfl) (q_ix (xs := p.x.dead) a se_25 rfl rfl rfl isF (by repeat (first | exact List.Mem.head _ | apply List.Mem.tail)) rfl hal) (fun _ h => h.subD) ?_
                  refine D.q 6 rfl (by kernel_rfl) (by kernel_rfl) (q_ldEN (xs := p.x.dead) (enc := Msg.cells) ck_24 rfl isF (by repeat (first | exact List.Mem.head _ | apply List.Mem.tail)) hget) (fun _ h => h.subD) ?_
                  refine D.q 7 rfl (by kernel_rfl) (by kernel_rfl) (q_loadN ck_24 rfl rfl (by first | (apply cells_pv; (repeat (first | exact List.Mem.head _ | apply List.Mem.tail))) | (apply cells_fv; (repeat (first | exact List.Mem.head _ | apply List.Mem.tail))))) (fun _ h => h.subD) ?_
                  refine D.q 8 rfl (by kernel_rfl) (by kernel_rfl) (q_recNG Try.underlying24 msg_hp msg_hg rfl rfl (msg_eqD _ _ Try.underlying24)) (fun _ h => h.subD) ?_
                  refine D.q 9 rfl (by kernel_rfl) (by kernel_rfl) (q_pickF rfl rfl) (fun _ h => h.subD) ?_
                  refine D.done (by kernel_rfl) ?_
                  refine K.dcond (s := 113) rfl (fun g113 => ?_) (fun g113 => ?_)
                  · exact absurd rfl g113
                  · refine K.skip <| K.inBlock ?_
                    refine K.region ?_
                    refine KO.q rfl (q_move rfl) ?_
                    refine KO.q rfl (q_add rfl rfl (by first | omega | (simp; omega)) (by first | omega | (simp; omega))) ?_
                    refine KO.q rfl (q_assign rfl) ?_
                    refine KO.done ?_
                    exact K.weak (by repeat (first | exact Env.sub_nil _ | refine Env.sub_cons rfl ?_)) (fun w h => h.fitD) (ih2 ⟨k + 1, by omega⟩ (by show o.x.msgs.length - (k + 1) < o.x.msgs.length - k; omega))
                · obtain ⟨a, ha, hget⟩ := w2 hmc g92
                  rw [← hpx] at ha hget
                  refine K.skip ?_
                  refine K.region ?_
                  refine KO.q rfl (q_loadN ck_24 rfl rfl (by first | (apply cells_pv; (repeat (first | exact List.Mem.head _ | apply List.Mem.tail))) | (apply cells_fv; (repeat (first | exact List.Mem.head _ | apply List.Mem.tail))))) ?_
                  refine KO.loudN rfl (l_storeAll ck_24 rfl rfl ⟨rfl, rfl⟩ (msg_one _) (by repeat (first | exact Pick.here | apply Pick.there))) ?_
                  rintro _ _ ⟨rfl, rfl⟩
                  refine KO.done ?_
                  refine K.seq ?_
                  refine K.region ?_
                  refine KO.q rfl (q_move rfl) ?_
                  refine KO.q rfl (q_field fo_24_0 rfl) ?_
                  refine KO.q rfl (q_load1D ck_3 rfl) ?_
                  refine KO.loud rfl (OpL.callD rfl (h := ref_FindMsg p.z.q2 p.z.c2 p.x.msgs m.id (by omega))) ?_
                  rintro _ _ ⟨_, ⟨rfl, rfl⟩, rfl⟩
                  refine KO.q rfl (q_assign rfl) ?_
                  refine KO.done ?_
                  refine K.seq ?_
                  have ha : idxP (fun x : Msg => decide (x.id = m.id)) _ = (a : Int) := ha
                  rw [ha]
                  have hal := (List.getElem?_eq_some_iff.1 hget).1
                  refine K.drawU (by repeat (first | apply SubL.pers | apply SubL.own (b := b9) | apply SubL.drop | exact SubL.none)) mixed ?_
                  refine D.q 0 rfl (by kernel_rfl) (by kernel_rfl) (q_move rfl) (fun _ h => h.subD) ?_
                  refine D.q 1 rfl (by kernel_rfl) (by kernel_rfl) (q_is (q_lt rfl rfl) (congrArg Value.bool (decide_eq_false (by omega)))) (fun _ h => h.subD) ?_
                  refine D.q 2 rfl (by kernel_rfl) (by kernel_rfl) (q_move rfl) (fun _ h => h.subD) ?_
                  refine D.q 3 rfl (by kernel_rfl) (by kernel_rfl) (q_move rfl) (fun _ h => h.subD) ?_
                  refine D.q 4 rfl (by kernel_rfl) (by kernel_rfl) (q_move rfl) (fun _ h => h.subD) ?_
                  refine D.q 5 rfl (by kernel_rfl) (by kernel_rfl) (q_ix (xs := p.x.msgs) a se_25 rfl rfl rfl isF (by repeat (first | exact List.Mem.head _ | apply List.Mem.tail)) rfl hal) (fun _ h => h.subD) ?_
                  refine D.q 6 rfl (by kernel_rfl) (by kernel_rfl) (q_ldEN (xs := p.x.msgs) (enc := Msg.cells) ck_24 rfl isF (by repeat (first | exact List.Mem.head _ | apply List.Mem.tail)) hget) (fun _ h => h.subD) ?_
                  refine D.q 7 rfl (by kernel_rfl) (by kernel_rfl) (q_loadN ck_24 rfl rfl (by first | (apply cells_pv; (repeat (first | exact List.Mem.head _ | apply List.Mem.tail))) | (apply cells_fv; (repeat (first | exact List.Mem.head _ | apply List.Mem.tail))))) (fun _ h => h.subD) ?_
                  refine D.q 8 rfl (by kernel_rfl) (by kernel_rfl) (q_recNG Try.underlying24 msg_hp msg_hg rfl rfl (msg_eqD _ _ Try.underlying24)) (fun _ h => h.subD) ?_
                  refine D.q 9 rfl (by kernel_rfl) (by kernel_rfl) (q_pickF rfl rfl) (fun _ h => h.subD) ?_
                  refine D.done (by kernel_rfl) ?_
                  refine K.dcond (s := 113) rfl (fun g113 => ?_) (fun g113 => ?_)
                  · exact absurd rfl g113
                  · refine K.skip <| K.inBlock ?_
                    refine K.region ?_
                    refine KO.q rfl (q_move rfl) ?_
                    refine KO.q rfl (q_add rfl rfl (by first | omega | (simp; omega)) (by first | omega | (simp; omega))) ?_
                    refine KO.q rfl (q_assign rfl) ?_
                    refine KO.done ?_
                    exact K.weak (by repeat (first | exact Env.sub_nil _ | refine Env.sub_cons rfl ?_)) (fun w h => h.fitD) (ih2 ⟨k + 1, by omega⟩ (by show o.x.msgs.length - (k + 1) < o.x.msgs.length - k; omega))
              · have hmc : ¬ m.claimed = true := by simpa using g84
                obtain ⟨a, ha, hget⟩ := w3 hmc
                rw [← hpx] at ha hget
                refine K.skip <| K.seq ?_
                refine K.region ?_
                refine KO.q rfl (q_move rfl) ?_
                refine KO.q rfl (q_field fo_24_0 rfl) ?_
                refine KO.q rfl (q_load1D ck_3 rfl) ?_
                refine KO.loud rfl (OpL.callD rfl (h := ref_FindMsg p.z.q2 p.z.c2 p.x.msgs m.id (by omega))) ?_
                rintro _ _ ⟨_, ⟨rfl, rfl⟩, rfl⟩
                refine KO.q rfl (q_assign rfl) ?_
                refine KO.done ?_
                refine K.seq ?_
                have ha : idxP (fun x : Msg => decide (x.id = m.id)) _ = (a : Int) := ha
                rw [ha]
                have hal := (List.getElem?_eq_some_iff.1 hget).1
                refine K.drawU (by repeat (first | apply SubL.pers | apply SubL.own (b := b9) | apply SubL.drop | exact SubL.none)) mixed ?_
                refine D.q 0 rfl (by kernel_rfl) (by kernel_rfl) (q_move rfl) (fun _ h => h.subD) ?_
                refine D.q 1 rfl (by kernel_rfl) (by kernel_rfl) (q_is (q_lt rfl rfl) (congrArg Value.bool (decide_eq_false (by omega)))) (fun _ h => h.subD) ?_
                refine D.q 2 rfl (by kernel_rfl) (by kernel_rfl) (q_move rfl) (fun _ h => h.subD) ?_
                refine D.q 3 rfl (by kernel_rfl) (by kernel_rfl) (q_move rfl) (fun _ h => h.subD) ?_
                refine D.q 4 rfl (by kernel_rfl) (by kernel_rfl) (q_move rfl) (fun _ h => h.subD) ?_
                refine D.q 5 rfl (by kernel_rfl) (by kernel_rfl) (q_ix (xs := p.x.msgs) a se_25 rfl rfl rfl isF (by repeat (first | exact List.Mem.head _ | apply List.Mem.tail)) rfl hal) (fun _ h => h.subD) ?_
                refine D.q 6 rfl (by kernel_rfl) (by kernel_rfl) (q_ldEN (xs := p.x.msgs) (enc := Msg.cells) ck_24 rfl isF (by repeat (first | exact List.Mem.head _ | apply List.Mem.tail)) hget) (fun _ h => h.subD) ?_
                refine D.q 7 rfl (by kernel_rfl) (by kernel_rfl) (q_loadN ck_24 rfl rfl (by first | (apply cells_pv; (repeat (first | exact List.Mem.head _ | apply List.Mem.tail))) | (apply cells_fv; (repeat (first | exact List.Mem.head _ | apply List.Mem.tail))))) (fun _ h => h.subD) ?_
                refine D.q 8 rfl (by kernel_rfl) (by kernel_rfl) (q_recNG Try.underlying24 msg_hp msg_hg rfl rfl (msg_eqD _ _ Try.underlying24)) (fun _ h => h.subD) ?_
                refine D.q 9 rfl (by kernel_rfl) (by kernel_rfl) (q_pickF rfl rfl) (fun _ h => h.subD) ?_
                refine D.done (by kernel_rfl) ?_
                refine K.dcond (s := 113) rfl (fun g113 => ?_) (fun g113 => ?_)
                · exact absurd rfl g113
                · refine K.skip <| K.inBlock ?_
                  refine K.region ?_
                  refine KO.q rfl (q_move rfl) ?_
                  refine KO.q rfl (q_add rfl rfl (by first | omega | (simp; omega)) (by first | omega | (simp; omega))) ?_
                  refine KO.q rfl (q_assign rfl) ?_
                  refine KO.done ?_
                  exact K.weak (by repeat (first | exact Env.sub_nil _ | refine Env.sub_cons rfl ?_)) (fun w h => h.fitD) (ih2 ⟨k + 1, by omega⟩ (by show o.x.msgs.length - (k + 1) < o.x.msgs.length - k; omega))
            · clear ih2
              have hfl := freedO_len o.x
              rw [← hpx] at hfl
              have hp2 := hpl.2.2.1
              have hp3 := hpl.2.2.2
              have ho2 := hol.2.2.1
              have ho3 := hol.2.2.2
              refine K.exit rfl ?_
              refine K.seq ?_
              refine K.drawS [pv b4 33 s'.cells, pv b7 28 o.cells, RowF Kd.oz s'.q s'.l] (fun _ h => h.subD) mixed ?_
              refine D.q 0 rfl (by kernel_rfl) (by kernel_rfl) (q_field fo_33_1 rfl) (fun _ h => h.subD) ?_
              refine D.q 1 rfl (by kernel_rfl) (by kernel_rfl) (q_load1D ck_31 rfl) (fun _ h => h.subD) ?_
              refine D.q 2 rfl (by kernel_rfl) (by kernel_rfl) (q_move rfl) (fun _ h => h.subD) ?_
              refine D.q 3 rfl (by kernel_rfl) (by kernel_rfl) (q_ix (xs := s'.l) i se_31 rfl rfl rfl isF (by repeat (first | exact List.Mem.head _ | apply List.Mem.tail)) rfl (by omega)) (fun _ h => h.subD) ?_
              refine D.q 4 rfl (by kernel_rfl) (by kernel_rfl) (q_fieldE fo_28_4 rfl) (fun _ h => h.subD) ?_
              refine D.q 5 rfl (by kernel_rfl) (by kernel_rfl) (q_ldE (xs := s'.l) ck_25 rfl isF (by repeat (first | exact List.Mem.head _ | apply List.Mem.tail)) hp rfl) (fun _ h => h.subD) ?_
              refine D.q 6 rfl (by kernel_rfl) (by kernel_rfl) (q_len Try.underlying25 rfl) (fun _ h => h.subD) ?_
              refine D.q 7 rfl (by kernel_rfl) (by kernel_rfl) (q_field fo_33_1 rfl) (fun _ h => h.subD) ?_
              refine D.q 8 rfl (by kernel_rfl) (by kernel_rfl) (q_load1D ck_31 rfl) (fun _ h => h.subD) ?_
              refine D.q 9 rfl (by kernel_rfl) (by kernel_rfl) (q_move rfl) (fun _ h => h.subD) ?_
              refine D.q 10 rfl (by kernel_rfl) (by kernel_rfl) (q_ix (xs := s'.l) i se_31 rfl rfl rfl isF (by repeat (first | exact List.Mem.head _ | apply List.Mem.tail)) rfl (by omega)) (fun _ h => h.subD) ?_
              refine D.q 11 rfl (by kernel_rfl) (by kernel_rfl) (q_fieldE fo_28_5 rfl) (fun _ h => h.subD) ?_
              refine D.q 12 rfl (by kernel_rfl) (by kernel_rfl) (q_ldE (xs := s'.l) ck_25 rfl isF (by repeat (first | exact List.Mem.head _ | apply List.Mem.tail)) hp rfl) (fun _ h => h.subD) ?_
              refine D.q 13 rfl (by kernel_rfl) (by kernel_rfl) (q_len Try.underlying25 rfl) (fun _ h => h.subD) ?_
              refine D.q 14 rfl (by kernel_rfl) (by kernel_rfl) (q_add rfl rfl (by first | omega | (simp; omega)) (by first | omega | (simp; omega))) (fun _ h => h.subD) ?_
              refine D.q 15 rfl (by kernel_rfl) (by kernel_rfl) (q_field fo_28_4 rfl) (fun _ h => h.subD) ?_
              refine D.q 16 rfl (by kernel_rfl) (by kernel_rfl) (q_load1D ck_25 rfl) (fun _ h => h.subD) ?_
              refine D.q 17 rfl (by kernel_rfl) (by kernel_rfl) (q_len Try.underlying25 rfl) (fun _ h => h.subD) ?_
              refine D.q 18 rfl (by kernel_rfl) (by kernel_rfl) (q_field fo_28_5 rfl) (fun _ h => h.subD) ?_
              refine D.q 19 rfl (by kernel_rfl) (by kernel_rfl) (q_load1D ck_25 rfl) (fun _ h => h.subD) ?_
              refine D.q 20 rfl (by kernel_rfl) (by kernel_rfl) (q_len Try.underlying25 rfl) (fun _ h => h.subD) ?_
              refine D.q 21 rfl (by kernel_rfl) (by kernel_rfl) (q_add rfl rfl (by first | omega | (simp; omega)) (by first | omega | (simp; omega))) (fun _ h => h.subD) ?_
              refine D.q 22 rfl (by kernel_rfl) (by kernel_rfl) (q_neF rfl rfl (by omega)) (fun _ h => h.subD) ?_
              refine D.done (by kernel_rfl) ?_
              refine K.no rfl ?_
              refine K.skip <| K.inBlock ?_
              refine K.region ?_
              refine KO.q rfl (q_move rfl) ?_
              refine KO.q rfl (q_add rfl rfl (by first | omega | (simp; omega)) (by first | omega | (simp; omega))) ?_
              refine KO.q rfl (q_assign rfl) ?_
              refine KO.done ?_
              exact K.weak (by repeat (first | exact Env.sub_nil _ | refine Env.sub_cons rfl ?_)) (fun w h => h.fitD) (ih ⟨i + 1, by omega⟩ (by show s.l.length - (i + 1) < s.l.length - i; omega))
          · clear ih
            refine K.exit rfl ?_
            refine K.seq ?_
            refine K.region ?_
            refine KO.q rfl (q_assign rfl) ?_
            refine KO.done ?_
            refine K.ret (fn := Try.f5) Try.func5 (fun a w hk hs => res1 Try.results5 hk rfl) (fun w hs => ?_)
            exact ⟨_, [], rfl, ⟨rfl, rfl⟩, hs.fitD⟩
      · rintro _ _ ⟨b4, rfl, rfl⟩
        refine D.all (rs := [2]) (by kernel_rfl) rfl (DAll.cons rfl (by kernel_rfl) (OpL.callD rfl (h := st_Claims s 200 hgood (by omega) (by decide))) (.inr (by rintro _ _ ⟨_, ⟨pc, cc, rfl, rfl⟩, rfl⟩ w h; exact h.subD)) rfl ?_ DAll.nil)
        rintro _ _ ⟨_, ⟨pc, cc, rfl, rfl⟩, rfl⟩
        refine D.all (rs := [3]) (by kernel_rfl) rfl (DAll.cons rfl (by kernel_rfl) (OpL.callD rfl (h := st_Apply (RowO Kd.eff 35 pc cc (claimsS s.st)) s 200 pc cc (claimsS s.st) isO hgood (by omega))) (.inl (by kernel_rfl)) rfl ?_ DAll.nil)
        rintro _ _ ⟨_, ⟨s', rfl, hs1, rfl, hs2⟩, rfl⟩
        rw [hap] at hs1
        rw [hap]
        refine D.q 4 rfl (by kernel_rfl) (by kernel_rfl) (q_move rfl) (fun _ h => h.subD) ?_
        refine D.q 5 rfl (by kernel_rfl) (by kernel_rfl) (q_extract rfl rfl) (fun _ h => h.subD) ?_
        refine D.q 6 rfl (by kernel_rfl) (by kernel_rfl) (q_extract rfl rfl) (fun _ h => h.subD) ?_
        refine D.all (rs := [8]) (by kernel_rfl) rfl (DAll.consN rfl (by kernel_rfl) (l_storeAll ck_33 rfl rfl ⟨rfl, rfl⟩ (sz_one _) (by repeat (first | exact Pick.here | apply Pick.there))) (.inr (by rintro _ _ ⟨rfl, rfl⟩ w h; exact h.subD)) rfl ?_ DAll.nil)
        rintro _ _ ⟨rfl, rfl⟩
        refine D.q 9 rfl (by kernel_rfl) (by kernel_rfl) (q_assign rfl) (fun _ h => h.subD) ?_
        refine D.done (by kernel_rfl) ?_
        refine K.seq <| K.seq ?_
        have hl' : s'.l.map (·.x) = (s.l.map (·.x)).map freedO := congrArg Stt.objs hs1
        have hlen : s'.l.length = s.l.length := by
          have := congrArg List.length hl'
          simpa only [List.length_map] using this
        have hcn : claimsS s'.st = [] := by rw [hs1]; exact claims_none s.st
        refine K.region ?_
        refine KO.q rfl (q_move rfl) ?_
        refine KO.loud rfl (OpL.callD rfl (h := l19_num _)) ?_
        rintro _ _ ⟨_, ⟨rfl, rfl⟩, rfl⟩
        refine KO.q rfl (q_neF rfl rfl (rfl)) ?_
        refine KO.q rfl (q_move rfl) ?_
        refine KO.q rfl (q_field fo_33_1 rfl) ?_
        refine KO.q rfl (q_load1D ck_31 rfl) ?_
        refine KO.q rfl (q_len Try.underlying31 rfl) ?_
        refine KO.q rfl (q_field fo_33_1 rfl) ?_
        refine KO.q rfl (q_load1D ck_31 rfl) ?_
        refine KO.q rfl (q_len Try.underlying31 rfl) ?_
        refine KO.q rfl (q_neF rfl rfl (by rw [hlen])) ?_
        refine KO.q rfl (q_pickF rfl rfl) ?_
        refine KO.q rfl (q_move rfl) ?_
        refine KO.q rfl (q_loadN ck_33 rfl rfl (by first | (apply cells_pv; (repeat (first | exact List.Mem.head _ | apply List.Mem.tail))) | (apply cells_fv; (repeat (first | exact List.Mem.head _ | apply List.Mem.tail))))) ?_
        refine KO.loud rfl (OpL.callD rfl (h := st_Claims s' (200 + (claimsS s.st).length) hs2 (by rw [hcn]; decide) (by omega))) ?_
        rintro _ _ ⟨_, ⟨pd, cd, rfl, rfl⟩, rfl⟩
        refine KO.q rfl (q_len Try.underlying36 rfl) ?_
        refine KO.q rfl (q_neF rfl rfl (by rw [hcn]; rfl)) ?_
        refine KO.q rfl (q_pickF rfl rfl) ?_
        refine KO.done ?_
        refine K.no rfl ?_
        refine K.skip <| K.seq <| K.seq ?_
        refine K.region ?_
        refine KO.q rfl (q_assign rfl) ?_
        refine KO.done ?_
        refine K.block ?_
        refine K.rounds2 (ι := { i : Nat // i ≤ s.l.length }) (fun x => [(6, .int .i64 x.1), (1, .pointer (some ⟨b1, 0, none⟩)), (4, .pointer (some ⟨b4, 0, none⟩))]) (fun x => [pv b1 33 s.cells, pv b4 33 s'.cells, RowF Kd.oz s.q s.l, NestF s.l, RowF Kd.oz s'.q s'.l, NestF s'.l] ++ L) (fun x => s.l.length - x.1) ⟨0, Nat.zero_le _⟩ (by repeat (first | exact Env.sub_nil _ | refine Env.sub_cons rfl ?_)) (fun w h => h.fitD) (fun x ih => ?_)
        obtain ⟨i, hi⟩ := x
        dsimp only at hi ⊢
        refine K.seq <| K.seq ?_
        refine K.region ?_
        refine KO.q rfl (q_move rfl) ?_
        refine KO.q rfl (q_field fo_33_1 rfl) ?_
        refine KO.q rfl (q_load1D ck_31 rfl) ?_
        refine KO.q rfl (q_len Try.underlying31 rfl) ?_
        refine KO.q rfl (q_lt rfl rfl) ?_
        refine KO.done ?_
        refine K.dcond (s := 57) rfl (fun g57 => ?_) (fun g57 => ?_)
        · obtain ⟨o, ho⟩ : ∃ o, s.l[i]? = some o := ⟨_, List.getElem?_eq_getElem (by omega)⟩
          have hmo := List.mem_of_getElem? ho
          obtain ⟨p, hp, hpx⟩ : ∃ p, s'.l[i]? = some p ∧ p.x = freedO o.x := by
            refine ⟨_, List.getElem?_eq_getElem (by omega), ?_⟩
            have := congrArg (fun z => z[i]?) hl'
            simp only [List.getElem?_map, ho, Option.map_some] at this
            rw [List.getElem?_eq_getElem (by omega)] at this
            exact Option.some.inj this
          have hmp := List.mem_of_getElem? hp
          have hol := hgood.sm.oz hmo
          have hpl := hs2.sm.oz hmp
          have hmb := hol.2.2.1
          have hom : o.x ∈ s.st.objs := List.mem_map_of_mem hmo
          refine K.st (fun w h => nestF_at (l := s.l) (by repeat (first | exact List.Mem.head _ | apply List.Mem.tail)) hmo h) ?_
          refine K.st (fun w h => nestF_at (l := s'.l) (by repeat (first | exact List.Mem.head _ | apply List.Mem.tail)) hmp h) ?_
          refine K.skip <| K.seq <| K.block <| K.seq ?_
          refine K.region ?_
          refine KO.q rfl (q_field fo_33_1 rfl) ?_
          refine KO.q rfl (q_load1D ck_31 rfl) ?_
          refine KO.q rfl (q_move rfl) ?_
          refine KO.q rfl (q_ix (xs := s.l) i se_31 rfl rfl rfl isF (by repeat (first | exact List.Mem.head _ | apply List.Mem.tail)) rfl (by omega)) ?_
          refine KO.q rfl (q_ldEN (xs := s.l) (enc := Oz.cells) ck_28 rfl isF (by repeat (first | exact List.Mem.head _ | apply List.Mem.tail)) ho) ?_
          refine KO.loud rfl (l_alloc zo_28) ?_
          rintro _ _ ⟨b7, rfl, rfl⟩
          refine KO.loudN rfl (l_storeAll ck_28 rfl rfl ⟨rfl, rfl⟩ (oz_one _) (by repeat (first | exact Pick.here | apply Pick.there))) ?_
          rintro _ _ ⟨rfl, rfl⟩
          refine KO.done ?_
          refine K.seq <| K.seq ?_
          refine K.region ?_
          refine KO.q rfl (q_assign rfl) ?_
          refine KO.done ?_
          refine K.block ?_
          refine K.rounds2 (ι := { k : Nat // k ≤ o.x.msgs.length }) (fun x => [(8, .int .i64 x.1), (7, .pointer (some ⟨b7, 0, none⟩)), (6, .int .i64 i), (1, .pointer (some ⟨b1, 0, none⟩)), (4, .pointer (some ⟨b4, 0, none⟩))]) (fun x => [pv b1 33 s.cells, pv b4 33 s'.cells, pv b7 28 o.cells, RowF Kd.oz s.q s.l, NestF s.l, RowF Kd.oz s'.q s'.l, NestF s'.l] ++ ObL o ++ ObL p ++ L) (fun x => o.x.msgs.length - x.1) ⟨0, Nat.zero_le _⟩ (by repeat (first | exact Env.sub_nil _ | refine Env.sub_cons rfl ?_)) (fun w h => h.fitD) (fun x ih2 => ?_)
          obtain ⟨k, hk⟩ := x
          dsimp only at hk ⊢
          refine K.seq <| K.seq ?_
          refine K.region ?_
          refine KO.q rfl (q_move rfl) ?_
          refine KO.q rfl (q_field fo_28_4 rfl) ?_
          refine KO.q rfl (q_load1D ck_25 rfl) ?_
          refine KO.q rfl (q_len Try.underlying25 rfl) ?_
          refine KO.q rfl (q_lt rfl rfl) ?_
          refine KO.done ?_
          refine K.dcond (s := 69) rfl (fun g69 => ?_) (fun g69 => ?_)
          · obtain ⟨m, hm⟩ : ∃ m, o.x.msgs[k]? = some m := ⟨_, List.getElem?_eq_getElem (by omega)⟩
            have hmm := List.mem_of_getElem? hm
            obtain ⟨w1, w2, w3⟩ := freed_where hSR hom hmm
            have hm0 := (hol.1.2.2.2.2.1 m hmm).2.2.1.1
            have hpm : p.x.msgs.length ≤ 9223372036854775807 := by have := hpl.2.2.1; omega
            have hpd : p.x.dead.length ≤ 9223372036854775807 := by have := hpl.2.2.2; omega
            refine K.skip <| K.seq <| K.block <| K.seq ?_
            refine K.region ?_
            refine KO.q rfl (q_field fo_28_4 rfl) ?_
            refine KO.q rfl (q_load1D ck_25 rfl) ?_
            refine KO.q rfl (q_move rfl) ?_
            refine KO.q rfl (q_ix (xs := o.x.msgs) k se_25 rfl rfl rfl isF (by repeat (first | exact List.Mem.head _ | apply List.Mem.tail)) rfl (by omega)) ?_
            refine KO.q rfl (q_ldEN (xs := o.x.msgs) (enc := Msg.cells) ck_24 rfl isF (by repeat (first | exact List.Mem.head _ | apply List.Mem.tail)) hm) ?_
            refine KO.loud rfl (l_alloc zo_24) ?_
            rintro _ _ ⟨b9, rfl, rfl⟩
            refine KO.loudN rfl (l_storeAll ck_24 rfl rfl ⟨rfl, rfl⟩ (msg_one _) (by repeat (first | exact Pick.here | apply Pick.there))) ?_
            rintro _ _ ⟨rfl, rfl⟩
            refine KO.done ?_
            refine K.seq ?_
            refine K.region ?_
            refine KO.q rfl (q_field fo_33_1 rfl) ?_
            refine KO.q rfl (q_load1D ck_31 rfl) ?_
            refine KO.q rfl (q_move rfl) ?_
            refine KO.q rfl (q_ix (xs := s'.l) i se_31 rfl rfl rfl isF (by repeat (first | exact List.Mem.head _ | apply List.Mem.tail)) rfl (by omega)) ?_
            refine KO.q rfl (q_fieldE fo_28_4 rfl) ?_
            refine KO.q rfl (q_ldE (xs := s'.l) ck_25 rfl isF (by repeat (first | exact List.Mem.head _ | apply List.Mem.tail)) hp rfl) ?_
            refine KO.q rfl (q_assign rfl) ?_
            refine KO.done ?_
            refine K.seq <| K.seq ?_
            refine K.region ?_
            refine KO.q rfl (q_field fo_24_3 rfl) ?_
            refine KO.q rfl (q_load1D ck_4 rfl) ?_
            refine KO.done ?_
            first | refine K.dcond (s := 84) rfl (fun g84 => ?_) (fun g84 => ?_) | refine K.bcond (s := 84) rfl (fun g84 => ?_) (fun g84 => ?_)
            · have hmc : m.claimed = true := by simpa using g84
              refine K.seq ?_
              refine K.region ?_
              refine KO.q rfl (q_loadN ck_24 rfl rfl (by first | (apply cells_pv; (repeat (first | exact List.Mem.head _ | apply List.Mem.tail))) | (apply cells_fv; (repeat (first | exact List.Mem.head _ | apply List.Mem.tail))))) ?_
              refine KO.q rfl (q_field fo_28_2 rfl) ?_
              refine KO.q rfl (q_load1D ck_3 rfl) ?_
              refine KO.loud rfl (OpL.callD rfl (h := ref_Tried m o.x.limit hm0)) ?_
              rintro _ _ ⟨_, ⟨rfl, rfl⟩, rfl⟩
              refine KO.q rfl (q_move rfl) ?_
              refine KO.q rfl (q_extract rfl rfl) ?_
              refine KO.q rfl (q_extract rfl rfl) ?_
              refine KO.loud rfl (l_alloc zo_24) ?_
              rintro _ _ ⟨b11, rfl, rfl⟩
              refine KO.loudN rfl (l_storeAll ck_24 rfl rfl ⟨rfl, rfl⟩ (msg_one _) (by repeat (first | exact Pick.here | apply Pick.there))) ?_
              rintro _ _ ⟨rfl, rfl⟩
              refine KO.q rfl (q_assign rfl) ?_
              refine KO.done ?_
              refine K.seq <| K.seq ?_
              refine K.region ?_
              refine KO.q rfl (q_move rfl) ?_
              refine KO.done ?_
              first | refine K.dcond (s := 92) rfl (fun g92 => ?_) (fun g92 => ?_) | refine K.bcond (s := 92) rfl (fun g92 => ?_) (fun g92 => ?_)
              · obtain ⟨a, ha, hget⟩ := w1 hmc g92
                rw [← hpx] at ha hget
                refine K.region ?_
                refine KO.q rfl (q_field fo_33_1 rfl) ?_
                refine KO.q rfl (q_load1D ck_31 rfl) ?_
                refine KO.q rfl (q_move rfl) ?_
                refine KO.q rfl (q_ix (xs := s'.l) i se_31 rfl rfl rfl isF (by repeat (first | exact List.Mem.head _ | apply List.Mem.tail)) rfl (by omega)) ?_
                refine KO.q rfl (q_fieldE fo_28_5 rfl) ?_
                refine KO.q rfl (q_ldE (xs := s'.l) ck_25 rfl isF (by repeat (first | exact List.Mem.head _ | apply List.Mem.tail)) hp rfl) ?_
                refine KO.q rfl (q_assign rfl) ?_
                refine KO.done ?_
                refine K.region ?_
                refine KO.q rfl (q_loadN ck_24 rfl rfl (by first | (apply cells_pv; (repeat (first | exact List.Mem.head _ | apply List.Mem.tail))) | (apply cells_fv; (repeat (first | exact List.Mem.head _ | apply List.Mem.tail))))) ?_
                refine KO.loudN rfl (l_storeAll ck_24 rfl rfl ⟨rfl, rfl⟩ (msg_one _) (by repeat (first | exact Pick.here | apply Pick.there))) ?_
                rintro _ _ ⟨rfl, rfl⟩
                refine KO.done ?_
                refine K.seq ?_
                refine K.region ?_
                refine KO.q rfl (q_move rfl) ?_
                refine KO.q rfl (q_field fo_24_0 rfl) ?_
                refine KO.q rfl (q_load1D ck_3 rfl) ?_
                refine KO.loud rfl (OpL.callD rfl (h := ref_FindMsg p.z.q3 p.z.c3 p.x.dead m.id (by omega))) ?_
                rintro _ _ ⟨_, ⟨rfl, rfl⟩, rfl⟩
                refine KO.q rfl (q_assign rfl) ?_
                refine KO.done ?_
                refine K.seq ?_
                have ha : idxP (fun x : Msg => decide (x.id = m.id)) _ = (a : Int) := ha
                rw [ha]
                have hal := (List.getElem?_eq_some_iff.1 hget).1
                refine K.drawU (by repeat (first | apply SubL.pers | apply SubL.own (b := b9) | apply SubL.drop | exact SubL.none)) mixed ?_
                refine D.q 0 rfl (by kernel_rfl) (by kernel_rfl) (q_move rfl) (fun _ h => h.subD) ?_
                refine D.q 1 rfl (by kernel_rfl) (by kernel_rfl) (q_is (q_lt rfl rfl) (congrArg Value.bool (decide_eq_false (by omega)))) (fun _ h => h.subD) ?_
                refine D.q 2 rfl (by kernel_rfl) (by kernel_rfl) (q_move rfl) (fun _ h => h.subD) ?_
                refine D.q 3 rfl (by kernel_rfl) (by kernel_rfl) (q_move rfl) (fun _ h => h.subD) ?_
                refine D.q 4 rfl (by kernel_rfl) (by kernel_rfl) (q_move rfl) (fun _ h => h.subD) ?_
                refine D.q 5 rfl (by kernel_rfl) (by kernel_rfl) (q_ix (xs := p.x.dead) a se_25 rfl rfl rfl isF (by repeat (first | exact List.Mem.head _ | apply List.Mem.tail)) rfl hal) (fun _ h => h.subD) ?_
                refine D.q 6 rfl (by kernel_rfl) (by kernel_rfl) (q_ldEN (xs := p.x.dead) (enc := Msg.cells) ck_24 rfl isF (by repeat (first | exact List.Mem.head _ | apply List.Mem.tail)) hget) (fun _ h => h.subD) ?_
                refine D.q 7 rfl (by kernel_rfl) (by kernel_rfl) (q_loadN ck_24 rfl rfl (by first | (apply cells_pv; (repeat (first | exact List.Mem.head _ | apply List.Mem.tail))) | (apply cells_fv; (repeat (first | exact List.Mem.head _ | apply List.Mem.tail))))) (fun _ h => h.subD) ?_
                refine D.q 8 rfl (by kernel_rfl) (by kernel_rfl) (q_recNG Try.underlying24 msg_hp msg_hg rfl rfl (msg_eqD _ _ Try.underlying24)) (fun _ h => h.subD) ?_
                refine D.q 9 rfl (by kernel_rfl) (by kernel_rfl) (q_pickF rfl rfl) (fun _ h => h.subD) ?_
                refine D.done (by kernel_rfl) ?_
                refine K.dcond (s := 113) rfl (fun g113 => ?_) (fun g113 => ?_)
                · exact absurd rfl g113
                · refine K.skip <| K.inBlock ?_
                  refine K.region ?_
                  refine KO.q rfl (q_move rfl) ?_
                  refine KO.q rfl (q_add rfl rfl (by first | omega | (simp; omega)) (by first | omega | (simp; omega))) ?_
                  refine KO.q rfl (q_assign rfl) ?_
                  refine KO.done ?_
                  exact K.weak (by repeat (first | exact Env.sub_nil _ | refine Env.sub_cons rfl ?_)) (fun w h => h.fitD) (ih2 ⟨k + 1, by omega⟩ (by show o.x.msgs.length - (k + 1) < o.x.msgs.length - k; omega))
              · obtain ⟨a, ha, hget⟩ := w2 hmc g92
                rw [← hpx] at ha hget
                refine K.skip ?_
                refine K.region ?_
                refine KO.q rfl (q_loadN ck_24 rfl rfl (by first | (apply cells_pv; (repeat (first | exact List.Mem.head _ | apply List.Mem.tail))) | (apply cells_fv; (repeat (first | exact List.Mem.head _ | apply List.Mem.tail))))) ?_
                refine KO.loudN rfl (l_storeAll ck_24 rfl rfl ⟨rfl, rfl⟩ (msg_one _) (by repeat (first | exact Pick.here | apply Pick.there))) ?_
                rintro _ _ ⟨rfl, rfl⟩
                refine KO.done ?_
                refine K.seq ?_
                refine K.region ?_
                refine KO.q rfl (q_move rfl) ?_
                refine KO.q rfl (q_field fo_24_0 rfl) ?_
                refine KO.q rfl (q_load1D ck_3 rfl) ?_
                refine KO.loud rfl (OpL.callD rfl (h := ref_FindMsg p.z.q2 p.z.c2 p.x.msgs m.id (by omega))) ?_
                rintro _ _ ⟨_, ⟨rfl, rfl⟩, rfl⟩
                refine KO.q rfl (q_assign rfl) ?_
                refine KO.done ?_
                refine K.seq ?_
                have ha : idxP (fun x : Msg => decide (x.id = m.id)) _ = (a : Int) := ha
                rw [ha]
                have hal := (List.getElem?_eq_some_iff.1 hget).1
                refine K.drawU (by repeat (first | apply SubL.pers | apply SubL.own (b := b9) | apply SubL.drop | exact SubL.none)) mixed ?_
                refine D.q 0 rfl (by kernel_rfl) (by kernel_rfl) (q_move rfl) (fun _ h => h.subD) ?_
                refine D.q 1 rfl (by kernel_rfl) (by kernel_rfl) (q_is (q_lt rfl rfl) (congrArg Value.bool (decide_eq_false (by omega)))) (fun _ h => h.subD) ?_
                refine D.q 2 rfl (by kernel_rfl) (by kernel_rfl) (q_move rfl) (fun _ h => h.subD) ?_
                refine D.q 3 rfl (by kernel_rfl) (by kernel_rfl) (q_move rfl) (fun _ h => h.subD) ?_
                refine D.q 4 rfl (by kernel_rfl) (by kernel_rfl) (q_move rfl) (fun _ h => h.subD) ?_
                refine D.q 5 rfl (by kernel_rfl) (by kernel_rfl) (q_ix (xs := p.x.msgs) a se_25 rfl rfl rfl isF (by repeat (first | exact List.Mem.head _ | apply List.Mem.tail)) rfl hal) (fun _ h => h.subD) ?_
                refine D.q 6 rfl (by kernel_rfl) (by kernel_rfl) (q_ldEN (xs := p.x.msgs) (enc := Msg.cells) ck_24 rfl isF (by repeat (first | exact List.Mem.head _ | apply List.Mem.tail)) hget) (fun _ h => h.subD) ?_
                refine D.q 7 rfl (by kernel_rfl) (by kernel_rfl) (q_loadN ck_24 rfl rfl (by first | (apply cells_pv; (repeat (first | exact List.Mem.head _ | apply List.Mem.tail))) | (apply cells_fv; (repeat (first | exact List.Mem.head _ | apply List.Mem.tail))))) (fun _ h => h.subD) ?_
                refine D.q 8 rfl (by kernel_rfl) (by kernel_rfl) (q_recNG Try.underlying24 msg_hp msg_hg rfl rfl (msg_eqD _ _ Try.underlying24)) (fun _ h => h.subD) ?_
                refine D.q 9 rfl (by kernel_rfl) (by kernel_rfl) (q_pickF rfl rfl) (fun _ h => h.subD) ?_
                refine D.done (by kernel_rfl) ?_
                refine K.dcond (s := 113) rfl (fun g113 => ?_) (fun g113 => ?_)
                · exact absurd rfl g113
                · refine K.skip <| K.inBlock ?_
                  refine K.region ?_
                  refine KO.q rfl (q_move rfl) ?_
                  refine KO.q rfl (q_add rfl rfl (by first | omega | (simp; omega)) (by first | omega | (simp; omega))) ?_
                  refine KO.q rfl (q_assign rfl) ?_
                  refine KO.done ?_
                  exact K.weak (by repeat (first | exact Env.sub_nil _ | refine Env.sub_cons rfl ?_)) (fun w h => h.fitD) (ih2 ⟨k + 1, by omega⟩ (by show o.x.msgs.length - (k + 1) < o.x.msgs.length - k; omega))
            · have hmc : ¬ m.claimed = true := by simpa using g84
              obtain ⟨a, ha, hget⟩ := w3 hmc
              rw [← hpx] at ha hget
              refine K.skip <| K.seq ?_
              refine K.region ?_
              refine KO.q rfl (q_move rfl) ?_
              refine KO.q rfl (q_field fo_24_0 rfl) ?_
              refine KO.q rfl (q_load1D ck_3 rfl) ?_
              refine KO.loud rfl (OpL.callD rfl (h := ref_FindMsg p.z.q2 p.z.c2 p.x.msgs m.id (by omega))) ?_
              rintro _ _ ⟨_, ⟨rfl, rfl⟩, rfl⟩
              refine KO.q rfl (q_assign rfl) ?_
              refine KO.done ?_
              refine K.seq ?_
              have ha : idxP (fun x : Msg => decide (x.id = m.id)) _ = (a : Int) := ha
              rw [ha]
              have hal := (List.getElem?_eq_some_iff.1 hget).1
              refine K.drawU (by repeat (first | apply SubL.pers | apply SubL.own (b := b9) | apply SubL.drop | exact SubL.none)) mixed ?_
              refine D.q 0 rfl (by kernel_rfl) (by kernel_rfl) (q_move rfl) (fun _ h => h.subD) ?_
              refine D.q 1 rfl (by kernel_rfl) (by kernel_rfl) (q_is (q_lt rfl rfl) (congrArg Value.bool (decide_eq_false (by omega)))) (fun _ h => h.subD) ?_
              refine D.q 2 rfl (by kernel_rfl) (by kernel_rfl) (q_move rfl) (fun _ h => h.subD) ?_
              refine D.q 3 rfl (by kernel_rfl) (by kernel_rfl) (q_move rfl) (fun _ h => h.subD) ?_
              refine D.q 4 rfl (by kernel_rfl) (by kernel_rfl) (q_move rfl) (fun _ h => h.subD) ?_
              refine D.q 5 rfl (by kernel_rfl) (by kernel_rfl) (q_ix (xs := p.x.msgs) a se_25 rfl rfl rfl isF (by repeat (first | exact List.Mem.head _ | apply List.Mem.tail)) rfl hal) (fun _ h => h.subD) ?_
              refine D.q 6 rfl (by kernel_rfl) (by kernel_rfl) (q_ldEN (xs := p.x.msgs) (enc := Msg.cells) ck_24 rfl isF (by repeat (first | exact List.Mem.head _ | apply List.Mem.tail)) hget) (fun _ h => h.subD) ?_
              refine D.q 7 rfl (by kernel_rfl) (by kernel_rfl) (q_loadN ck_24 rfl rfl (by first | (apply cells_pv; (repeat (first | exact List.Mem.head _ | apply List.Mem.tail))) | (apply cells_fv; (repeat (first | exact List.Mem.head _ | apply List.Mem.tail))))) (fun _ h => h.subD) ?_
              refine D.q 8 rfl (by kernel_rfl) (by kernel_rfl) (q_recNG Try.underlying24 msg_hp msg_hg rfl rfl (msg_eqD _ _ Try.underlying24)) (fun _ h => h.subD) ?_
              refine D.q 9 rfl (by kernel_rfl) (by kernel_rfl) (q_pickF rfl rfl) (fun _ h => h.subD) ?_
              refine D.done (by kernel_rfl) ?_
              refine K.dcond (s := 113) rfl (fun g113 => ?_) (fun g113 => ?_)
              · exact absurd rfl g113
              · refine K.skip <| K.inBlock ?_
                refine K.region ?_
                refine KO.q rfl (q_move rfl) ?_
                refine KO.q rfl (q_add rfl rfl (by first | omega | (simp; omega)) (by first | omega | (simp; omega))) ?_
                refine KO.q rfl (q_assign rfl) ?_
                refine KO.done ?_
                exact K.weak (by repeat (first | exact Env.sub_nil _ | refine Env.sub_cons rfl ?_)) (fun w h => h.fitD) (ih2 ⟨k + 1, by omega⟩ (by show o.x.msgs.length - (k + 1) < o.x.msgs.length - k; omega))
          · clear ih2
            have hfl := freedO_len o.x
            rw [← hpx] at hfl
            have hp2 := hpl.2.2.1
            have hp3 := hpl.2.2.2
            have ho2 := hol.2.2.1
            have ho3 := hol.2.2.2
            refine K.exit rfl ?_
            refine K.seq ?_
            refine K.drawS [pv b4 33 s'.cells, pv b7 28 o.cells, RowF Kd.oz s'.q s'.l] (fun _ h => h.subD) mixed ?_
            refine D.q 0 rfl (by kernel_rfl) (by kernel_rfl) (q_field fo_33_1 rfl) (fun _ h => h.subD) ?_
            refine D.q 1 rfl (by kernel_rfl) (by kernel_rfl) (q_load1D ck_31 rfl) (fun _ h => h.subD) ?_
            refine D.q 2 rfl (by kernel_rfl) (by kernel_rfl) (q_move rfl) (fun _ h => h.subD) ?_
            refine D.q 3 rfl (by kernel_rfl) (by kernel_rfl) (q_ix (xs := s'.l) i se_31 rfl rfl rfl isF (by repeat (first | exact List.Mem.head _ | apply List.Mem.tail)) rfl (by omega)) (fun _ h => h.subD) ?_
            refine D.q 4 rfl (by kernel_rfl) (by kernel_rfl) (q_fieldE fo_28_4 rfl) (fun _ h => h.subD) ?_
            refine D.q 5 rfl (by kernel_rfl) (by kernel_rfl) (q_ldE (xs := s'.l) ck_25 rfl isF (by repeat (first | exact List.Mem.head _ | apply List.Mem.tail)) hp rfl) (fun _ h => h.subD) ?_
            refine D.q 6 rfl (by kernel_rfl) (by kernel_rfl) (q_len Try.underlying25 rfl) (fun _ h => h.subD) ?_
            refine D.q 7 rfl (by kernel_rfl) (by kernel_rfl) (q_field fo_33_1 rfl) (fun _ h => h.subD) ?_
            refine D.q 8 rfl (by kernel_rfl) (by kernel_rfl) (q_load1D ck_31 rfl) (fun _ h => h.subD) ?_
            refine D.q 9 rfl (by kernel_rfl) (by kernel_rfl) (q_move rfl) (fun _ h => h.subD) ?_
            refine D.q 10 rfl (by kernel_rfl) (by kernel_rfl) (q_ix (xs := s'.l) i se_31 rfl rfl rfl isF (by repeat (first | exact List.Mem.head _ | apply List.Mem.tail)) rfl (by omega)) (fun _ h => h.subD) ?_
            refine D.q 11 rfl (by kernel_rfl) (by kernel_rfl) (q_fieldE fo_28_5 rfl) (fun _ h => h.subD) ?_
            refine D.q 12 rfl (by kernel_rfl) (by kernel_rfl) (q_ldE (xs := s'.l) ck_25 rfl isF (by repeat (first | exact List.Mem.head _ | apply List.Mem.tail)) hp rfl) (fun _ h => h.subD) ?_
            refine D.q 13 rfl (by kernel_rfl) (by kernel_rfl) (q_len Try.underlying25 rfl) (fun _ h => h.subD) ?_
            refine D.q 14 rfl (by kernel_rfl) (by kernel_rfl) (q_add rfl rfl (by first | omega | (simp; omega)) (by first | omega | (simp; omega))) (fun _ h => h.subD) ?_
            refine D.q 15 rfl (by kernel_rfl) (by kernel_rfl) (q_field fo_28_4 rfl) (fun _ h => h.subD) ?_
            refine D.q 16 rfl (by kernel_rfl) (by kernel_rfl) (q_load1D ck_25 rfl) (fun _ h => h.subD) ?_
            refine D.q 17 rfl (by kernel_rfl) (by kernel_rfl) (q_len Try.underlying25 rfl) (fun _ h => h.subD) ?_
            refine D.q 18 rfl (by kernel_rfl) (by kernel_rfl) (q_field fo_28_5 rfl) (fun _ h => h.subD) ?_
            refine D.q 19 rfl (by kernel_rfl) (by kernel_rfl) (q_load1D ck_25 rfl) (fun _ h => h.subD) ?_
            refine D.q 20 rfl (by kernel_rfl) (by kernel_rfl) (q_len Try.underlying25 rfl) (fun _ h => h.subD) ?_
            refine D.q 21 rfl (by kernel_rfl) (by kernel_rfl) (q_add rfl rfl (by first | omega | (simp; omega)) (by first | omega | (simp; omega))) (fun _ h => h.subD) ?_
            refine D.q 22 rfl (by kernel_rfl) (by kernel_rfl) (q_neF rfl rfl (by omega)) (fun _ h => h.subD) ?_
            refine D.done (by kernel_rfl) ?_
            refine K.no rfl ?_
            refine K.skip <| K.inBlock ?_
            refine K.region ?_
            refine KO.q rfl (q_move rfl) ?_
            refine KO.q rfl (q_add rfl rfl (by first | omega | (simp; omega)) (by first | omega | (simp; omega))) ?_
            refine KO.q rfl (q_assign rfl) ?_
            refine KO.done ?_
            exact K.weak (by repeat (first | exact Env.sub_nil _ | refine Env.sub_cons rfl ?_)) (fun w h => h.fitD) (ih ⟨i + 1, by omega⟩ (by show s.l.length - (i + 1) < s.l.length - i; omega))
        · clear ih
          refine K.exit rfl ?_
          refine K.seq ?_
          refine K.region ?_
          refine KO.q rfl (q_assign rfl) ?_
          refine KO.done ?_
          refine K.ret (fn := Try.f5) Try.func5 (fun a w hk hs => res1 Try.results5 hk rfl) (fun w hs => ?_)
          exact ⟨_, [], rfl, ⟨rfl, rfl⟩, hs.fitD⟩
end Go.Proofs.Ythnmoiilaaoooaa.L
