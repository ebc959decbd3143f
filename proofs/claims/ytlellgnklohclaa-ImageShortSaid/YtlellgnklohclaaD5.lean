/- Walks: a state read. -/
import Derived.Test.YtlellgnklohclaaD4
namespace Go.Proofs.Ytlellgnklohclaa.L
open Go Go.Proofs
attribute [local irreducible] pv fv pt fz RowF RowO rowP old pure_ elA Rd.int Rd.text Rd.flag Rd.msg Rd.rint Rd.rtext Rd.rflag Rd.rmsg
set_option maxRecDepth 100000
set_option linter.unusedSimpArgs false
set_option linter.unusedVariables false
attribute [local irreducible] Rd.eff Rd.reff lsM objM

def Oz.caps (o : Oz) : Prop := o.x.rows.length ≤ o.z.c1 ∧ o.x.msgs.length ≤ o.z.c2 ∧ o.x.dead.length ≤ o.z.c3
abbrev RstF (c5 c4 p : Nat) (next : Int) (acc : List Ob) (z : Option Addr × Nat × { l : List Oz // l.map (·.x) = acc ∧ ∀ o ∈ l, o.caps }) : List HP := [pv c5 76 [.int .i64 next, .slice z.1 z.2.2.1.length z.2.1], pv c4 115 [.pointer (some ⟨p, 0, none⟩)], RowO Kd.oz 108 z.1 z.2.1 z.2.2.1, NestF z.2.2.1]
abbrev Rst (c5 c4 p : Nat) (next : Int) (acc : List Ob) : HP := HP.ex (RstF c5 c4 p next acc)
set_option maxHeartbeats 800000 in
theorem im_r1 (cA cB p rb : Nat) (next : Int) (q : Option Addr) (cap : Nat) (s : Rd) (wf : Bool) (acc : List Ob) (hc : s.bs.length ≤ cap) (hl : acc.length ≤ 10000000001) (hN : s.bs.length ≤ 10000000000) : Fn Try.prog 91 [.pointer (some ⟨cA, 0, none⟩), .pointer (some ⟨cB, 0, none⟩)].toArray (Rst cA cB p next acc :: IR p rb wf q cap s)
    (fun v post => ∃ q' cap', v = .tuple #[] ∧ post = Rst cA cB p next (acc ++ [(objM (s, wf)).1]) :: IR p rb (objM (s, wf)).2.2 q' cap' (objM (s, wf)).2.1 ∧ (objM (s, wf)).2.1.bs.length ≤ cap') := by
  refine Fn.enter (N := 9) Try.func91 rfl Try.ntmps91 (by kernel_rfl) rfl (fun ρ L => ?_)
  refine K.ex (fun w h => St.exP (by repeat (first | exact Pick.here | apply Pick.there)) h) (fun z => ?_)
  obtain ⟨z1, z2, l, hlm, hlc⟩ := z
  have hll : l.length ≤ 10000000001 := by rw [← hlm, List.length_map] at hl; exact hl
  dsimp only [List.cons_append, List.nil_append]
  refine K.drawS [pv cB 115 [.pointer (some ⟨p, 0, none⟩)]] (fun _ h => h.subD) mixed ?_
  refine D.q 0 rfl (by kernel_rfl) (by kernel_rfl) (q_field fo_76_1 rfl) (fun _ h => h.subD) ?_
  refine D.q 2 rfl (by kernel_rfl) (by kernel_rfl) (q_load1D ck_115 rfl) (fun _ h => h.subD) ?_
  refine D.all (rs := [1, 3]) (by kernel_rfl) rfl (DAll.cons rfl (by kernel_rfl) (OpQ.loud (q_load1D ck_74 rfl)) (.inr (by rintro _ _ ⟨rfl, rfl⟩ w h; exact h.subD)) rfl ?_ (DAll.cons rfl (by kernel_rfl) (OpL.callD rfl (h := im_object _ _ _ _ _ _ hc hN)) (.inr (by rintro _ _ ⟨_, ⟨zo, qx, cx, rfl, rfl, hcx, h1x, h2x, h3x⟩, rfl⟩ w h; exact h.subD)) rfl ?_ DAll.nil))
  · rintro _ _ ⟨rfl, rfl⟩
    refine D.all (rs := [3]) (by kernel_rfl) rfl (DAll.cons rfl (by kernel_rfl) (OpL.callD rfl (h := im_object _ _ _ _ _ _ hc hN)) (.inl (by kernel_rfl)) rfl ?_ DAll.nil)
    rintro _ _ ⟨_, ⟨zo, qx, cx, rfl, rfl, hcx, h1x, h2x, h3x⟩, rfl⟩
    refine D.all (rs := [4]) (by kernel_rfl) rfl (DAll.cons rfl (by kernel_rfl) (l_slice1 sz_74_1 rfl rfl ⟨rfl, rfl, rfl⟩) (.inl (by kernel_rfl)) rfl ?_ DAll.nil)
    rintro _ _ ⟨b6, rfl, rfl⟩
    refine D.all (rs := [5]) (by kernel_rfl) rfl (DAll.cons rfl (by kernel_rfl) (l_append Kd.oz se_74 Try.underlying74 ⟨_, ze_108, rfl⟩ (by decide) rfl rfl (by repeat (first | exact Pick.here | apply Pick.there)) isP (by repeat (first | exact List.Mem.head _ | apply List.Mem.tail)) rfl rfl (by first | omega | (simp; omega) | (simp; done))) (.inl (by kernel_rfl)) rfl ?_ DAll.nil)
    rintro _ _ ⟨px, capx, rfl, rfl⟩
    refine D.q 6 rfl (by kernel_rfl) (by kernel_rfl) (q_field fo_76_1 rfl) (fun _ h => h.subD) ?_
    refine D.all (rs := [7]) (by kernel_rfl) rfl (DAll.consN rfl (by kernel_rfl) (l_store1 ck_74 rfl rfl rfl (by repeat (first | exact Pick.here | apply Pick.there)) (by repeat (first | exact SetAt.here | apply SetAt.there))) (.inl (by kernel_rfl)) rfl ?_ DAll.nil)
    rintro _ _ ⟨rfl, rfl⟩
    refine D.done (by kernel_rfl) ?_
    refine K.st (fun w h => nestF_snoc (l := l) ⟨(objM (s, wf)).1, zo⟩ (by repeat (first | exact List.Mem.head _ | apply List.Mem.tail)) (by repeat (first | exact List.Mem.head _ | apply List.Mem.tail)) (by repeat (first | exact List.Mem.head _ | apply List.Mem.tail)) (by repeat (first | exact List.Mem.head _ | apply List.Mem.tail)) h) ?_
    refine K.fin (fn := Try.f91) Try.func91 (fun a w hk hs => res0 Try.results91) (fun w hs => ?_)
    exact ⟨_, Rst cA cB p next (acc ++ [(objM (s, wf)).1]) :: IR p rb (objM (s, wf)).2.2 qx cx (objM (s, wf)).2.1, rfl, ⟨qx, cx, rfl, rfl, hcx⟩, St.fitE (px, capx, ⟨l ++ [⟨(objM (s, wf)).1, zo⟩], by rw [List.map_append, hlm]; rfl, fun o ho => by
      rcases List.mem_append.1 ho with h | h
      · exact hlc o h
      · rw [List.mem_singleton.1 h]; exact ⟨h1x, h2x, h3x⟩⟩) hs (by repeat (first | exact Give.nil | (apply Give.perI; (repeat (first | exact List.Mem.head _ | apply List.Mem.tail))) | (apply Give.own; (repeat (first | exact Pick.here | apply Pick.there))))) (by repeat (first | exact Drop.refl | apply Drop.skip))⟩
  · rintro _ _ ⟨_, ⟨zo, qx, cx, rfl, rfl, hcx, h1x, h2x, h3x⟩, rfl⟩
    refine D.all (rs := [1, 4]) (by kernel_rfl) rfl (DAll.cons rfl (by kernel_rfl) (OpQ.loud (q_load1D ck_74 rfl)) (.inl (by kernel_rfl)) rfl ?_ (DAll.cons rfl (by kernel_rfl) (l_slice1 sz_74_1 rfl rfl ⟨rfl, rfl, rfl⟩) (.inr (by rintro _ _ ⟨b6, rfl, rfl⟩ w h; exact h.subD)) rfl ?_ DAll.nil))
    · rintro _ _ ⟨rfl, rfl⟩
      refine D.all (rs := [4]) (by kernel_rfl) rfl (DAll.cons rfl (by kernel_rfl) (l_slice1 sz_74_1 rfl rfl ⟨rfl, rfl, rfl⟩) (.inl (by kernel_rfl)) rfl ?_ DAll.nil)
      rintro _ _ ⟨b6, rfl, rfl⟩
      refine D.all (rs := [5]) (by kernel_rfl) rfl (DAll.cons rfl (by kernel_rfl) (l_append Kd.oz se_74 Try.underlying74 ⟨_, ze_108, rfl⟩ (by decide) rfl rfl (by repeat (first | exact Pick.here | apply Pick.there)) isP (by repeat (first | exact List.Mem.head _ | apply List.Mem.tail)) rfl rfl (by first | omega | (simp; omega) | (simp; done))) (.inl (by kernel_rfl)) rfl ?_ DAll.nil)
      rintro _ _ ⟨px, capx, rfl, rfl⟩
      refine D.q 6 rfl (by kernel_rfl) (by kernel_rfl) (q_field fo_76_1 rfl) (fun _ h => h.subD) ?_
      refine D.all (rs := [7]) (by kernel_rfl) rfl (DAll.consN rfl (by kernel_rfl) (l_store1 ck_74 rfl rfl rfl (by repeat (first | exact Pick.here | apply Pick.there)) (by repeat (first | exact SetAt.here | apply SetAt.there))) (.inl (by kernel_rfl)) rfl ?_ DAll.nil)
      rintro _ _ ⟨rfl, rfl⟩
      refine D.done (by kernel_rfl) ?_
      refine K.st (fun w h => nestF_snoc (l := l) ⟨(objM (s, wf)).1, zo⟩ (by repeat (first | exact List.Mem.head _ | apply List.Mem.tail)) (by repeat (first | exact List.Mem.head _ | apply List.Mem.tail)) (by repeat (first | exact List.Mem.head _ | apply List.Mem.tail)) (by repeat (first | exact List.Mem.head _ | apply List.Mem.tail)) h) ?_
      refine K.fin (fn := Try.f91) Try.func91 (fun a w hk hs => res0 Try.results91) (fun w hs => ?_)
      exact ⟨_, Rst cA cB p next (acc ++ [(objM (s, wf)).1]) :: IR p rb (objM (s, wf)).2.2 qx cx (objM (s, wf)).2.1, rfl, ⟨qx, cx, rfl, rfl, hcx⟩, St.fitE (px, capx, ⟨l ++ [⟨(objM (s, wf)).1, zo⟩], by rw [List.map_append, hlm]; rfl, fun o ho => by
        rcases List.mem_append.1 ho with h | h
        · exact hlc o h
        · rw [List.mem_singleton.1 h]; exact ⟨h1x, h2x, h3x⟩⟩) hs (by repeat (first | exact Give.nil | (apply Give.perI; (repeat (first | exact List.Mem.head _ | apply List.Mem.tail))) | (apply Give.own; (repeat (first | exact Pick.here | apply Pick.there))))) (by repeat (first | exact Drop.refl | apply Drop.skip))⟩
    · rintro _ _ ⟨b6, rfl, rfl⟩
      refine D.all (rs := [1]) (by kernel_rfl) rfl (DAll.cons rfl (by kernel_rfl) (OpQ.loud (q_load1D ck_74 rfl)) (.inl (by kernel_rfl)) rfl ?_ DAll.nil)
      rintro _ _ ⟨rfl, rfl⟩
      refine D.all (rs := [5]) (by kernel_rfl) rfl (DAll.cons rfl (by kernel_rfl) (l_append Kd.oz se_74 Try.underlying74 ⟨_, ze_108, rfl⟩ (by decide) rfl rfl (by repeat (first | exact Pick.here | apply Pick.there)) isP (by repeat (first | exact List.Mem.head _ | apply List.Mem.tail)) rfl rfl (by first | omega | (simp; omega) | (simp; done))) (.inl (by kernel_rfl)) rfl ?_ DAll.nil)
      rintro _ _ ⟨px, capx, rfl, rfl⟩
      refine D.q 6 rfl (by kernel_rfl) (by kernel_rfl) (q_field fo_76_1 rfl) (fun _ h => h.subD) ?_
      refine D.all (rs := [7]) (by kernel_rfl) rfl (DAll.consN rfl (by kernel_rfl) (l_store1 ck_74 rfl rfl rfl (by repeat (first | exact Pick.here | apply Pick.there)) (by repeat (first | exact SetAt.here | apply SetAt.there))) (.inl (by kernel_rfl)) rfl ?_ DAll.nil)
      rintro _ _ ⟨rfl, rfl⟩
      refine D.done (by kernel_rfl) ?_
      refine K.st (fun w h => nestF_snoc (l := l) ⟨(objM (s, wf)).1, zo⟩ (by repeat (first | exact List.Mem.head _ | apply List.Mem.tail)) (by repeat (first | exact List.Mem.head _ | apply List.Mem.tail)) (by repeat (first | exact List.Mem.head _ | apply List.Mem.tail)) (by repeat (first | exact List.Mem.head _ | apply List.Mem.tail)) h) ?_
      refine K.fin (fn := Try.f91) Try.func91 (fun a w hk hs => res0 Try.results91) (fun w hs => ?_)
      exact ⟨_, Rst cA cB p next (acc ++ [(objM (s, wf)).1]) :: IR p rb (objM (s, wf)).2.2 qx cx (objM (s, wf)).2.1, rfl, ⟨qx, cx, rfl, rfl, hcx⟩, St.fitE (px, capx, ⟨l ++ [⟨(objM (s, wf)).1, zo⟩], by rw [List.map_append, hlm]; rfl, fun o ho => by
        rcases List.mem_append.1 ho with h | h
        · exact hlc o h
        · rw [List.mem_singleton.1 h]; exact ⟨h1x, h2x, h3x⟩⟩) hs (by repeat (first | exact Give.nil | (apply Give.perI; (repeat (first | exact List.Mem.head _ | apply List.Mem.tail))) | (apply Give.own; (repeat (first | exact Pick.here | apply Pick.there))))) (by repeat (first | exact Drop.refl | apply Drop.skip))⟩
theorem sttM_eq (s : RdW) : sttM s = (⟨s.1.int.1, (lsM objM (s.1.int.2, s.2)).1⟩, (lsM objM (s.1.int.2, s.2)).2) := rfl
theorem objs_sm (s : RdW) (h : s.1.bs.length ≤ 10000000000) : (lsM objM s).1.length ≤ 10000000001 ∧ ∀ o ∈ (lsM objM s).1, o.sm ∧ o.rows.length ≤ 10000000001 ∧ o.msgs.length ≤ 10000000001 ∧ o.dead.length ≤ 10000000001 := by
  have g := Gs.ls (P := fun o : Ob => o.sm ∧ o.rows.length ≤ 10000000001 ∧ o.msgs.length ≤ 10000000001 ∧ o.dead.length ≤ 10000000001) (N := 10000000000) prog_obj (fun s h => objM_sm s h) s h
  exact ⟨g.len, g.2⟩
theorem sz0_ok : Sz.ok ⟨0, none, 0, []⟩ := ⟨⟨by decide, by decide⟩, Nat.zero_le _, Nat.le_refl _, fun o ho => by cases ho⟩
theorem sz0_few : Sz.few ⟨0, none, 0, []⟩ := fun o ho => by cases ho
theorem sz0_st : Sz.st ⟨0, none, 0, []⟩ = (none : Option Stt).getD ⟨0, []⟩ := rfl
--%call poste/image.Read := im_Read _ _ _ (by first | omega | (simp; omega)) (by first | omega | (simp; omega)) !! ⟨_, ⟨sz#, rfl, rfl, hok#, hfew#, hst#⟩, rfl⟩
set_option maxHeartbeats 1600000 in
theorem im_Read (q : Option Addr) (cap : Nat) (bs : List UInt8) (hb : bs.length ≤ 10000000000) : Fn Try.prog 58 [.slice q bs.length cap].toArray [RowF Kd.u8 q bs]
    (fun r post => ∃ sz : Sz, r = .tuple #[.agg sz.cells.toArray, .int .i64 (if (imgRead bs).isSome = true then 0 else 11)] ∧ post = StL sz ∧ sz.ok ∧ sz.few ∧ sz.st = (imgRead bs).getD ⟨0, []⟩) := by
  obtain ⟨n0, s0, ha⟩ : ∃ n0 s0, Rd.int ⟨bs, false⟩ = (n0, s0) := ⟨_, _, rfl⟩
  have hrng := Rd.int_rng ⟨bs, false⟩
  have hdn := prog_int.1 (⟨bs, false⟩, false)
  replace hdn : (Rd.int ⟨bs, false⟩).2.bs.length ≤ bs.length := hdn
  rw [ha] at hrng hdn
  dsimp only at hrng hdn
  have hobs := objs_sm (s0, false) (by show s0.bs.length ≤ _; omega)
  have hrd : imgRead bs = if (!(lsM objM (s0, false)).2.1.done || ((lsM objM (s0, false)).2.2 || !Stt.right ⟨n0, (lsM objM (s0, false)).1⟩)) = true then none else some ⟨n0, (lsM objM (s0, false)).1⟩ := by
    unfold imgRead
    simp only [sttM_eq, ha]
  refine Fn.enter (N := 38) Try.func58 rfl Try.ntmps58 (by kernel_rfl) rfl (fun ρ L => ?_)
  refine K.seq ?_
  refine K.region ?_
  refine KO.loud rfl (l_alloc zo_76) ?_
  rintro _ _ ⟨b2, rfl, rfl⟩
  refine KO.q rfl (q_assign rfl) ?_
  refine KO.done ?_
  refine K.seq ?_
  refine K.region ?_
  refine KO.q rfl (q_move rfl) ?_
  refine KO.loud rfl (OpL.callD rfl (h := rd_New _ _ _ (by first | omega | (simp; omega)))) ?_
  rintro _ _ ⟨_, ⟨p1, q1, c1, rfl, rfl, hc1⟩, rfl⟩
  refine KO.q rfl (q_build st_117 rfl (by repeat (first | exact Fill.nil | (apply Fill.cons; rfl; rfl; rfl) | exact SetN.nil | apply SetN.cons | exact SetAt.here | apply SetAt.there))) ?_
  refine KO.loud rfl (l_box rfl rfl) ?_
  rintro _ _ ⟨b9, rfl, rfl⟩
  refine KO.loud rfl (l_alloc zo_115) ?_
  rintro _ _ ⟨b4, rfl, rfl⟩
  refine KO.loudN rfl (l_store1 ck_115 rfl rfl rfl (by repeat (first | exact Pick.here | apply Pick.there)) (by repeat (first | exact SetAt.here | apply SetAt.there))) ?_
  rintro _ _ ⟨rfl, rfl⟩
  refine KO.done ?_
  refine K.seq ?_
  refine K.region ?_
  refine KO.q rfl (q_load1D ck_115 rfl) ?_
  refine KO.q rfl (q_nilCheck rfl) ?_
  refine KO.q rfl (q_field fo_117_0 rfl) ?_
  refine KO.q rfl (q_load1D ck_38 rfl) ?_
  refine KO.loud rfl (OpL.callD rfl (h := rd_Int _ _ _ _ (by assumption))) ?_
  rintro _ _ ⟨_, ⟨q2, c2, rfl, rfl, hc2⟩, rfl⟩
  refine KO.q rfl (q_build st_76 rfl (by repeat (first | exact Fill.nil | (apply Fill.cons; rfl; rfl; rfl) | exact SetN.nil | apply SetN.cons | exact SetAt.here | apply SetAt.there))) ?_
  refine KO.loud rfl (l_alloc zo_76) ?_
  rintro _ _ ⟨b5, rfl, rfl⟩
  refine KO.loudN rfl (l_storeAll ck_76 rfl rfl ⟨rfl, rfl⟩ (by simp [Value.oneCell']) (by repeat (first | exact Pick.here | apply Pick.there))) ?_
  rintro _ _ ⟨rfl, rfl⟩
  refine KO.done ?_
  simp only [ha] at hc2 ⊢
  refine K.seq ?_
  refine K.region ?_
  refine KO.q rfl (q_load1D ck_115 rfl) ?_
  refine KO.q rfl (q_func rfl rfl) ?_
  refine KO.st (fun w h => rowO_nil (k := Kd.oz) 108 h) ?_
  refine KO.st (fun w h => nestF_nil h) ?_
  refine KO.st (fun w h => St.exG (f := RstF b5 b4 b9 n0 []) (none, 0, ⟨[], rfl, fun o ho => by cases ho⟩) (by repeat (first | exact Give.nil | (apply Give.perI; (repeat (first | exact List.Mem.head _ | apply List.Mem.tail))) | (apply Give.own; (repeat (first | exact Pick.here | apply Pick.there))))) h) ?_
  refine KO.loud rfl (OpL.callD rfl (h := im_list (Rst b5 b4 b9 n0) objM (fun o : Ob => o.sm ∧ o.rows.length ≤ 10000000001 ∧ o.msgs.length ≤ 10000000001 ∧ o.dead.length ≤ 10000000001) 10000000000 91 [.pointer (some ⟨b5, 0, none⟩), .pointer (some ⟨b4, 0, none⟩)] b9 p1 prog_obj (fun s h => objM_sm s h) (fun q cap s wf acc h1 h2 h3 => im_r1 b5 b4 b9 p1 n0 q cap s wf acc h1 h3.len (by have := h3.1; rw [if_neg (by show ¬ s.f = true; rw [h2]; simp)] at this; show s.bs.length ≤ _; have h4 : acc.length + s.bs.length ≤ 10000000000 := this; omega)) q2 c2 s0 false hc2 (by omega))) ?_
  rintro _ _ ⟨_, ⟨q3, c3, rfl, rfl, hc3⟩, rfl⟩
  refine KO.ex (fun w h => St.exP (by repeat (first | exact Pick.here | apply Pick.there)) h) (fun z => ?_)
  obtain ⟨z1, z2, l, hlm, hlc⟩ := z
  dsimp only [List.cons_append, List.nil_append]
  refine KO.done ?_
  refine K.fact (rowO_cap (by repeat (first | exact List.Mem.head _ | apply List.Mem.tail))) (fun hcap => ?_)
  refine K.st (fun w h => rowO_freeze (h.pick (by repeat (first | exact Pick.here | apply Pick.there)))) ?_
  have hlen : l.length ≤ 10000000001 := by have := hobs.1; rw [← hlm, List.length_map] at this; exact this
  have hox : ∀ o ∈ l, o.x.sm ∧ o.x.rows.length ≤ 10000000001 ∧ o.x.msgs.length ≤ 10000000001 ∧ o.x.dead.length ≤ 10000000001 := fun o ho => hobs.2 o.x (by rw [← hlm]; exact List.mem_map.2 ⟨o, ho, rfl⟩)
  have hok : Sz.ok ⟨n0, z1, z2, l⟩ := ⟨hrng, by show l.length ≤ _; omega, hcap, fun o ho => ⟨(hox o ho).1, hlc o ho⟩⟩
  have hfew : Sz.few ⟨n0, z1, z2, l⟩ := fun o ho => by have := hox o ho; omega
  have hst : Sz.st ⟨n0, z1, z2, l⟩ = ⟨n0, (lsM objM (s0, false)).1⟩ := by rw [← hlm]; rfl
  rw [← hst] at hrd
  refine K.seq <| K.seq ?_
  refine K.region ?_
  refine KO.q rfl (q_load1D ck_115 rfl) ?_
  refine KO.q rfl (q_nilCheck rfl) ?_
  refine KO.q rfl (q_field fo_117_0 rfl) ?_
  refine KO.q rfl (q_load1D ck_38 rfl) ?_
  refine KO.loud rfl (OpL.callD rfl (h := rd_Done _ _ _ _)) ?_
  rintro _ _ ⟨_, ⟨rfl, rfl⟩, rfl⟩
  refine KO.q rfl (q_not rfl) ?_
  refine KO.q rfl (q_move rfl) ?_
  refine KO.split 25 rfl (fun g25 => ?_) (fun g25 => ?_)
  · refine KO.skip rfl ?_
    refine KO.skip rfl ?_
    refine KO.skip rfl ?_
    refine KO.skip rfl ?_
    refine KO.q rfl (q_pickT rfl rfl) ?_
    refine KO.q rfl (q_move rfl) ?_
    refine KO.skip rfl ?_
    refine KO.skip rfl ?_
    refine KO.skip rfl ?_
    refine KO.q rfl (q_pickT rfl rfl) ?_
    refine KO.done ?_
    refine K.yes rfl ?_
    refine K.seq ?_
    have hr : imgRead bs = none := by rw [hrd, if_pos (by simp_all)]
    have hbad : True := trivial
    rw [hr]
    refine K.region ?_
    refine KO.q rfl (q_build st_76 rfl (by repeat (first | exact Fill.nil | (apply Fill.cons; rfl; rfl; rfl) | exact SetN.nil | apply SetN.cons | exact SetAt.here | apply SetAt.there))) ?_
    refine KO.loudN rfl (l_storeAll ck_76 rfl rfl ⟨rfl, rfl⟩ (by simp [Value.oneCell']) (by repeat (first | exact Pick.here | apply Pick.there))) ?_
    rintro _ _ ⟨rfl, rfl⟩
    refine KO.q rfl (q_assign rfl) ?_
    refine KO.done ?_
    refine K.ret (fn := Try.f58) Try.func58 (fun a w hk hs => resCT Try.results58 hk rfl ck_76 rfl (cells_pv (by repeat (first | exact List.Mem.head _ | apply List.Mem.tail)) w hs) rfl) (fun w hs => ?_)
    first
      | (have hx := hbad
         exact ⟨_, StL ⟨0, none, 0, []⟩, rfl, ⟨⟨0, none, 0, []⟩, rfl, rfl, sz0_ok, sz0_few, sz0_st⟩, (rowF_nil (k := Kd.oz) none (nestF_nil hs)).fitD⟩)
      | exact ⟨_, StL ⟨n0, z1, z2, l⟩, rfl, ⟨⟨n0, z1, z2, l⟩, rfl, rfl, hok, hfew, rfl⟩, hs.fitD⟩
  · refine KO.q rfl (q_load1D ck_115 rfl) ?_
    refine KO.q rfl (q_nilCheck rfl) ?_
    refine KO.q rfl (q_field fo_117_1 rfl) ?_
    refine KO.q rfl (q_load1D ck_4 rfl) ?_
    refine KO.q rfl (q_pickF rfl rfl) ?_
    refine KO.q rfl (q_move rfl) ?_
    first | refine KO.dsplit 31 rfl (fun g31 => ?_) (fun g31 => ?_) | refine KO.split 31 rfl (fun g31 => ?_) (fun g31 => ?_)
    · refine KO.skip rfl ?_
      refine KO.skip rfl ?_
      refine KO.skip rfl ?_
      refine KO.q rfl (q_pickT rfl rfl) ?_
      refine KO.done ?_
      refine K.yes rfl ?_
      refine K.seq ?_
      have hr : imgRead bs = none := by rw [hrd, if_pos (by simp_all)]
      have hbad : True := trivial
      rw [hr]
      refine K.region ?_
      refine KO.q rfl (q_build st_76 rfl (by repeat (first | exact Fill.nil | (apply Fill.cons; rfl; rfl; rfl) | exact SetN.nil | apply SetN.cons | exact SetAt.here | apply SetAt.there))) ?_
      refine KO.loudN rfl (l_storeAll ck_76 rfl rfl ⟨rfl, rfl⟩ (by simp [Value.oneCell']) (by repeat (first | exact Pick.here | apply Pick.there))) ?_
      rintro _ _ ⟨rfl, rfl⟩
      refine KO.q rfl (q_assign rfl) ?_
      refine KO.done ?_
      refine K.ret (fn := Try.f58) Try.func58 (fun a w hk hs => resCT Try.results58 hk rfl ck_76 rfl (cells_pv (by repeat (first | exact List.Mem.head _ | apply List.Mem.tail)) w hs) rfl) (fun w hs => ?_)
      first
        | (have hx := hbad
           exact ⟨_, StL ⟨0, none, 0, []⟩, rfl, ⟨⟨0, none, 0, []⟩, rfl, rfl, sz0_ok, sz0_few, sz0_st⟩, (rowF_nil (k := Kd.oz) none (nestF_nil hs)).fitD⟩)
        | exact ⟨_, StL ⟨n0, z1, z2, l⟩, rfl, ⟨⟨n0, z1, z2, l⟩, rfl, rfl, hok, hfew, rfl⟩, hs.fitD⟩
    · refine KO.q rfl (q_as_sz (next_ := n0) (q_ := z1) (c_ := z2) (l_ := l) (q_loadN ck_76 rfl rfl (by first | (apply cells_pv; (repeat (first | exact List.Mem.head _ | apply List.Mem.tail))) | (apply cells_fv; (repeat (first | exact List.Mem.head _ | apply List.Mem.tail))))) rfl) ?_
      refine KO.loud rfl (OpL.callD rfl (h := st_Right ⟨n0, z1, z2, l⟩ hok hfew)) ?_
      rintro _ _ ⟨_, ⟨rfl, rfl⟩, rfl⟩
      refine KO.q rfl (q_not rfl) ?_
      refine KO.q rfl (q_pickF rfl rfl) ?_
      refine KO.done ?_
      refine K.bcond (s := 35) rfl (fun g35 => ?_) (fun g35 => ?_)
      · refine K.seq ?_
        have hr : imgRead bs = none := by rw [hrd, if_pos (by simp_all)]
        have hbad : True := trivial
        rw [hr]
        refine K.region ?_
        refine KO.q rfl (q_build st_76 rfl (by repeat (first | exact Fill.nil | (apply Fill.cons; rfl; rfl; rfl) | exact SetN.nil | apply SetN.cons | exact SetAt.here | apply SetAt.there))) ?_
        refine KO.loudN rfl (l_storeAll ck_76 rfl rfl ⟨rfl, rfl⟩ (by simp [Value.oneCell']) (by repeat (first | exact Pick.here | apply Pick.there))) ?_
        rintro _ _ ⟨rfl, rfl⟩
        refine KO.q rfl (q_assign rfl) ?_
        refine KO.done ?_
        refine K.ret (fn := Try.f58) Try.func58 (fun a w hk hs => resCT Try.results58 hk rfl ck_76 rfl (cells_pv (by repeat (first | exact List.Mem.head _ | apply List.Mem.tail)) w hs) rfl) (fun w hs => ?_)
        first
          | (have hx := hbad
             exact ⟨_, StL ⟨0, none, 0, []⟩, rfl, ⟨⟨0, none, 0, []⟩, rfl, rfl, sz0_ok, sz0_few, sz0_st⟩, (rowF_nil (k := Kd.oz) none (nestF_nil hs)).fitD⟩)
          | exact ⟨_, StL ⟨n0, z1, z2, l⟩, rfl, ⟨⟨n0, z1, z2, l⟩, rfl, rfl, hok, hfew, rfl⟩, hs.fitD⟩
      · refine K.skip <| K.seq ?_
        have hr : imgRead bs = some (Sz.st ⟨n0, z1, z2, l⟩) := by rw [hrd, if_neg (by simp_all)]
        rw [hr]
        refine K.region ?_
        refine KO.q rfl (q_as_sz (next_ := n0) (q_ := z1) (c_ := z2) (l_ := l) (q_loadN ck_76 rfl rfl (by first | (apply cells_pv; (repeat (first | exact List.Mem.head _ | apply List.Mem.tail))) | (apply cells_fv; (repeat (first | exact List.Mem.head _ | apply List.Mem.tail))))) rfl) ?_
        refine KO.loudN rfl (l_storeAll ck_76 rfl rfl ⟨rfl, rfl⟩ (sz_one _) (by repeat (first | exact Pick.here | apply Pick.there))) ?_
        rintro _ _ ⟨rfl, rfl⟩
        refine KO.q rfl (q_assign rfl) ?_
        refine KO.done ?_
        refine K.ret (fn := Try.f58) Try.func58 (fun a w hk hs => resCT Try.results58 hk rfl ck_76 rfl (cells_pv (by repeat (first | exact List.Mem.head _ | apply List.Mem.tail)) w hs) rfl) (fun w hs => ?_)
        first
          | (have hx := hbad
             exact ⟨_, StL ⟨0, none, 0, []⟩, rfl, ⟨⟨0, none, 0, []⟩, rfl, rfl, sz0_ok, sz0_few, sz0_st⟩, (rowF_nil (k := Kd.oz) none (nestF_nil hs)).fitD⟩)
          | exact ⟨_, StL ⟨n0, z1, z2, l⟩, rfl, ⟨⟨n0, z1, z2, l⟩, rfl, rfl, hok, hfew, rfl⟩, hs.fitD⟩
end Go.Proofs.Ytlellgnklohclaa.L
