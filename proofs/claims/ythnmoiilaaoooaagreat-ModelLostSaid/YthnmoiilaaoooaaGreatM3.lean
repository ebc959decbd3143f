/- What a deed reads; a deed is done. -/
import Derived.Test.YthnmoiilaaoooaaGreatM2
namespace Go.Proofs.YthnmoiilaaoooaaGreat.L
open Go Go.Proofs
attribute [local irreducible] pv fv pt fz RowF RowO rowP old pure_ elA
set_option maxRecDepth 100000
set_option linter.unusedSimpArgs false
set_option linter.unusedVariables false

def readD (s : Stt) (l : List Deed) (d : Deed) : Bool :=
  if d.req.kind = 7 then (getS s (effsD l) d.req.name d.req.key).2 && decide (d.row = ⟨d.req.key, (getS s (effsD l) d.req.name d.req.key).1⟩) else true
set_option maxHeartbeats 1600000 in
theorem mo_read (A : HP) (s : Sz) (n b : Nat) (q : Option Addr) (c : Nat) (l : List Deed) (most : Int) (d : Deed) (hA : IsRow A Kd.deed q l) (hs : s.st.small n) (hn : n + l.length ≤ 1000000) (hw : ∀ e ∈ effsD l, e.kind = 2) (hd : d.req.kind ≠ 10) : Fn Tryz.prog 29 [.pointer (some ⟨b, 0, none⟩), .agg s.cells.toArray, .agg d.cells.toArray].toArray (pv b 74 [.slice q l.length c, .int .i64 most] :: A :: StL s)
    (fun r post => r = .bool (readD s.st l d) ∧ post = pv b 74 [.slice q l.length c, .int .i64 most] :: A :: StL s) := by
  have hel := effsD_len l
  refine Fn.enter (N := 54) Tryz.func29 rfl Tryz.ntmps29 (by kernel_rfl) rfl (fun ρ L => ?_)
  refine K.seq ?_
  refine K.region ?_
  refine KO.loud rfl (l_box rfl rfl) ?_
  rintro _ _ ⟨b4, rfl, rfl⟩
  refine KO.loud rfl (l_box rfl rfl) ?_
  rintro _ _ ⟨b5, rfl, rfl⟩
  refine KO.q rfl (q_assign rfl) ?_
  refine KO.done ?_
  refine K.seq ?_
  refine K.region ?_
  refine KO.q rfl (q_field fo_43_0 rfl) ?_
  refine KO.q rfl (q_ldPS sub_deed_req req_sz ck_36 rfl (by repeat (first | exact List.Mem.head _ | apply List.Mem.tail))) ?_
  refine KO.loud rfl (l_alloc zo_36) ?_
  rintro _ _ ⟨b7, rfl, rfl⟩
  refine KO.loudN rfl (l_storeAll ck_36 rfl rfl ⟨rfl, rfl⟩ (req_one _) (by repeat (first | exact Pick.here | apply Pick.there))) ?_
  rintro _ _ ⟨rfl, rfl⟩
  refine KO.done ?_
  refine K.seq <| K.seq ?_
  refine K.region ?_
  refine KO.q rfl (q_field fo_36_0 rfl) ?_
  refine KO.q rfl (q_load1D ck_3 rfl) ?_
  refine KO.done ?_
  refine K.block <| K.seq ?_
  refine K.region ?_
  refine KO.q rfl (q_eq rfl rfl) ?_
  refine KO.q rfl (q_assign rfl) ?_
  refine KO.done ?_
  refine K.dcond (s := 14) rfl (fun g14 => ?_) (fun g14 => ?_)
  · have hk : d.req.kind = 7 := g14
    have hr : readD s.st l d = ((getS s.st (effsD l) d.req.name d.req.key).2 && decide (d.row = ⟨d.req.key, (getS s.st (effsD l) d.req.name d.req.key).1⟩)) := by unfold readD; rw [if_pos hk]
    refine K.seq ?_
    refine K.drawS [pv b4 24 s.cells, pv b7 36 d.req.cells] (fun _ h => h.subD) mixed ?_
    refine D.q 0 rfl (by kernel_rfl) (by kernel_rfl) (q_loadN ck_24 rfl rfl (by first | (apply cells_pv; (repeat (first | exact List.Mem.head _ | apply List.Mem.tail))) | (apply cells_fv; (repeat (first | exact List.Mem.head _ | apply List.Mem.tail))))) (fun _ h => h.subD) ?_
    refine D.q 1 rfl (by kernel_rfl) (by kernel_rfl) (q_move rfl) (fun _ h => h.subD) ?_
    refine D.q 3 rfl (by kernel_rfl) (by kernel_rfl) (q_field fo_36_1 rfl) (fun _ h => h.subD) ?_
    refine D.q 4 rfl (by kernel_rfl) (by kernel_rfl) (q_load1D ck_9 rfl) (fun _ h => h.subD) ?_
    refine D.q 5 rfl (by kernel_rfl) (by kernel_rfl) (q_field fo_36_2 rfl) (fun _ h => h.subD) ?_
    refine D.q 6 rfl (by kernel_rfl) (by kernel_rfl) (q_load1D ck_9 rfl) (fun _ h => h.subD) ?_
    refine D.all (rs := [2]) (by kernel_rfl) rfl (DAll.cons rfl (by kernel_rfl) (OpL.callD rfl (h := mo_effects A b q c l most hA (by omega))) (.inr (by rintro _ _ ⟨_, ⟨qe, ce, rfl, rfl⟩, rfl⟩ w h; exact h.subD)) rfl ?_ DAll.nil)
    rintro _ _ ⟨_, ⟨qe, ce, rfl, rfl⟩, rfl⟩
    refine D.all (rs := [7]) (by kernel_rfl) rfl (DAll.cons rfl (by kernel_rfl) (OpL.callD rfl (h := tx_Get (RowO Kd.eff 80 qe ce (effsD l)) s n qe ce (effsD l) d.req.name d.req.key isO hs (by omega) hw)) (.inr (by rintro _ _ ⟨_, ⟨rfl, rfl⟩, rfl⟩ w h; exact h.subD)) rfl ?_ DAll.nil)
    rintro _ _ ⟨_, ⟨rfl, rfl⟩, rfl⟩
    refine D.q 8 rfl (by kernel_rfl) (by kernel_rfl) (q_move rfl) (fun _ h => h.subD) ?_
    refine D.q 9 rfl (by kernel_rfl) (by kernel_rfl) (q_extract rfl rfl) (fun _ h => h.subD) ?_
    refine D.q 10 rfl (by kernel_rfl) (by kernel_rfl) (q_extract rfl rfl) (fun _ h => h.subD) ?_
    refine D.q 11 rfl (by kernel_rfl) (by kernel_rfl) (q_assign rfl) (fun _ h => h.subD) ?_
    refine D.q 12 rfl (by kernel_rfl) (by kernel_rfl) (q_assign rfl) (fun _ h => h.subD) ?_
    refine D.done (by kernel_rfl) ?_
    refine K.seq ?_
    refine K.region ?_
    refine KO.q rfl (q_move rfl) ?_
    refine KO.q rfl (q_move rfl) ?_
    first | refine KO.dsplit 28 rfl (fun g28 => ?_) (fun g28 => ?_) | refine KO.split 28 rfl (fun g28 => ?_) (fun g28 => ?_)
    · refine KO.q rfl (q_field fo_43_1 rfl) ?_
      refine KO.q rfl (q_field fo_41_2 rfl) ?_
      refine KO.q rfl (q_ldPS sub_deed_row rw_sz ck_29 rfl (by repeat (first | exact List.Mem.head _ | apply List.Mem.tail))) ?_
      refine KO.q rfl (q_field fo_36_2 rfl) ?_
      refine KO.q rfl (q_load1D ck_9 rfl) ?_
      refine KO.q rfl (q_move rfl) ?_
      refine KO.q rfl (q_as_rw (q_build st_29 rfl (by repeat (first | exact Fill.nil | (apply Fill.cons; rfl; rfl; rfl) | exact SetN.nil | apply SetN.cons | exact SetAt.here | apply SetAt.there))) (by rfl)) ?_
      refine KO.q rfl (q_recEG Tryz.underlying29 rw_hp rw_hg rfl rfl (rw_eqD _ _ Tryz.underlying29)) ?_
      refine KO.q rfl (q_pickT rfl rfl) ?_
      refine KO.q rfl (q_assign rfl) ?_
      refine KO.done ?_
      refine K.ret (fn := Tryz.f29) Tryz.func29 (fun a w hk hs => res1 Tryz.results29 hk rfl) (fun w hs => ?_)
      rw [hr, g28, Bool.true_and]
      exact ⟨_, pv b 74 [.slice q l.length c, .int .i64 most] :: A :: StL s, rfl, ⟨rfl, rfl⟩, hs.fitD⟩
    · refine KO.skip rfl ?_
      refine KO.skip rfl ?_
      refine KO.skip rfl ?_
      refine KO.skip rfl ?_
      refine KO.skip rfl ?_
      refine KO.skip rfl ?_
      refine KO.skip rfl ?_
      refine KO.skip rfl ?_
      refine KO.q rfl (q_pickF rfl rfl) ?_
      refine KO.q rfl (q_assign rfl) ?_
      refine KO.done ?_
      refine K.ret (fn := Tryz.f29) Tryz.func29 (fun a w hk hs => res1 Tryz.results29 hk rfl) (fun w hs => ?_)
      rw [hr, show (getS s.st (effsD l) d.req.name d.req.key).2 = false by simpa using g28]
      exact ⟨_, pv b 74 [.slice q l.length c, .int .i64 most] :: A :: StL s, rfl, ⟨rfl, rfl⟩, hs.fitD⟩
  · have hk : ¬ d.req.kind = 7 := g14
    have hr : readD s.st l d = true := by unfold readD; rw [if_neg hk]
    refine K.seq ?_
    refine K.region ?_
    refine KO.q rfl (q_eq rfl rfl) ?_
    refine KO.q rfl (q_assign rfl) ?_
    refine KO.done ?_
    refine K.dcond (s := 38) rfl (fun g38 => ?_) (fun g38 => ?_)
    · exact absurd g38 hd
    · refine K.skip <| K.inBlock <| K.seq ?_
      refine K.region ?_
      refine KO.q rfl (q_assign rfl) ?_
      refine KO.done ?_
      refine K.ret (fn := Tryz.f29) Tryz.func29 (fun a w hk hs => res1 Tryz.results29 hk rfl) (fun w hs => ?_)
      rw [hr]
      exact ⟨_, pv b 74 [.slice q l.length c, .int .i64 most] :: A :: StL s, rfl, ⟨rfl, rfl⟩, hs.fitD⟩
set_option maxHeartbeats 1600000 in
theorem mo_do (b : Nat) (q : Option Addr) (c : Nat) (l : List Deed) (most : Int) (d : Deed) (hl : l.length ≤ 1000000) (hd : d.req.kind ≠ 5) (hd2 : d.req.kind ≠ 11) : Fn Tryz.prog 30 [.pointer (some ⟨b, 0, none⟩), .agg d.cells.toArray].toArray [pv b 74 [.slice q l.length c, .int .i64 most], RowO Kd.deed 43 q c l]
    (fun r post => ∃ q' c', r = .tuple #[] ∧ post = [pv b 74 [.slice q' (l ++ [d]).length c', .int .i64 most], RowO Kd.deed 43 q' c' (l ++ [d])]) := by
  refine Fn.enter (N := 38) Tryz.func30 rfl Tryz.ntmps30 (by kernel_rfl) rfl (fun ρ L => ?_)
  refine K.seq ?_
  refine K.region ?_
  refine KO.loud rfl (l_box rfl rfl) ?_
  rintro _ _ ⟨b3, rfl, rfl⟩
  refine KO.done ?_
  refine K.seq <| K.seq ?_
  refine K.region ?_
  refine KO.q rfl (q_field fo_43_0 rfl) ?_
  refine KO.q rfl (q_field fo_36_0 rfl) ?_
  refine KO.q rfl (q_load1D ck_3 rfl) ?_
  refine KO.q rfl (q_eq rfl rfl) ?_
  refine KO.done ?_
  refine K.dcond (s := 7) rfl (fun g7 => ?_) (fun g7 => ?_)
  · exact absurd g7 hd
  · refine K.skip <| K.seq <| K.seq ?_
    refine K.region ?_
    refine KO.q rfl (q_field fo_43_0 rfl) ?_
    refine KO.q rfl (q_field fo_36_0 rfl) ?_
    refine KO.q rfl (q_load1D ck_3 rfl) ?_
    refine KO.q rfl (q_eq rfl rfl) ?_
    refine KO.done ?_
    refine K.dcond (s := 16) rfl (fun g16 => ?_) (fun g16 => ?_)
    · exact absurd g16 hd2
    · refine K.skip ?_
      refine K.drawS [pv b 74 [.slice q l.length c, .int .i64 most], pv b3 43 d.cells] (fun _ h => h.subD) mixed ?_
      refine D.q 0 rfl (by kernel_rfl) (by kernel_rfl) (q_move rfl) (fun _ h => h.subD) ?_
      refine D.q 1 rfl (by kernel_rfl) (by kernel_rfl) (q_move rfl) (fun _ h => h.subD) ?_
      refine D.q 2 rfl (by kernel_rfl) (by kernel_rfl) (q_nilCheck rfl) (fun _ h => h.subD) ?_
      refine D.q 3 rfl (by kernel_rfl) (by kernel_rfl) (q_field fo_74_0 rfl) (fun _ h => h.subD) ?_
      refine D.q 4 rfl (by kernel_rfl) (by kernel_rfl) (q_load1D ck_46 rfl) (fun _ h => h.subD) ?_
      refine D.q 5 rfl (by kernel_rfl) (by kernel_rfl) (q_loadN ck_43 rfl rfl (by first | (apply cells_pv; (repeat (first | exact List.Mem.head _ | apply List.Mem.tail))) | (apply cells_fv; (repeat (first | exact List.Mem.head _ | apply List.Mem.tail))))) (fun _ h => h.subD) ?_
      refine D.all (rs := [6]) (by kernel_rfl) rfl (DAll.cons rfl (by kernel_rfl) (l_slice1 sz_46_1 rfl rfl ⟨rfl, rfl, rfl⟩) (.inr (by rintro _ _ ⟨b34, rfl, rfl⟩ w h; exact h.subD)) rfl ?_ DAll.nil)
      rintro _ _ ⟨b34, rfl, rfl⟩
      refine D.all (rs := [7]) (by kernel_rfl) rfl (DAll.cons rfl (by kernel_rfl) (l_append Kd.deed (ys := [d]) se_46 Tryz.underlying46 ⟨_, ze_43, rfl⟩ (by decide) rfl rfl (by repeat (first | exact Pick.here | apply Pick.there)) isP (by repeat (first | exact List.Mem.head _ | apply List.Mem.tail)) rfl rfl (by show (2 * (l.length + 1) + 768) * _ ≤ _; omega)) (.inr (by rintro _ _ ⟨pn, dn, rfl, rfl⟩ w h; exact h.subD)) rfl ?_ DAll.nil)
      rintro _ _ ⟨pn, dn, rfl, rfl⟩
      refine D.all (rs := [8]) (by kernel_rfl) rfl (DAll.cons rfl (by kernel_rfl) (OpQ.loud (q_nilCheck rfl)) (.inl (by kernel_rfl)) rfl ?_ DAll.nil)
      rintro _ _ ⟨rfl, rfl⟩
      refine D.q 9 rfl (by kernel_rfl) (by kernel_rfl) (q_field fo_74_0 rfl) (fun _ h => h.subD) ?_
      refine D.all (rs := [10]) (by kernel_rfl) rfl (DAll.consN rfl (by kernel_rfl) (l_store1 ck_46 rfl rfl rfl (by repeat (first | exact Pick.here | apply Pick.there)) (by repeat (first | exact SetAt.here | apply SetAt.there))) (.inl (by kernel_rfl)) rfl ?_ DAll.nil)
      rintro _ _ ⟨rfl, rfl⟩
      refine D.done (by kernel_rfl) ?_
      refine K.fin (fn := Tryz.f30) Tryz.func30 (fun a w hk hs => res0 Tryz.results30) (fun w hs => ?_)
      exact ⟨_, [pv b 74 [.slice pn (l ++ [d]).length dn, .int .i64 most], RowO Kd.deed 43 pn dn (l ++ [d])], rfl, ⟨pn, dn, rfl, rfl⟩, hs.fitD⟩
end Go.Proofs.YthnmoiilaaoooaaGreat.L
