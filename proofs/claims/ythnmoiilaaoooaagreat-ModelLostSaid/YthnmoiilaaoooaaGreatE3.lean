/- Walks: an object copied, a claimed message freed, where a message is. -/
import Derived.Test.YthnmoiilaaoooaaGreatE2
namespace Go.Proofs.YthnmoiilaaoooaaGreat.L
open Go Go.Proofs
attribute [local irreducible] pv fv pt fz RowF RowO rowP old pure_ elA
set_option maxRecDepth 100000
set_option linter.unusedSimpArgs false
set_option linter.unusedVariables false

/-- How many each row has room for. -/
def Oz.cap (o : Oz) : Prop := o.x.rows.length ≤ o.z.c1 ∧ o.x.msgs.length ≤ o.z.c2 ∧ o.x.dead.length ≤ o.z.c3
def Oz.le (o : Oz) (n : Nat) : Prop := o.x.rows.length ≤ n ∧ o.x.msgs.length ≤ n ∧ o.x.dead.length ≤ n
abbrev ObO (o : Oz) : List HP := [RowO Kd.rw 29 o.z.q1 o.z.c1 o.x.rows, RowO Kd.msg 39 o.z.q2 o.z.c2 o.x.msgs, RowO Kd.msg 39 o.z.q3 o.z.c3 o.x.dead]
theorem obO_freeze {o : Oz} {ρ : World} {L : List HP} {w : World} (h : St ρ (ObO o ++ L) w) : St ρ (ObL o ++ L) w := by
  have h1 := rowO_freeze h
  have h2 := rowO_freeze (h1.pick (.there .here))
  have h3 := rowO_freeze (h2.pick (.there (.there .here)))
  exact h3.fitD
set_option maxHeartbeats 1600000 in
theorem dd_clone (o : Oz) (hl : o.le 1000000000) : Fn Tryz.prog 98 [.agg o.cells.toArray].toArray (ObL o) (fun r post => ∃ z, r = .agg (Oz.cells ⟨o.x, z⟩).toArray ∧ post = ObO ⟨o.x, z⟩ ∧ Oz.cap ⟨o.x, z⟩) := by
  obtain ⟨hl1, hl2, hl3⟩ := hl
  refine Fn.enter (N := 16) Tryz.func98 rfl Tryz.ntmps98 (by kernel_rfl) rfl (fun ρ L => ?_)
  refine K.seq ?_
  refine K.region ?_
  refine KO.loud rfl (l_box rfl rfl) ?_
  rintro _ _ ⟨b1, rfl, rfl⟩
  refine KO.loud rfl (l_alloc zo_33) ?_
  rintro _ _ ⟨b2, rfl, rfl⟩
  refine KO.done ?_
  refine K.seq ?_
  refine K.drawU (by repeat (first | apply SubL.pers | apply SubL.drop | exact SubL.none)) mixed ?_
  refine D.q 0 rfl (by kernel_rfl) (by kernel_rfl) (q_field fo_33_3 rfl) (fun _ h => h.subD) ?_
  refine D.q 3 rfl (by kernel_rfl) (by kernel_rfl) (q_field fo_33_4 rfl) (fun _ h => h.subD) ?_
  refine D.q 6 rfl (by kernel_rfl) (by kernel_rfl) (q_field fo_33_5 rfl) (fun _ h => h.subD) ?_
  refine D.all (rs := [1, 4, 7]) (by kernel_rfl) rfl (DAll.cons rfl (by kernel_rfl) (OpQ.loud (q_load1D ck_30 rfl)) (.inr (by rintro _ _ ⟨rfl, rfl⟩ w h; exact h.subD)) rfl ?_ (DAll.cons rfl (by kernel_rfl) (OpQ.loud (q_load1D ck_31 rfl)) (.inr (by rintro _ _ ⟨rfl, rfl⟩ w h; exact h.subD)) rfl ?_ (DAll.cons rfl (by kernel_rfl) (OpQ.loud (q_load1D ck_31 rfl)) (.inr (by rintro _ _ ⟨rfl, rfl⟩ w h; exact h.subD)) rfl ?_ DAll.nil)))
  · rintro _ _ ⟨rfl, rfl⟩
    refine D.all (rs := [2, 4, 7]) (by kernel_rfl) rfl (DAll.cons rfl (by kernel_rfl) (OpL.callD rfl (h := clone_rw (RowF Kd.rw o.z.q1 o.x.rows) o.z.q1 o.z.c1 o.x.rows isF hl1)) (.inr (by rintro _ _ ⟨_, ⟨qa, ca, rfl, rfl, ha⟩, rfl⟩ w h; exact h.subD)) rfl ?_ (DAll.cons rfl (by kernel_rfl) (OpQ.loud (q_load1D ck_31 rfl)) (.inr (by rintro _ _ ⟨rfl, rfl⟩ w h; exact h.subD)) rfl ?_ (DAll.cons rfl (by kernel_rfl) (OpQ.loud (q_load1D ck_31 rfl)) (.inr (by rintro _ _ ⟨rfl, rfl⟩ w h; exact h.subD)) rfl ?_ DAll.nil)))
    · rintro _ _ ⟨_, ⟨qa, ca, rfl, rfl, ha⟩, rfl⟩
      refine D.all (rs := [4, 7]) (by kernel_rfl) rfl (DAll.cons rfl (by kernel_rfl) (OpQ.loud (q_load1D ck_31 rfl)) (.inr (by rintro _ _ ⟨rfl, rfl⟩ w h; exact h.subD)) rfl ?_ (DAll.cons rfl (by kernel_rfl) (OpQ.loud (q_load1D ck_31 rfl)) (.inr (by rintro _ _ ⟨rfl, rfl⟩ w h; exact h.subD)) rfl ?_ DAll.nil))
      · rintro _ _ ⟨rfl, rfl⟩
        refine D.all (rs := [5, 7]) (by kernel_rfl) rfl (DAll.cons rfl (by kernel_rfl) (OpL.callD rfl (h := clone_msg (RowF Kd.msg o.z.q2 o.x.msgs) o.z.q2 o.z.c2 o.x.msgs isF hl2)) (.inr (by rintro _ _ ⟨_, ⟨qb, cb, rfl, rfl, hb⟩, rfl⟩ w h; exact h.subD)) rfl ?_ (DAll.cons rfl (by kernel_rfl) (OpQ.loud (q_load1D ck_31 rfl)) (.inl (by kernel_rfl)) rfl ?_ DAll.nil))
        · rintro _ _ ⟨_, ⟨qb, cb, rfl, rfl, hb⟩, rfl⟩
          refine D.all (rs := [7]) (by kernel_rfl) rfl (DAll.cons rfl (by kernel_rfl) (OpQ.loud (q_load1D ck_31 rfl)) (.inl (by kernel_rfl)) rfl ?_ DAll.nil)
          rintro _ _ ⟨rfl, rfl⟩
          refine D.q 9 rfl (by kernel_rfl) (by kernel_rfl) (q_field fo_33_3 rfl) (fun _ h => h.subD) ?_
          refine D.all (rs := [8]) (by kernel_rfl) rfl (DAll.cons rfl (by kernel_rfl) (OpL.callD rfl (h := clone_msg (RowF Kd.msg o.z.q3 o.x.dead) o.z.q3 o.z.c3 o.x.dead isF hl3)) (.inr (by rintro _ _ ⟨_, ⟨qc, cc, rfl, rfl, hc⟩, rfl⟩ w h; exact h.subD)) rfl ?_ DAll.nil)
          rintro _ _ ⟨_, ⟨qc, cc, rfl, rfl, hc⟩, rfl⟩
          refine D.all (rs := [10]) (by kernel_rfl) rfl (DAll.consN rfl (by kernel_rfl) (l_store1 ck_30 rfl rfl rfl (by repeat (first | exact Pick.here | apply Pick.there)) (by repeat (first | exact SetAt.here | apply SetAt.there))) (.inl (by kernel_rfl)) rfl ?_ DAll.nil)
          rintro _ _ ⟨rfl, rfl⟩
          refine D.q 11 rfl (by kernel_rfl) (by kernel_rfl) (q_field fo_33_4 rfl) (fun _ h => h.subD) ?_
          refine D.all (rs := [12]) (by kernel_rfl) rfl (DAll.consN rfl (by kernel_rfl) (l_store1 ck_31 rfl rfl rfl (by repeat (first | exact Pick.here | apply Pick.there)) (by repeat (first | exact SetAt.here | apply SetAt.there))) (.inl (by kernel_rfl)) rfl ?_ DAll.nil)
          rintro _ _ ⟨rfl, rfl⟩
          refine D.q 13 rfl (by kernel_rfl) (by kernel_rfl) (q_field fo_33_5 rfl) (fun _ h => h.subD) ?_
          refine D.all (rs := [14]) (by kernel_rfl) rfl (DAll.consN rfl (by kernel_rfl) (l_store1 ck_31 rfl rfl rfl (by repeat (first | exact Pick.here | apply Pick.there)) (by repeat (first | exact SetAt.here | apply SetAt.there))) (.inl (by kernel_rfl)) rfl ?_ DAll.nil)
          rintro _ _ ⟨rfl, rfl⟩
          refine D.done (by kernel_rfl) ?_
          refine K.seq ?_
          refine K.region ?_
          refine KO.q rfl (q_as (q_loadN ck_33 rfl rfl (by first | (apply cells_pv; (repeat (first | exact List.Mem.head _ | apply List.Mem.tail))) | (apply cells_fv; (repeat (first | exact List.Mem.head _ | apply List.Mem.tail))))) (show _ = Oz.cells ⟨o.x, ⟨qa, ca, qb, cb, qc, cc⟩⟩ from rfl)) ?_
          refine KO.loudN rfl (l_storeAll ck_33 rfl rfl ⟨rfl, rfl⟩ (oz_one _) (by repeat (first | exact Pick.here | apply Pick.there))) ?_
          rintro _ _ ⟨rfl, rfl⟩
          refine KO.done ?_
          refine K.ret (fn := Tryz.f98) Tryz.func98 (fun a w hk hs => resC Tryz.results98 hk rfl ck_33 rfl (cells_pv (by repeat (first | exact List.Mem.head _ | apply List.Mem.tail)) w hs)) (fun w hs => ?_)
          exact ⟨_, ObO ⟨o.x, ⟨qa, ca, qb, cb, qc, cc⟩⟩, rfl, ⟨⟨qa, ca, qb, cb, qc, cc⟩, rfl, rfl, ha, hb, hc⟩, hs.fitD⟩
        · rintro _ _ ⟨rfl, rfl⟩
          refine D.q 9 rfl (by kernel_rfl) (by kernel_rfl) (q_field fo_33_3 rfl) (fun _ h => h.subD) ?_
          refine D.all (rs := [5]) (by kernel_rfl) rfl (DAll.cons rfl (by kernel_rfl) (OpL.callD rfl (h := clone_msg (RowF Kd.msg o.z.q2 o.x.msgs) o.z.q2 o.z.c2 o.x.msgs isF hl2)) (.inr (by rintro _ _ ⟨_, ⟨qb, cb, rfl, rfl, hb⟩, rfl⟩ w h; exact h.subD)) rfl ?_ DAll.nil)
          rintro _ _ ⟨_, ⟨qb, cb, rfl, rfl, hb⟩, rfl⟩
          refine D.all (rs := [8]) (by kernel_rfl) rfl (DAll.cons rfl (by kernel_rfl) (OpL.callD rfl (h := clone_msg (RowF Kd.msg o.z.q3 o.x.dead) o.z.q3 o.z.c3 o.x.dead isF hl3)) (.inr (by rintro _ _ ⟨_, ⟨qc, cc, rfl, rfl, hc⟩, rfl⟩ w h; exact h.subD)) rfl ?_ DAll.nil)
          rintro _ _ ⟨_, ⟨qc, cc, rfl, rfl, hc⟩, rfl⟩
          refine D.all (rs := [10]) (by kernel_rfl) rfl (DAll.consN rfl (by kernel_rfl) (l_store1 ck_30 rfl rfl rfl (by repeat (first | exact Pick.here | apply Pick.there)) (by repeat (first | exact SetAt.here | apply SetAt.there))) (.inl (by kernel_rfl)) rfl ?_ DAll.nil)
          rintro _ _ ⟨rfl, rfl⟩
          refine D.q 11 rfl (by kernel_rfl) (by kernel_rfl) (q_field fo_33_4 rfl) (fun _ h => h.subD) ?_
          refine D.all (rs := [12]) (by kernel_rfl) rfl (DAll.consN rfl (by kernel_rfl) (l_store1 ck_31 rfl rfl rfl (by repeat (first | exact Pick.here | apply Pick.there)) (by repeat (first | exact SetAt.here | apply SetAt.there))) (.inl (by kernel_rfl)) rfl ?_ DAll.nil)
          rintro _ _ ⟨rfl, rfl⟩
          refine D.q 13 rfl (by kernel_rfl) (by kernel_rfl) (q_field fo_33_5 rfl) (fun _ h => h.subD) ?_
          refine D.all (rs := [14]) (by kernel_rfl) rfl (DAll.consN rfl (by kernel_rfl) (l_store1 ck_31 rfl rfl rfl (by repeat (first | exact Pick.here | apply Pick.there)) (by repeat (first | exact SetAt.here | apply SetAt.there))) (.inl (by kernel_rfl)) rfl ?_ DAll.nil)
          rintro _ _ ⟨rfl, rfl⟩
          refine D.done (by kernel_rfl) ?_
          refine K.seq ?_
          refine K.region ?_
          refine KO.q rfl (q_as (q_loadN ck_33 rfl rfl (by first | (apply cells_pv; (repeat (first | exact List.Mem.head _ | apply List.Mem.tail))) | (apply cells_fv; (repeat (first | exact List.Mem.head _ | apply List.Mem.tail))))) (show _ = Oz.cells ⟨o.x, ⟨qa, ca, qb, cb, qc, cc⟩⟩ from rfl)) ?_
          refine KO.loudN rfl (l_storeAll ck_33 rfl rfl ⟨rfl, rfl⟩ (oz_one _) (by repeat (first | exact Pick.here | apply Pick.there))) ?_
          rintro _ _ ⟨rfl, rfl⟩
          refine KO.done ?_
          refine K.ret (fn := Tryz.f98) Tryz.func98 (fun a w hk hs => resC Tryz.results98 hk rfl ck_33 rfl (cells_pv (by repeat (first | exact List.Mem.head _ | apply List.Mem.tail)) w hs)) (fun w hs => ?_)
          exact ⟨_, ObO ⟨o.x, ⟨qa, ca, qb, cb, qc, cc⟩⟩, rfl, ⟨⟨qa, ca, qb, cb, qc, cc⟩, rfl, rfl, ha, hb, hc⟩, hs.fitD⟩
      · rintro _ _ ⟨rfl, rfl⟩
        refine D.all (rs := [4]) (by kernel_rfl) rfl (DAll.cons rfl (by kernel_rfl) (OpQ.loud (q_load1D ck_31 rfl)) (.inl (by kernel_rfl)) rfl ?_ DAll.nil)
        rintro _ _ ⟨rfl, rfl⟩
        refine D.q 9 rfl (by kernel_rfl) (by kernel_rfl) (q_field fo_33_3 rfl) (fun _ h => h.subD) ?_
        refine D.all (rs := [5]) (by kernel_rfl) rfl (DAll.cons rfl (by kernel_rfl) (OpL.callD rfl (h := clone_msg (RowF Kd.msg o.z.q2 o.x.msgs) o.z.q2 o.z.c2 o.x.msgs isF hl2)) (.inr (by rintro _ _ ⟨_, ⟨qb, cb, rfl, rfl, hb⟩, rfl⟩ w h; exact h.subD)) rfl ?_ DAll.nil)
        rintro _ _ ⟨_, ⟨qb, cb, rfl, rfl, hb⟩, rfl⟩
        refine D.all (rs := [8]) (by kernel_rfl) rfl (DAll.cons rfl (by kernel_rfl) (OpL.callD rfl (h := clone_msg (RowF Kd.msg o.z.q3 o.x.dead) o.z.q3 o.z.c3 o.x.dead isF hl3)) (.inr (by rintro _ _ ⟨_, ⟨qc, cc, rfl, rfl, hc⟩, rfl⟩ w h; exact h.subD)) rfl ?_ DAll.nil)
        rintro _ _ ⟨_, ⟨qc, cc, rfl, rfl, hc⟩, rfl⟩
        refine D.all (rs := [10]) (by kernel_rfl) rfl (DAll.consN rfl (by kernel_rfl) (l_store1 ck_30 rfl rfl rfl (by repeat (first | exact Pick.here | apply Pick.there)) (by repeat (first | exact SetAt.here | apply SetAt.there))) (.inl (by kernel_rfl)) rfl ?_ DAll.nil)
        rintro _ _ ⟨rfl, rfl⟩
        refine D.q 11 rfl (by kernel_rfl) (by kernel_rfl) (q_field fo_33_4 rfl) (fun _ h => h.subD) ?_
        refine D.all (rs := [12]) (by kernel_rfl) rfl (DAll.consN rfl (by kernel_rfl) (l_store1 ck_31 rfl rfl rfl (by repeat (first | exact Pick.here | apply Pick.there)) (by repeat (first | exact SetAt.here | apply SetAt.there))) (.inl (by kernel_rfl)) rfl ?_ DAll.nil)
        rintro _ _ ⟨rfl, rfl⟩
        refine D.q 13 rfl (by kernel_rfl) (by kernel_rfl) (q_field fo_33_5 rfl) (fun _ h => h.subD) ?_
        refine D.all (rs := [14]) (by kernel_rfl) rfl (DAll.consN rfl (by kernel_rfl) (l_store1 ck_31 rfl rfl rfl (by repeat (first | exact Pick.here | apply Pick.there)) (by repeat (first | exact SetAt.here | apply SetAt.there))) (.inl (by kernel_rfl)) rfl ?_ DAll.nil)
        rintro _ _ ⟨rfl, rfl⟩
        refine D.done (by kernel_rfl) ?_
        refine K.seq ?_
        refine K.region ?_
        refine KO.q rfl (q_as (q_loadN ck_33 rfl rfl (by first | (apply cells_pv; (repeat (first | exact List.Mem.head _ | apply List.Mem.tail))) | (apply cells_fv; (repeat (first | exact List.Mem.head _ | apply List.Mem.tail))))) (show _ = Oz.cells ⟨o.x, ⟨qa, ca, qb, cb, qc, cc⟩⟩ from rfl)) ?_
        refine KO.loudN rfl (l_storeAll ck_33 rfl rfl ⟨rfl, rfl⟩ (oz_one _) (by repeat (first | exact Pick.here | apply Pick.there))) ?_
        rintro _ _ ⟨rfl, rfl⟩
        refine KO.done ?_
        refine K.ret (fn := Tryz.f98) Tryz.func98 (fun a w hk hs => resC Tryz.results98 hk rfl ck_33 rfl (cells_pv (by repeat (first | exact List.Mem.head _ | apply List.Mem.tail)) w hs)) (fun w hs => ?_)
        exact ⟨_, ObO ⟨o.x, ⟨qa, ca, qb, cb, qc, cc⟩⟩, rfl, ⟨⟨qa, ca, qb, cb, qc, cc⟩, rfl, rfl, ha, hb, hc⟩, hs.fitD⟩
    · rintro _ _ ⟨rfl, rfl⟩
      refine D.all (rs := [2, 7]) (by kernel_rfl) rfl (DAll.cons rfl (by kernel_rfl) (OpL.callD rfl (h := clone_rw (RowF Kd.rw o.z.q1 o.x.rows) o.z.q1 o.z.c1 o.x.rows isF hl1)) (.inr (by rintro _ _ ⟨_, ⟨qa, ca, rfl, rfl, ha⟩, rfl⟩ w h; exact h.subD)) rfl ?_ (DAll.cons rfl (by kernel_rfl) (OpQ.loud (q_load1D ck_31 rfl)) (.inl (by kernel_rfl)) rfl ?_ DAll.nil))
      · rintro _ _ ⟨_, ⟨qa, ca, rfl, rfl, ha⟩, rfl⟩
        refine D.all (rs := [5, 7]) (by kernel_rfl) rfl (DAll.cons rfl (by kernel_rfl) (OpL.callD rfl (h := clone_msg (RowF Kd.msg o.z.q2 o.x.msgs) o.z.q2 o.z.c2 o.x.msgs isF hl2)) (.inr (by rintro _ _ ⟨_, ⟨qb, cb, rfl, rfl, hb⟩, rfl⟩ w h; exact h.subD)) rfl ?_ (DAll.cons rfl (by kernel_rfl) (OpQ.loud (q_load1D ck_31 rfl)) (.inl (by kernel_rfl)) rfl ?_ DAll.nil))
        · rintro _ _ ⟨_, ⟨qb, cb, rfl, rfl, hb⟩, rfl⟩
          refine D.all (rs := [7]) (by kernel_rfl) rfl (DAll.cons rfl (by kernel_rfl) (OpQ.loud (q_load1D ck_31 rfl)) (.inl (by kernel_rfl)) rfl ?_ DAll.nil)
          rintro _ _ ⟨rfl, rfl⟩
          refine D.q 9 rfl (by kernel_rfl) (by kernel_rfl) (q_field fo_33_3 rfl) (fun _ h => h.subD) ?_
          refine D.all (rs := [8]) (by kernel_rfl) rfl (DAll.cons rfl (by kernel_rfl) (OpL.callD rfl (h := clone_msg (RowF Kd.msg o.z.q3 o.x.dead) o.z.q3 o.z.c3 o.x.dead isF hl3)) (.inr (by rintro _ _ ⟨_, ⟨qc, cc, rfl, rfl, hc⟩, rfl⟩ w h; exact h.subD)) rfl ?_ DAll.nil)
          rintro _ _ ⟨_, ⟨qc, cc, rfl, rfl, hc⟩, rfl⟩
          refine D.all (rs := [10]) (by kernel_rfl) rfl (DAll.consN rfl (by kernel_rfl) (l_store1 ck_30 rfl rfl rfl (by repeat (first | exact Pick.here | apply Pick.there)) (by repeat (first | exact SetAt.here | apply SetAt.there))) (.inl (by kernel_rfl)) rfl ?_ DAll.nil)
          rintro _ _ ⟨rfl, rfl⟩
          refine D.q 11 rfl (by kernel_rfl) (by kernel_rfl) (q_field fo_33_4 rfl) (fun _ h => h.subD) ?_
          refine D.all (rs := [12]) (by kernel_rfl) rfl (DAll.consN rfl (by kernel_rfl) (l_store1 ck_31 rfl rfl rfl (by repeat (first | exact Pick.here | apply Pick.there)) (by repeat (first | exact SetAt.here | apply SetAt.there))) (.inl (by kernel_rfl)) rfl ?_ DAll.nil)
          rintro _ _ ⟨rfl, rfl⟩
          refine D.q 13 rfl (by kernel_rfl) (by kernel_rfl) (q_field fo_33_5 rfl) (fun _ h => h.subD) ?_
          refine D.all (rs := [14]) (by kernel_rfl) rfl (DAll.consN rfl (by kernel_rfl) (l_store1 ck_31 rfl rfl rfl (by repeat (first | exact Pick.here | apply Pick.there)) (by repeat (first | exact SetAt.here | apply SetAt.there))) (.inl (by kernel_rfl)) rfl ?_ DAll.nil)
          rintro _ _ ⟨rfl, rfl⟩
          refine D.done (by kernel_rfl) ?_
          refine K.seq ?_
          refine K.region ?_
          refine KO.q rfl (q_as (q_loadN ck_33 rfl rfl (by first | (apply cells_pv; (repeat (first | exact List.Mem.head _ | apply List.Mem.tail))) | (apply cells_fv; (repeat (first | exact List.Mem.head _ | apply List.Mem.tail))))) (show _ = Oz.cells ⟨o.x, ⟨qa, ca, qb, cb, qc, cc⟩⟩ from rfl)) ?_
          refine KO.loudN rfl (l_storeAll ck_33 rfl rfl ⟨rfl, rfl⟩ (oz_one _) (by repeat (first | exact Pick.here | apply Pick.there))) ?_
          rintro _ _ ⟨rfl, rfl⟩
          refine KO.done ?_
          refine K.ret (fn := Tryz.f98) Tryz.func98 (fun a w hk hs => resC Tryz.results98 hk rfl ck_33 rfl (cells_pv (by repeat (first | exact List.Mem.head _ | apply List.Mem.tail)) w hs)) (fun w hs => ?_)
          exact ⟨_, ObO ⟨o.x, ⟨qa, ca, qb, cb, qc, cc⟩⟩, rfl, ⟨⟨qa, ca, qb, cb, qc, cc⟩, rfl, rfl, ha, hb, hc⟩, hs.fitD⟩
        · rintro _ _ ⟨rfl, rfl⟩
          refine D.q 9 rfl (by kernel_rfl) (by kernel_rfl) (q_field fo_33_3 rfl) (fun _ h => h.subD) ?_
          refine D.all (rs := [5]) (by kernel_rfl) rfl (DAll.cons rfl (by kernel_rfl) (OpL.callD rfl (h := clone_msg (RowF Kd.msg o.z.q2 o.x.msgs) o.z.q2 o.z.c2 o.x.msgs isF hl2)) (.inr (by rintro _ _ ⟨_, ⟨qb, cb, rfl, rfl, hb⟩, rfl⟩ w h; exact h.subD)) rfl ?_ DAll.nil)
          rintro _ _ ⟨_, ⟨qb, cb, rfl, rfl, hb⟩, rfl⟩
          refine D.all (rs := [8]) (by kernel_rfl) rfl (DAll.cons rfl (by kernel_rfl) (OpL.callD rfl (h := clone_msg (RowF Kd.msg o.z.q3 o.x.dead) o.z.q3 o.z.c3 o.x.dead isF hl3)) (.inr (by rintro _ _ ⟨_, ⟨qc, cc, rfl, rfl, hc⟩, rfl⟩ w h; exact h.subD)) rfl ?_ DAll.nil)
          rintro _ _ ⟨_, ⟨qc, cc, rfl, rfl, hc⟩, rfl⟩
          refine D.all (rs := [10]) (by kernel_rfl) rfl (DAll.consN rfl (by kernel_rfl) (l_store1 ck_30 rfl rfl rfl (by repeat (first | exact Pick.here | apply Pick.there)) (by repeat (first | exact SetAt.here | apply SetAt.there))) (.inl (by kernel_rfl)) rfl ?_ DAll.nil)
          rintro _ _ ⟨rfl, rfl⟩
          refine D.q 11 rfl (by kernel_rfl) (by kernel_rfl) (q_field fo_33_4 rfl) (fun _ h => h.subD) ?_
          refine D.all (rs := [12]) (by kernel_rfl) rfl (DAll.consN rfl (by kernel_rfl) (l_store1 ck_31 rfl rfl rfl (by repeat (first | exact Pick.here | apply Pick.there)) (by repeat (first | exact SetAt.here | apply SetAt.there))) (.inl (by kernel_rfl)) rfl ?_ DAll.nil)
          rintro _ _ ⟨rfl, rfl⟩
          refine D.q 13 rfl (by kernel_rfl) (by kernel_rfl) (q_field fo_33_5 rfl) (fun _ h => h.subD) ?_
          refine D.all (rs := [14]) (by kernel_rfl) rfl (DAll.consN rfl (by kernel_rfl) (l_store1 ck_31 rfl rfl rfl (by repeat (first | exact Pick.here | apply Pick.there)) (by repeat (first | exact SetAt.here | apply SetAt.there))) (.inl (by kernel_rfl)) rfl ?_ DAll.nil)
          rintro _ _ ⟨rfl, rfl⟩
          refine D.done (by kernel_rfl) ?_
          refine K.seq ?_
          refine K.region ?_
          refine KO.q rfl (q_as (q_loadN ck_33 rfl rfl (by first | (apply cells_pv; (repeat (first | exact List.Mem.head _ | apply List.Mem.tail))) | (apply cells_fv; (repeat (first | exact List.Mem.head _ | apply List.Mem.tail))))) (show _ = Oz.cells ⟨o.x, ⟨qa, ca, qb, cb, qc, cc⟩⟩ from rfl)) ?_
          refine KO.loudN rfl (l_storeAll ck_33 rfl rfl ⟨rfl, rfl⟩ (oz_one _) (by repeat (first | exact Pick.here | apply Pick.there))) ?_
          rintro _ _ ⟨rfl, rfl⟩
          refine KO.done ?_
          refine K.ret (fn := Tryz.f98) Tryz.func98 (fun a w hk hs => resC Tryz.results98 hk rfl ck_33 rfl (cells_pv (by repeat (first | exact List.Mem.head _ | apply List.Mem.tail)) w hs)) (fun w hs => ?_)
          exact ⟨_, ObO ⟨o.x, ⟨qa, ca, qb, cb, qc, cc⟩⟩, rfl, ⟨⟨qa, ca, qb, cb, qc, cc⟩, rfl, rfl, ha, hb, hc⟩, hs.fitD⟩
      · rintro _ _ ⟨rfl, rfl⟩
        refine D.all (rs := [2]) (by kernel_rfl) rfl (DAll.cons rfl (by kernel_rfl) (OpL.callD rfl (h := clone_rw (RowF Kd.rw o.z.q1 o.x.rows) o.z.q1 o.z.c1 o.x.rows isF hl1)) (.inl (by kernel_rfl)) rfl ?_ DAll.nil)
        rintro _ _ ⟨_, ⟨qa, ca, rfl, rfl, ha⟩, rfl⟩
        refine D.q 9 rfl (by kernel_rfl) (by kernel_rfl) (q_field fo_33_3 rfl) (fun _ h => h.subD) ?_
        refine D.all (rs := [5]) (by kernel_rfl) rfl (DAll.cons rfl (by kernel_rfl) (OpL.callD rfl (h := clone_msg (RowF Kd.msg o.z.q2 o.x.msgs) o.z.q2 o.z.c2 o.x.msgs isF hl2)) (.inr (by rintro _ _ ⟨_, ⟨qb, cb, rfl, rfl, hb⟩, rfl⟩ w h; exact h.subD)) rfl ?_ DAll.nil)
        rintro _ _ ⟨_, ⟨qb, cb, rfl, rfl, hb⟩, rfl⟩
        refine D.all (rs := [8]) (by kernel_rfl) rfl (DAll.cons rfl (by kernel_rfl) (OpL.callD rfl (h := clone_msg (RowF Kd.msg o.z.q3 o.x.dead) o.z.q3 o.z.c3 o.x.dead isF hl3)) (.inr (by rintro _ _ ⟨_, ⟨qc, cc, rfl, rfl, hc⟩, rfl⟩ w h; exact h.subD)) rfl ?_ DAll.nil)
        rintro _ _ ⟨_, ⟨qc, cc, rfl, rfl, hc⟩, rfl⟩
        refine D.all (rs := [10]) (by kernel_rfl) rfl (DAll.consN rfl (by kernel_rfl) (l_store1 ck_30 rfl rfl rfl (by repeat (first | exact Pick.here | apply Pick.there)) (by repeat (first | exact SetAt.here | apply SetAt.there))) (.inl (by kernel_rfl)) rfl ?_ DAll.nil)
        rintro _ _ ⟨rfl, rfl⟩
        refine D.q 11 rfl (by kernel_rfl) (by kernel_rfl) (q_field fo_33_4 rfl) (fun _ h => h.subD) ?_
        refine D.all (rs := [12]) (by kernel_rfl) rfl (DAll.consN rfl (by kernel_rfl) (l_store1 ck_31 rfl rfl rfl (by repeat (first | exact Pick.here | apply Pick.there)) (by repeat (first | exact SetAt.here | apply SetAt.there))) (.inl (by kernel_rfl)) rfl ?_ DAll.nil)
        rintro _ _ ⟨rfl, rfl⟩
        refine D.q 13 rfl (by kernel_rfl) (by kernel_rfl) (q_field fo_33_5 rfl) (fun _ h => h.subD) ?_
        refine D.all (rs := [14]) (by kernel_rfl) rfl (DAll.consN rfl (by kernel_rfl) (l_store1 ck_31 rfl rfl rfl (by repeat (first | exact Pick.here | apply Pick.there)) (by repeat (first | exact SetAt.here | apply SetAt.there))) (.inl (by kernel_rfl)) rfl ?_ DAll.nil)
        rintro _ _ ⟨rfl, rfl⟩
        refine D.done (by kernel_rfl) ?_
        refine K.seq ?_
        refine K.region ?_
        refine KO.q rfl (q_as (q_loadN ck_33 rfl rfl (by first | (apply cells_pv; (repeat (first | exact List.Mem.head _ | apply List.Mem.tail))) | (apply cells_fv; (repeat (first | exact List.Mem.head _ | apply List.Mem.tail))))) (show _ = Oz.cells ⟨o.x, ⟨qa, ca, qb, cb, qc, cc⟩⟩ from rfl)) ?_
        refine KO.loudN rfl (l_storeAll ck_33 rfl rfl ⟨rfl, rfl⟩ (oz_one _) (by repeat (first | exact Pick.here | apply Pick.there))) ?_
        rintro _ _ ⟨rfl, rfl⟩
        refine KO.done ?_
        refine K.ret (fn := Tryz.f98) Tryz.func98 (fun a w hk hs => resC Tryz.results98 hk rfl ck_33 rfl (cells_pv (by repeat (first | exact List.Mem.head _ | apply List.Mem.tail)) w hs)) (fun w hs => ?_)
        exact ⟨_, ObO ⟨o.x, ⟨qa, ca, qb, cb, qc, cc⟩⟩, rfl, ⟨⟨qa, ca, qb, cb, qc, cc⟩, rfl, rfl, ha, hb, hc⟩, hs.fitD⟩
    · rintro _ _ ⟨rfl, rfl⟩
      refine D.all (rs := [2, 4]) (by kernel_rfl) rfl (DAll.cons rfl (by kernel_rfl) (OpL.callD rfl (h := clone_rw (RowF Kd.rw o.z.q1 o.x.rows) o.z.q1 o.z.c1 o.x.rows isF hl1)) (.inr (by rintro _ _ ⟨_, ⟨qa, ca, rfl, rfl, ha⟩, rfl⟩ w h; exact h.subD)) rfl ?_ (DAll.cons rfl (by kernel_rfl) (OpQ.loud (q_load1D ck_31 rfl)) (.inl (by kernel_rfl)) rfl ?_ DAll.nil))
      · rintro _ _ ⟨_, ⟨qa, ca, rfl, rfl, ha⟩, rfl⟩
        refine D.all (rs := [4]) (by kernel_rfl) rfl (DAll.cons rfl (by kernel_rfl) (OpQ.loud (q_load1D ck_31 rfl)) (.inl (by kernel_rfl)) rfl ?_ DAll.nil)
        rintro _ _ ⟨rfl, rfl⟩
        refine D.q 9 rfl (by kernel_rfl) (by kernel_rfl) (q_field fo_33_3 rfl) (fun _ h => h.subD) ?_
        refine D.all (rs := [5]) (by kernel_rfl) rfl (DAll.cons rfl (by kernel_rfl) (OpL.callD rfl (h := clone_msg (RowF Kd.msg o.z.q2 o.x.msgs) o.z.q2 o.z.c2 o.x.msgs isF hl2)) (.inr (by rintro _ _ ⟨_, ⟨qb, cb, rfl, rfl, hb⟩, rfl⟩ w h; exact h.subD)) rfl ?_ DAll.nil)
        rintro _ _ ⟨_, ⟨qb, cb, rfl, rfl, hb⟩, rfl⟩
        refine D.all (rs := [8]) (by kernel_rfl) rfl (DAll.cons rfl (by kernel_rfl) (OpL.callD rfl (h := clone_msg (RowF Kd.msg o.z.q3 o.x.dead) o.z.q3 o.z.c3 o.x.dead isF hl3)) (.inr (by rintro _ _ ⟨_, ⟨qc, cc, rfl, rfl, hc⟩, rfl⟩ w h; exact h.subD)) rfl ?_ DAll.nil)
        rintro _ _ ⟨_, ⟨qc, cc, rfl, rfl, hc⟩, rfl⟩
        refine D.all (rs := [10]) (by kernel_rfl) rfl (DAll.consN rfl (by kernel_rfl) (l_store1 ck_30 rfl rfl rfl (by repeat (first | exact Pick.here | apply Pick.there)) (by repeat (first | exact SetAt.here | apply SetAt.there))) (.inl (by kernel_rfl)) rfl ?_ DAll.nil)
        rintro _ _ ⟨rfl, rfl⟩
        refine D.q 11 rfl (by kernel_rfl) (by kernel_rfl) (q_field fo_33_4 rfl) (fun _ h => h.subD) ?_
        refine D.all (rs := [12]) (by kernel_rfl) rfl (DAll.consN rfl (by kernel_rfl) (l_store1 ck_31 rfl rfl rfl (by repeat (first | exact Pick.here | apply Pick.there)) (by repeat (first | exact SetAt.here | apply SetAt.there))) (.inl (by kernel_rfl)) rfl ?_ DAll.nil)
        rintro _ _ ⟨rfl, rfl⟩
        refine D.q 13 rfl (by kernel_rfl) (by kernel_rfl) (q_field fo_33_5 rfl) (fun _ h => h.subD) ?_
        refine D.all (rs := [14]) (by kernel_rfl) rfl (DAll.consN rfl (by kernel_rfl) (l_store1 ck_31 rfl rfl rfl (by repeat (first | exact Pick.here | apply Pick.there)) (by repeat (first | exact SetAt.here | apply SetAt.there))) (.inl (by kernel_rfl)) rfl ?_ DAll.nil)
        rintro _ _ ⟨rfl, rfl⟩
        refine D.done (by kernel_rfl) ?_
        refine K.seq ?_
        refine K.region ?_
        refine KO.q rfl (q_as (q_loadN ck_33 rfl rfl (by first | (apply cells_pv; (repeat (first | exact List.Mem.head _ | apply List.Mem.tail))) | (apply cells_fv; (repeat (first | exact List.Mem.head _ | apply List.Mem.tail))))) (show _ = Oz.cells ⟨o.x, ⟨qa, ca, qb, cb, qc, cc⟩⟩ from rfl)) ?_
        refine KO.loudN rfl (l_storeAll ck_33 rfl rfl ⟨rfl, rfl⟩ (oz_one _) (by repeat (first | exact Pick.here | apply Pick.there))) ?_
        rintro _ _ ⟨rfl, rfl⟩
        refine KO.done ?_
        refine K.ret (fn := Tryz.f98) Tryz.func98 (fun a w hk hs => resC Tryz.results98 hk rfl ck_33 rfl (cells_pv (by repeat (first | exact List.Mem.head _ | apply List.Mem.tail)) w hs)) (fun w hs => ?_)
        exact ⟨_, ObO ⟨o.x, ⟨qa, ca, qb, cb, qc, cc⟩⟩, rfl, ⟨⟨qa, ca, qb, cb, qc, cc⟩, rfl, rfl, ha, hb, hc⟩, hs.fitD⟩
      · rintro _ _ ⟨rfl, rfl⟩
        refine D.all (rs := [2]) (by kernel_rfl) rfl (DAll.cons rfl (by kernel_rfl) (OpL.callD rfl (h := clone_rw (RowF Kd.rw o.z.q1 o.x.rows) o.z.q1 o.z.c1 o.x.rows isF hl1)) (.inl (by kernel_rfl)) rfl ?_ DAll.nil)
        rintro _ _ ⟨_, ⟨qa, ca, rfl, rfl, ha⟩, rfl⟩
        refine D.q 9 rfl (by kernel_rfl) (by kernel_rfl) (q_field fo_33_3 rfl) (fun _ h => h.subD) ?_
        refine D.all (rs := [5]) (by kernel_rfl) rfl (DAll.cons rfl (by kernel_rfl) (OpL.callD rfl (h := clone_msg (RowF Kd.msg o.z.q2 o.x.msgs) o.z.q2 o.z.c2 o.x.msgs isF hl2)) (.inr (by rintro _ _ ⟨_, ⟨qb, cb, rfl, rfl, hb⟩, rfl⟩ w h; exact h.subD)) rfl ?_ DAll.nil)
        rintro _ _ ⟨_, ⟨qb, cb, rfl, rfl, hb⟩, rfl⟩
        refine D.all (rs := [8]) (by kernel_rfl) rfl (DAll.cons rfl (by kernel_rfl) (OpL.callD rfl (h := clone_msg (RowF Kd.msg o.z.q3 o.x.dead) o.z.q3 o.z.c3 o.x.dead isF hl3)) (.inr (by rintro _ _ ⟨_, ⟨qc, cc, rfl, rfl, hc⟩, rfl⟩ w h; exact h.subD)) rfl ?_ DAll.nil)
        rintro _ _ ⟨_, ⟨qc, cc, rfl, rfl, hc⟩, rfl⟩
        refine D.all (rs := [10]) (by kernel_rfl) rfl (DAll.consN rfl (by kernel_rfl) (l_store1 ck_30 rfl rfl rfl (by repeat (first | exact Pick.here | apply Pick.there)) (by repeat (first | exact SetAt.here | apply SetAt.there))) (.inl (by kernel_rfl)) rfl ?_ DAll.nil)
        rintro _ _ ⟨rfl, rfl⟩
        refine D.q 11 rfl (by kernel_rfl) (by kernel_rfl) (q_field fo_33_4 rfl) (fun _ h => h.subD) ?_
        refine D.all (rs := [12]) (by kernel_rfl) rfl (DAll.consN rfl (by kernel_rfl) (l_store1 ck_31 rfl rfl rfl (by repeat (first | exact Pick.here | apply Pick.there)) (by repeat (first | exact SetAt.here | apply SetAt.there))) (.inl (by kernel_rfl)) rfl ?_ DAll.nil)
        rintro _ _ ⟨rfl, rfl⟩
        refine D.q 13 rfl (by kernel_rfl) (by kernel_rfl) (q_field fo_33_5 rfl) (fun _ h => h.subD) ?_
        refine D.all (rs := [14]) (by kernel_rfl) rfl (DAll.consN rfl (by kernel_rfl) (l_store1 ck_31 rfl rfl rfl (by repeat (first | exact Pick.here | apply Pick.there)) (by repeat (first | exact SetAt.here | apply SetAt.there))) (.inl (by kernel_rfl)) rfl ?_ DAll.nil)
        rintro _ _ ⟨rfl, rfl⟩
        refine D.done (by kernel_rfl) ?_
        refine K.seq ?_
        refine K.region ?_
        refine KO.q rfl (q_as (q_loadN ck_33 rfl rfl (by first | (apply cells_pv; (repeat (first | exact List.Mem.head _ | apply List.Mem.tail))) | (apply cells_fv; (repeat (first | exact List.Mem.head _ | apply List.Mem.tail))))) (show _ = Oz.cells ⟨o.x, ⟨qa, ca, qb, cb, qc, cc⟩⟩ from rfl)) ?_
        refine KO.loudN rfl (l_storeAll ck_33 rfl rfl ⟨rfl, rfl⟩ (oz_one _) (by repeat (first | exact Pick.here | apply Pick.there))) ?_
        rintro _ _ ⟨rfl, rfl⟩
        refine KO.done ?_
        refine K.ret (fn := Tryz.f98) Tryz.func98 (fun a w hk hs => resC Tryz.results98 hk rfl ck_33 rfl (cells_pv (by repeat (first | exact List.Mem.head _ | apply List.Mem.tail)) w hs)) (fun w hs => ?_)
        exact ⟨_, ObO ⟨o.x, ⟨qa, ca, qb, cb, qc, cc⟩⟩, rfl, ⟨⟨qa, ca, qb, cb, qc, cc⟩, rfl, rfl, ha, hb, hc⟩, hs.fitD⟩
  · rintro _ _ ⟨rfl, rfl⟩
    refine D.all (rs := [1, 7]) (by kernel_rfl) rfl (DAll.cons rfl (by kernel_rfl) (OpQ.loud (q_load1D ck_30 rfl)) (.inr (by rintro _ _ ⟨rfl, rfl⟩ w h; exact h.subD)) rfl ?_ (DAll.cons rfl (by kernel_rfl) (OpQ.loud (q_load1D ck_31 rfl)) (.inr (by rintro _ _ ⟨rfl, rfl⟩ w h; exact h.subD)) rfl ?_ DAll.nil))
    · rintro _ _ ⟨rfl, rfl⟩
      refine D.all (rs := [2, 7]) (by kernel_rfl) rfl (DAll.cons rfl (by kernel_rfl) (OpL.callD rfl (h := clone_rw (RowF Kd.rw o.z.q1 o.x.rows) o.z.q1 o.z.c1 o.x.rows isF hl1)) (.inr (by rintro _ _ ⟨_, ⟨qa, ca, rfl, rfl, ha⟩, rfl⟩ w h; exact h.subD)) rfl ?_ (DAll.cons rfl (by kernel_rfl) (OpQ.loud (q_load1D ck_31 rfl)) (.inl (by kernel_rfl)) rfl ?_ DAll.nil))
      · rintro _ _ ⟨_, ⟨qa, ca, rfl, rfl, ha⟩, rfl⟩
        refine D.all (rs := [5, 7]) (by kernel_rfl) rfl (DAll.cons rfl (by kernel_rfl) (OpL.callD rfl (h := clone_msg (RowF Kd.msg o.z.q2 o.x.msgs) o.z.q2 o.z.c2 o.x.msgs isF hl2)) (.inr (by rintro _ _ ⟨_, ⟨qb, cb, rfl, rfl, hb⟩, rfl⟩ w h; exact h.subD)) rfl ?_ (DAll.cons rfl (by kernel_rfl) (OpQ.loud (q_load1D ck_31 rfl)) (.inl (by kernel_rfl)) rfl ?_ DAll.nil))
        · rintro _ _ ⟨_, ⟨qb, cb, rfl, rfl, hb⟩, rfl⟩
          refine D.all (rs := [7]) (by kernel_rfl) rfl (DAll.cons rfl (by kernel_rfl) (OpQ.loud (q_load1D ck_31 rfl)) (.inl (by kernel_rfl)) rfl ?_ DAll.nil)
          rintro _ _ ⟨rfl, rfl⟩
          refine D.q 9 rfl (by kernel_rfl) (by kernel_rfl) (q_field fo_33_3 rfl) (fun _ h => h.subD) ?_
          refine D.all (rs := [8]) (by kernel_rfl) rfl (DAll.cons rfl (by kernel_rfl) (OpL.callD rfl (h := clone_msg (RowF Kd.msg o.z.q3 o.x.dead) o.z.q3 o.z.c3 o.x.dead isF hl3)) (.inr (by rintro _ _ ⟨_, ⟨qc, cc, rfl, rfl, hc⟩, rfl⟩ w h; exact h.subD)) rfl ?_ DAll.nil)
          rintro _ _ ⟨_, ⟨qc, cc, rfl, rfl, hc⟩, rfl⟩
          refine D.all (rs := [10]) (by kernel_rfl) rfl (DAll.consN rfl (by kernel_rfl) (l_store1 ck_30 rfl rfl rfl (by repeat (first | exact Pick.here | apply Pick.there)) (by repeat (first | exact SetAt.here | apply SetAt.there))) (.inl (by kernel_rfl)) rfl ?_ DAll.nil)
          rintro _ _ ⟨rfl, rfl⟩
          refine D.q 11 rfl (by kernel_rfl) (by kernel_rfl) (q_field fo_33_4 rfl) (fun _ h => h.subD) ?_
          refine D.all (rs := [12]) (by kernel_rfl) rfl (DAll.consN rfl (by kernel_rfl) (l_store1 ck_31 rfl rfl rfl (by repeat (first | exact Pick.here | apply Pick.there)) (by repeat (first | exact SetAt.here | apply SetAt.there))) (.inl (by kernel_rfl)) rfl ?_ DAll.nil)
          rintro _ _ ⟨rfl, rfl⟩
          refine D.q 13 rfl (by kernel_rfl) (by kernel_rfl) (q_field fo_33_5 rfl) (fun _ h => h.subD) ?_
          refine D.all (rs := [14]) (by kernel_rfl) rfl (DAll.consN rfl (by kernel_rfl) (l_store1 ck_31 rfl rfl rfl (by repeat (first | exact Pick.here | apply Pick.there)) (by repeat (first | exact SetAt.here | apply SetAt.there))) (.inl (by kernel_rfl)) rfl ?_ DAll.nil)
          rintro _ _ ⟨rfl, rfl⟩
          refine D.done (by kernel_rfl) ?_
          refine K.seq ?_
          refine K.region ?_
          refine KO.q rfl (q_as (q_loadN ck_33 rfl rfl (by first | (apply cells_pv; (repeat (first | exact List.Mem.head _ | apply List.Mem.tail))) | (apply cells_fv; (repeat (first | exact List.Mem.head _ | apply List.Mem.tail))))) (show _ = Oz.cells ⟨o.x, ⟨qa, ca, qb, cb, qc, cc⟩⟩ from rfl)) ?_
          refine KO.loudN rfl (l_storeAll ck_33 rfl rfl ⟨rfl, rfl⟩ (oz_one _) (by repeat (first | exact Pick.here | apply Pick.there))) ?_
          rintro _ _ ⟨rfl, rfl⟩
          refine KO.done ?_
          refine K.ret (fn := Tryz.f98) Tryz.func98 (fun a w hk hs => resC Tryz.results98 hk rfl ck_33 rfl (cells_pv (by repeat (first | exact List.Mem.head _ | apply List.Mem.tail)) w hs)) (fun w hs => ?_)
          exact ⟨_, ObO ⟨o.x, ⟨qa, ca, qb, cb, qc, cc⟩⟩, rfl, ⟨⟨qa, ca, qb, cb, qc, cc⟩, rfl, rfl, ha, hb, hc⟩, hs.fitD⟩
        · rintro _ _ ⟨rfl, rfl⟩
          refine D.q 9 rfl (by kernel_rfl) (by kernel_rfl) (q_field fo_33_3 rfl) (fun _ h => h.subD) ?_
          refine D.all (rs := [5]) (by kernel_rfl) rfl (DAll.cons rfl (by kernel_rfl) (OpL.callD rfl (h := clone_msg (RowF Kd.msg o.z.q2 o.x.msgs) o.z.q2 o.z.c2 o.x.msgs isF hl2)) (.inr (by rintro _ _ ⟨_, ⟨qb, cb, rfl, rfl, hb⟩, rfl⟩ w h; exact h.subD)) rfl ?_ DAll.nil)
          rintro _ _ ⟨_, ⟨qb, cb, rfl, rfl, hb⟩, rfl⟩
          refine D.all (rs := [8]) (by kernel_rfl) rfl (DAll.cons rfl (by kernel_rfl) (OpL.callD rfl (h := clone_msg (RowF Kd.msg o.z.q3 o.x.dead) o.z.q3 o.z.c3 o.x.dead isF hl3)) (.inr (by rintro _ _ ⟨_, ⟨qc, cc, rfl, rfl, hc⟩, rfl⟩ w h; exact h.subD)) rfl ?_ DAll.nil)
          rintro _ _ ⟨_, ⟨qc, cc, rfl, rfl, hc⟩, rfl⟩
          refine D.all (rs := [10]) (by kernel_rfl) rfl (DAll.consN rfl (by kernel_rfl) (l_store1 ck_30 rfl rfl rfl (by repeat (first | exact Pick.here | apply Pick.there)) (by repeat (first | exact SetAt.here | apply SetAt.there))) (.inl (by kernel_rfl)) rfl ?_ DAll.nil)
          rintro _ _ ⟨rfl, rfl⟩
          refine D.q 11 rfl (by kernel_rfl) (by kernel_rfl) (q_field fo_33_4 rfl) (fun _ h => h.subD) ?_
          refine D.all (rs := [12]) (by kernel_rfl) rfl (DAll.consN rfl (by kernel_rfl) (l_store1 ck_31 rfl rfl rfl (by repeat (first | exact Pick.here | apply Pick.there)) (by repeat (first | exact SetAt.here | apply SetAt.there))) (.inl (by kernel_rfl)) rfl ?_ DAll.nil)
          rintro _ _ ⟨rfl, rfl⟩
          refine D.q 13 rfl (by kernel_rfl) (by kernel_rfl) (q_field fo_33_5 rfl) (fun _ h => h.subD) ?_
          refine D.all (rs := [14]) (by kernel_rfl) rfl (DAll.consN rfl (by kernel_rfl) (l_store1 ck_31 rfl rfl rfl (by repeat (first | exact Pick.here | apply Pick.there)) (by repeat (first | exact SetAt.here | apply SetAt.there))) (.inl (by kernel_rfl)) rfl ?_ DAll.nil)
          rintro _ _ ⟨rfl, rfl⟩
          refine D.done (by kernel_rfl) ?_
          refine K.seq ?_
          refine K.region ?_
          refine KO.q rfl (q_as (q_loadN ck_33 rfl rfl (by first | (apply cells_pv; (repeat (first | exact List.Mem.head _ | apply List.Mem.tail))) | (apply cells_fv; (repeat (first | exact List.Mem.head _ | apply List.Mem.tail))))) (show _ = Oz.cells ⟨o.x, ⟨qa, ca, qb, cb, qc, cc⟩⟩ from rfl)) ?_
          refine KO.loudN rfl (l_storeAll ck_33 rfl rfl ⟨rfl, rfl⟩ (oz_one _) (by repeat (first | exact Pick.here | apply Pick.there))) ?_
          rintro _ _ ⟨rfl, rfl⟩
          refine KO.done ?_
          refine K.ret (fn := Tryz.f98) Tryz.func98 (fun a w hk hs => resC Tryz.results98 hk rfl ck_33 rfl (cells_pv (by repeat (first | exact List.Mem.head _ | apply List.Mem.tail)) w hs)) (fun w hs => ?_)
          exact ⟨_, ObO ⟨o.x, ⟨qa, ca, qb, cb, qc, cc⟩⟩, rfl, ⟨⟨qa, ca, qb, cb, qc, cc⟩, rfl, rfl, ha, hb, hc⟩, hs.fitD⟩
      · rintro _ _ ⟨rfl, rfl⟩
        refine D.all (rs := [2]) (by kernel_rfl) rfl (DAll.cons rfl (by kernel_rfl) (OpL.callD rfl (h := clone_rw (RowF Kd.rw o.z.q1 o.x.rows) o.z.q1 o.z.c1 o.x.rows isF hl1)) (.inl (by kernel_rfl)) rfl ?_ DAll.nil)
        rintro _ _ ⟨_, ⟨qa, ca, rfl, rfl, ha⟩, rfl⟩
        refine D.q 9 rfl (by kernel_rfl) (by kernel_rfl) (q_field fo_33_3 rfl) (fun _ h => h.subD) ?_
        refine D.all (rs := [5]) (by kernel_rfl) rfl (DAll.cons rfl (by kernel_rfl) (OpL.callD rfl (h := clone_msg (RowF Kd.msg o.z.q2 o.x.msgs) o.z.q2 o.z.c2 o.x.msgs isF hl2)) (.inr (by rintro _ _ ⟨_, ⟨qb, cb, rfl, rfl, hb⟩, rfl⟩ w h; exact h.subD)) rfl ?_ DAll.nil)
        rintro _ _ ⟨_, ⟨qb, cb, rfl, rfl, hb⟩, rfl⟩
        refine D.all (rs := [8]) (by kernel_rfl) rfl (DAll.cons rfl (by kernel_rfl) (OpL.callD rfl (h := clone_msg (RowF Kd.msg o.z.q3 o.x.dead) o.z.q3 o.z.c3 o.x.dead isF hl3)) (.inr (by rintro _ _ ⟨_, ⟨qc, cc, rfl, rfl, hc⟩, rfl⟩ w h; exact h.subD)) rfl ?_ DAll.nil)
        rintro _ _ ⟨_, ⟨qc, cc, rfl, rfl, hc⟩, rfl⟩
        refine D.all (rs := [10]) (by kernel_rfl) rfl (DAll.consN rfl (by kernel_rfl) (l_store1 ck_30 rfl rfl rfl (by repeat (first | exact Pick.here | apply Pick.there)) (by repeat (first | exact SetAt.here | apply SetAt.there))) (.inl (by kernel_rfl)) rfl ?_ DAll.nil)
        rintro _ _ ⟨rfl, rfl⟩
        refine D.q 11 rfl (by kernel_rfl) (by kernel_rfl) (q_field fo_33_4 rfl) (fun _ h => h.subD) ?_
        refine D.all (rs := [12]) (by kernel_rfl) rfl (DAll.consN rfl (by kernel_rfl) (l_store1 ck_31 rfl rfl rfl (by repeat (first | exact Pick.here | apply Pick.there)) (by repeat (first | exact SetAt.here | apply SetAt.there))) (.inl (by kernel_rfl)) rfl ?_ DAll.nil)
        rintro _ _ ⟨rfl, rfl⟩
        refine D.q 13 rfl (by kernel_rfl) (by kernel_rfl) (q_field fo_33_5 rfl) (fun _ h => h.subD) ?_
        refine D.all (rs := [14]) (by kernel_rfl) rfl (DAll.consN rfl (by kernel_rfl) (l_store1 ck_31 rfl rfl rfl (by repeat (first | exact Pick.here | apply Pick.there)) (by repeat (first | exact SetAt.here | apply SetAt.there))) (.inl (by kernel_rfl)) rfl ?_ DAll.nil)
        rintro _ _ ⟨rfl, rfl⟩
        refine D.done (by kernel_rfl) ?_
        refine K.seq ?_
        refine K.region ?_
        refine KO.q rfl (q_as (q_loadN ck_33 rfl rfl (by first | (apply cells_pv; (repeat (first | exact List.Mem.head _ | apply List.Mem.tail))) | (apply cells_fv; (repeat (first | exact List.Mem.head _ | apply List.Mem.tail))))) (show _ = Oz.cells ⟨o.x, ⟨qa, ca, qb, cb, qc, cc⟩⟩ from rfl)) ?_
        refine KO.loudN rfl (l_storeAll ck_33 rfl rfl ⟨rfl, rfl⟩ (oz_one _) (by repeat (first | exact Pick.here | apply Pick.there))) ?_
        rintro _ _ ⟨rfl, rfl⟩
        refine KO.done ?_
        refine K.ret (fn := Tryz.f98) Tryz.func98 (fun a w hk hs => resC Tryz.results98 hk rfl ck_33 rfl (cells_pv (by repeat (first | exact List.Mem.head _ | apply List.Mem.tail)) w hs)) (fun w hs => ?_)
        exact ⟨_, ObO ⟨o.x, ⟨qa, ca, qb, cb, qc, cc⟩⟩, rfl, ⟨⟨qa, ca, qb, cb, qc, cc⟩, rfl, rfl, ha, hb, hc⟩, hs.fitD⟩
    · rintro _ _ ⟨rfl, rfl⟩
      refine D.all (rs := [1]) (by kernel_rfl) rfl (DAll.cons rfl (by kernel_rfl) (OpQ.loud (q_load1D ck_30 rfl)) (.inl (by kernel_rfl)) rfl ?_ DAll.nil)
      rintro _ _ ⟨rfl, rfl⟩
      refine D.all (rs := [2]) (by kernel_rfl) rfl (DAll.cons rfl (by kernel_rfl) (OpL.callD rfl (h := clone_rw (RowF Kd.rw o.z.q1 o.x.rows) o.z.q1 o.z.c1 o.x.rows isF hl1)) (.inl (by kernel_rfl)) rfl ?_ DAll.nil)
      rintro _ _ ⟨_, ⟨qa, ca, rfl, rfl, ha⟩, rfl⟩
      refine D.q 9 rfl (by kernel_rfl) (by kernel_rfl) (q_field fo_33_3 rfl) (fun _ h => h.subD) ?_
      refine D.all (rs := [5]) (by kernel_rfl) rfl (DAll.cons rfl (by kernel_rfl) (OpL.callD rfl (h := clone_msg (RowF Kd.msg o.z.q2 o.x.msgs) o.z.q2 o.z.c2 o.x.msgs isF hl2)) (.inr (by rintro _ _ ⟨_, ⟨qb, cb, rfl, rfl, hb⟩, rfl⟩ w h; exact h.subD)) rfl ?_ DAll.nil)
      rintro _ _ ⟨_, ⟨qb, cb, rfl, rfl, hb⟩, rfl⟩
      refine D.all (rs := [8]) (by kernel_rfl) rfl (DAll.cons rfl (by kernel_rfl) (OpL.callD rfl (h := clone_msg (RowF Kd.msg o.z.q3 o.x.dead) o.z.q3 o.z.c3 o.x.dead isF hl3)) (.inr (by rintro _ _ ⟨_, ⟨qc, cc, rfl, rfl, hc⟩, rfl⟩ w h; exact h.subD)) rfl ?_ DAll.nil)
      rintro _ _ ⟨_, ⟨qc, cc, rfl, rfl, hc⟩, rfl⟩
      refine D.all (rs := [10]) (by kernel_rfl) rfl (DAll.consN rfl (by kernel_rfl) (l_store1 ck_30 rfl rfl rfl (by repeat (first | exact Pick.here | apply Pick.there)) (by repeat (first | exact SetAt.here | apply SetAt.there))) (.inl (by kernel_rfl)) rfl ?_ DAll.nil)
      rintro _ _ ⟨rfl, rfl⟩
      refine D.q 11 rfl (by kernel_rfl) (by kernel_rfl) (q_field fo_33_4 rfl) (fun _ h => h.subD) ?_
      refine D.all (rs := [12]) (by kernel_rfl) rfl (DAll.consN rfl (by kernel_rfl) (l_store1 ck_31 rfl rfl rfl (by repeat (first | exact Pick.here | apply Pick.there)) (by repeat (first | exact SetAt.here | apply SetAt.there))) (.inl (by kernel_rfl)) rfl ?_ DAll.nil)
      rintro _ _ ⟨rfl, rfl⟩
      refine D.q 13 rfl (by kernel_rfl) (by kernel_rfl) (q_field fo_33_5 rfl) (fun _ h => h.subD) ?_
      refine D.all (rs := [14]) (by kernel_rfl) rfl (DAll.consN rfl (by kernel_rfl) (l_store1 ck_31 rfl rfl rfl (by repeat (first | exact Pick.here | apply Pick.there)) (by repeat (first | exact SetAt.here | apply SetAt.there))) (.inl (by kernel_rfl)) rfl ?_ DAll.nil)
      rintro _ _ ⟨rfl, rfl⟩
      refine D.done (by kernel_rfl) ?_
      refine K.seq ?_
      refine K.region ?_
      refine KO.q rfl (q_as (q_loadN ck_33 rfl rfl (by first | (apply cells_pv; (repeat (first | exact List.Mem.head _ | apply List.Mem.tail))) | (apply cells_fv; (repeat (first | exact List.Mem.head _ | apply List.Mem.tail))))) (show _ = Oz.cells ⟨o.x, ⟨qa, ca, qb, cb, qc, cc⟩⟩ from rfl)) ?_
      refine KO.loudN rfl (l_storeAll ck_33 rfl rfl ⟨rfl, rfl⟩ (oz_one _) (by repeat (first | exact Pick.here | apply Pick.there))) ?_
      rintro _ _ ⟨rfl, rfl⟩
      refine KO.done ?_
      refine K.ret (fn := Tryz.f98) Tryz.func98 (fun a w hk hs => resC Tryz.results98 hk rfl ck_33 rfl (cells_pv (by repeat (first | exact List.Mem.head _ | apply List.Mem.tail)) w hs)) (fun w hs => ?_)
      exact ⟨_, ObO ⟨o.x, ⟨qa, ca, qb, cb, qc, cc⟩⟩, rfl, ⟨⟨qa, ca, qb, cb, qc, cc⟩, rfl, rfl, ha, hb, hc⟩, hs.fitD⟩
  · rintro _ _ ⟨rfl, rfl⟩
    refine D.all (rs := [1, 4]) (by kernel_rfl) rfl (DAll.cons rfl (by kernel_rfl) (OpQ.loud (q_load1D ck_30 rfl)) (.inr (by rintro _ _ ⟨rfl, rfl⟩ w h; exact h.subD)) rfl ?_ (DAll.cons rfl (by kernel_rfl) (OpQ.loud (q_load1D ck_31 rfl)) (.inr (by rintro _ _ ⟨rfl, rfl⟩ w h; exact h.subD)) rfl ?_ DAll.nil))
    · rintro _ _ ⟨rfl, rfl⟩
      refine D.all (rs := [2, 4]) (by kernel_rfl) rfl (DAll.cons rfl (by kernel_rfl) (OpL.callD rfl (h := clone_rw (RowF Kd.rw o.z.q1 o.x.rows) o.z.q1 o.z.c1 o.x.rows isF hl1)) (.inr (by rintro _ _ ⟨_, ⟨qa, ca, rfl, rfl, ha⟩, rfl⟩ w h; exact h.subD)) rfl ?_ (DAll.cons rfl (by kernel_rfl) (OpQ.loud (q_load1D ck_31 rfl)) (.inl (by kernel_rfl)) rfl ?_ DAll.nil))
      · rintro _ _ ⟨_, ⟨qa, ca, rfl, rfl, ha⟩, rfl⟩
        refine D.all (rs := [4]) (by kernel_rfl) rfl (DAll.cons rfl (by kernel_rfl) (OpQ.loud (q_load1D ck_31 rfl)) (.inl (by kernel_rfl)) rfl ?_ DAll.nil)
        rintro _ _ ⟨rfl, rfl⟩
        refine D.q 9 rfl (by kernel_rfl) (by kernel_rfl) (q_field fo_33_3 rfl) (fun _ h => h.subD) ?_
        refine D.all (rs := [5]) (by kernel_rfl) rfl (DAll.cons rfl (by kernel_rfl) (OpL.callD rfl (h := clone_msg (RowF Kd.msg o.z.q2 o.x.msgs) o.z.q2 o.z.c2 o.x.msgs isF hl2)) (.inr (by rintro _ _ ⟨_, ⟨qb, cb, rfl, rfl, hb⟩, rfl⟩ w h; exact h.subD)) rfl ?_ DAll.nil)
        rintro _ _ ⟨_, ⟨qb, cb, rfl, rfl, hb⟩, rfl⟩
        refine D.all (rs := [8]) (by kernel_rfl) rfl (DAll.cons rfl (by kernel_rfl) (OpL.callD rfl (h := clone_msg (RowF Kd.msg o.z.q3 o.x.dead) o.z.q3 o.z.c3 o.x.dead isF hl3)) (.inr (by rintro _ _ ⟨_, ⟨qc, cc, rfl, rfl, hc⟩, rfl⟩ w h; exact h.subD)) rfl ?_ DAll.nil)
        rintro _ _ ⟨_, ⟨qc, cc, rfl, rfl, hc⟩, rfl⟩
        refine D.all (rs := [10]) (by kernel_rfl) rfl (DAll.consN rfl (by kernel_rfl) (l_store1 ck_30 rfl rfl rfl (by repeat (first | exact Pick.here | apply Pick.there)) (by repeat (first | exact SetAt.here | apply SetAt.there))) (.inl (by kernel_rfl)) rfl ?_ DAll.nil)
        rintro _ _ ⟨rfl, rfl⟩
        refine D.q 11 rfl (by kernel_rfl) (by kernel_rfl) (q_field fo_33_4 rfl) (fun _ h => h.subD) ?_
        refine D.all (rs := [12]) (by kernel_rfl) rfl (DAll.consN rfl (by kernel_rfl) (l_store1 ck_31 rfl rfl rfl (by repeat (first | exact Pick.here | apply Pick.there)) (by repeat (first | exact SetAt.here | apply SetAt.there))) (.inl (by kernel_rfl)) rfl ?_ DAll.nil)
        rintro _ _ ⟨rfl, rfl⟩
        refine D.q 13 rfl (by kernel_rfl) (by kernel_rfl) (q_field fo_33_5 rfl) (fun _ h => h.subD) ?_
        refine D.all (rs := [14]) (by kernel_rfl) rfl (DAll.consN rfl (by kernel_rfl) (l_store1 ck_31 rfl rfl rfl (by repeat (first | exact Pick.here | apply Pick.there)) (by repeat (first | exact SetAt.here | apply SetAt.there))) (.inl (by kernel_rfl)) rfl ?_ DAll.nil)
        rintro _ _ ⟨rfl, rfl⟩
        refine D.done (by kernel_rfl) ?_
        refine K.seq ?_
        refine K.region ?_
        refine KO.q rfl (q_as (q_loadN ck_33 rfl rfl (by first | (apply cells_pv; (repeat (first | exact List.Mem.head _ | apply List.Mem.tail))) | (apply cells_fv; (repeat (first | exact List.Mem.head _ | apply List.Mem.tail))))) (show _ = Oz.cells ⟨o.x, ⟨qa, ca, qb, cb, qc, cc⟩⟩ from rfl)) ?_
        refine KO.loudN rfl (l_storeAll ck_33 rfl rfl ⟨rfl, rfl⟩ (oz_one _) (by repeat (first | exact Pick.here | apply Pick.there))) ?_
        rintro _ _ ⟨rfl, rfl⟩
        refine KO.done ?_
        refine K.ret (fn := Tryz.f98) Tryz.func98 (fun a w hk hs => resC Tryz.results98 hk rfl ck_33 rfl (cells_pv (by repeat (first | exact List.Mem.head _ | apply List.Mem.tail)) w hs)) (fun w hs => ?_)
        exact ⟨_, ObO ⟨o.x, ⟨qa, ca, qb, cb, qc, cc⟩⟩, rfl, ⟨⟨qa, ca, qb, cb, qc, cc⟩, rfl, rfl, ha, hb, hc⟩, hs.fitD⟩
      · rintro _ _ ⟨rfl, rfl⟩
        refine D.all (rs := [2]) (by kernel_rfl) rfl (DAll.cons rfl (by kernel_rfl) (OpL.callD rfl (h := clone_rw (RowF Kd.rw o.z.q1 o.x.rows) o.z.q1 o.z.c1 o.x.rows isF hl1)) (.inl (by kernel_rfl)) rfl ?_ DAll.nil)
        rintro _ _ ⟨_, ⟨qa, ca, rfl, rfl, ha⟩, rfl⟩
        refine D.q 9 rfl (by kernel_rfl) (by kernel_rfl) (q_field fo_33_3 rfl) (fun _ h => h.subD) ?_
        refine D.all (rs := [5]) (by kernel_rfl) rfl (DAll.cons rfl (by kernel_rfl) (OpL.callD rfl (h := clone_msg (RowF Kd.msg o.z.q2 o.x.msgs) o.z.q2 o.z.c2 o.x.msgs isF hl2)) (.inr (by rintro _ _ ⟨_, ⟨qb, cb, rfl, rfl, hb⟩, rfl⟩ w h; exact h.subD)) rfl ?_ DAll.nil)
        rintro _ _ ⟨_, ⟨qb, cb, rfl, rfl, hb⟩, rfl⟩
        refine D.all (rs := [8]) (by kernel_rfl) rfl (DAll.cons rfl (by kernel_rfl) (OpL.callD rfl (h := clone_msg (RowF Kd.msg o.z.q3 o.x.dead) o.z.q3 o.z.c3 o.x.dead isF hl3)) (.inr (by rintro _ _ ⟨_, ⟨qc, cc, rfl, rfl, hc⟩, rfl⟩ w h; exact h.subD)) rfl ?_ DAll.nil)
        rintro _ _ ⟨_, ⟨qc, cc, rfl, rfl, hc⟩, rfl⟩
        refine D.all (rs := [10]) (by kernel_rfl) rfl (DAll.consN rfl (by kernel_rfl) (l_store1 ck_30 rfl rfl rfl (by repeat (first | exact Pick.here | apply Pick.there)) (by repeat (first | exact SetAt.here | apply SetAt.there))) (.inl (by kernel_rfl)) rfl ?_ DAll.nil)
        rintro _ _ ⟨rfl, rfl⟩
        refine D.q 11 rfl (by kernel_rfl) (by kernel_rfl) (q_field fo_33_4 rfl) (fun _ h => h.subD) ?_
        refine D.all (rs := [12]) (by kernel_rfl) rfl (DAll.consN rfl (by kernel_rfl) (l_store1 ck_31 rfl rfl rfl (by repeat (first | exact Pick.here | apply Pick.there)) (by repeat (first | exact SetAt.here | apply SetAt.there))) (.inl (by kernel_rfl)) rfl ?_ DAll.nil)
        rintro _ _ ⟨rfl, rfl⟩
        refine D.q 13 rfl (by kernel_rfl) (by kernel_rfl) (q_field fo_33_5 rfl) (fun _ h => h.subD) ?_
        refine D.all (rs := [14]) (by kernel_rfl) rfl (DAll.consN rfl (by kernel_rfl) (l_store1 ck_31 rfl rfl rfl (by repeat (first | exact Pick.here | apply Pick.there)) (by repeat (first | exact SetAt.here | apply SetAt.there))) (.inl (by kernel_rfl)) rfl ?_ DAll.nil)
        rintro _ _ ⟨rfl, rfl⟩
        refine D.done (by kernel_rfl) ?_
        refine K.seq ?_
        refine K.region ?_
        refine KO.q rfl (q_as (q_loadN ck_33 rfl rfl (by first | (apply cells_pv; (repeat (first | exact List.Mem.head _ | apply List.Mem.tail))) | (apply cells_fv; (repeat (first | exact List.Mem.head _ | apply List.Mem.tail))))) (show _ = Oz.cells ⟨o.x, ⟨qa, ca, qb, cb, qc, cc⟩⟩ from rfl)) ?_
        refine KO.loudN rfl (l_storeAll ck_33 rfl rfl ⟨rfl, rfl⟩ (oz_one _) (by repeat (first | exact Pick.here | apply Pick.there))) ?_
        rintro _ _ ⟨rfl, rfl⟩
        refine KO.done ?_
        refine K.ret (fn := Tryz.f98) Tryz.func98 (fun a w hk hs => resC Tryz.results98 hk rfl ck_33 rfl (cells_pv (by repeat (first | exact List.Mem.head _ | apply List.Mem.tail)) w hs)) (fun w hs => ?_)
        exact ⟨_, ObO ⟨o.x, ⟨qa, ca, qb, cb, qc, cc⟩⟩, rfl, ⟨⟨qa, ca, qb, cb, qc, cc⟩, rfl, rfl, ha, hb, hc⟩, hs.fitD⟩
    · rintro _ _ ⟨rfl, rfl⟩
      refine D.all (rs := [1]) (by kernel_rfl) rfl (DAll.cons rfl (by kernel_rfl) (OpQ.loud (q_load1D ck_30 rfl)) (.inl (by kernel_rfl)) rfl ?_ DAll.nil)
      rintro _ _ ⟨rfl, rfl⟩
      refine D.all (rs := [2]) (by kernel_rfl) rfl (DAll.cons rfl (by kernel_rfl) (OpL.callD rfl (h := clone_rw (RowF Kd.rw o.z.q1 o.x.rows) o.z.q1 o.z.c1 o.x.rows isF hl1)) (.inl (by kernel_rfl)) rfl ?_ DAll.nil)
      rintro _ _ ⟨_, ⟨qa, ca, rfl, rfl, ha⟩, rfl⟩
      refine D.q 9 rfl (by kernel_rfl) (by kernel_rfl) (q_field fo_33_3 rfl) (fun _ h => h.subD) ?_
      refine D.all (rs := [5]) (by kernel_rfl) rfl (DAll.cons rfl (by kernel_rfl) (OpL.callD rfl (h := clone_msg (RowF Kd.msg o.z.q2 o.x.msgs) o.z.q2 o.z.c2 o.x.msgs isF hl2)) (.inr (by rintro _ _ ⟨_, ⟨qb, cb, rfl, rfl, hb⟩, rfl⟩ w h; exact h.subD)) rfl ?_ DAll.nil)
      rintro _ _ ⟨_, ⟨qb, cb, rfl, rfl, hb⟩, rfl⟩
      refine D.all (rs := [8]) (by kernel_rfl) rfl (DAll.cons rfl (by kernel_rfl) (OpL.callD rfl (h := clone_msg (RowF Kd.msg o.z.q3 o.x.dead) o.z.q3 o.z.c3 o.x.dead isF hl3)) (.inr (by rintro _ _ ⟨_, ⟨qc, cc, rfl, rfl, hc⟩, rfl⟩ w h; exact h.subD)) rfl ?_ DAll.nil)
      rintro _ _ ⟨_, ⟨qc, cc, rfl, rfl, hc⟩, rfl⟩
      refine D.all (rs := [10]) (by kernel_rfl) rfl (DAll.consN rfl (by kernel_rfl) (l_store1 ck_30 rfl rfl rfl (by repeat (first | exact Pick.here | apply Pick.there)) (by repeat (first | exact SetAt.here | apply SetAt.there))) (.inl (by kernel_rfl)) rfl ?_ DAll.nil)
      rintro _ _ ⟨rfl, rfl⟩
      refine D.q 11 rfl (by kernel_rfl) (by kernel_rfl) (q_field fo_33_4 rfl) (fun _ h => h.subD) ?_
      refine D.all (rs := [12]) (by kernel_rfl) rfl (DAll.consN rfl (by kernel_rfl) (l_store1 ck_31 rfl rfl rfl (by repeat (first | exact Pick.here | apply Pick.there)) (by repeat (first | exact SetAt.here | apply SetAt.there))) (.inl (by kernel_rfl)) rfl ?_ DAll.nil)
      rintro _ _ ⟨rfl, rfl⟩
      refine D.q 13 rfl (by kernel_rfl) (by kernel_rfl) (q_field fo_33_5 rfl) (fun _ h => h.subD) ?_
      refine D.all (rs := [14]) (by kernel_rfl) rfl (DAll.consN rfl (by kernel_rfl) (l_store1 ck_31 rfl rfl rfl (by repeat (first | exact Pick.here | apply Pick.there)) (by repeat (first | exact SetAt.here | apply SetAt.there))) (.inl (by kernel_rfl)) rfl ?_ DAll.nil)
      rintro _ _ ⟨rfl, rfl⟩
      refine D.done (by kernel_rfl) ?_
      refine K.seq ?_
      refine K.region ?_
      refine KO.q rfl (q_as (q_loadN ck_33 rfl rfl (by first | (apply cells_pv; (repeat (first | exact List.Mem.head _ | apply List.Mem.tail))) | (apply cells_fv; (repeat (first | exact List.Mem.head _ | apply List.Mem.tail))))) (show _ = Oz.cells ⟨o.x, ⟨qa, ca, qb, cb, qc, cc⟩⟩ from rfl)) ?_
      refine KO.loudN rfl (l_storeAll ck_33 rfl rfl ⟨rfl, rfl⟩ (oz_one _) (by repeat (first | exact Pick.here | apply Pick.there))) ?_
      rintro _ _ ⟨rfl, rfl⟩
      refine KO.done ?_
      refine K.ret (fn := Tryz.f98) Tryz.func98 (fun a w hk hs => resC Tryz.results98 hk rfl ck_33 rfl (cells_pv (by repeat (first | exact List.Mem.head _ | apply List.Mem.tail)) w hs)) (fun w hs => ?_)
      exact ⟨_, ObO ⟨o.x, ⟨qa, ca, qb, cb, qc, cc⟩⟩, rfl, ⟨⟨qa, ca, qb, cb, qc, cc⟩, rfl, rfl, ha, hb, hc⟩, hs.fitD⟩
theorem dd_Where (o : Oz) (id : Int) (hl : o.le 1000000000) : Fn Tryz.prog 107 [.agg o.cells.toArray, .int .i64 id].toArray (ObL o) (fun r post => r = .int .i64 (whereM o.x id) ∧ post = []) := by
  obtain ⟨hl1, hl2, hl3⟩ := hl
  refine Fn.enter (N := 17) Tryz.func107 rfl Tryz.ntmps107 (by kernel_rfl) rfl (fun ρ L => ?_)
  refine K.seq ?_
  refine K.region ?_
  refine KO.loud rfl (l_box rfl rfl) ?_
  rintro _ _ ⟨b2, rfl, rfl⟩
  refine KO.q rfl (q_assign rfl) ?_
  refine KO.done ?_
  refine K.seq <| K.block <| K.seq ?_
  refine K.region ?_
  refine KO.q rfl (q_field fo_33_4 rfl) ?_
  refine KO.q rfl (q_load1D ck_31 rfl) ?_
  refine KO.q rfl (q_move rfl) ?_
  refine KO.loud rfl (OpL.callD rfl (h := qu_Find (RowF Kd.msg o.z.q2 o.x.msgs) o.z.q2 o.z.c2 o.x.msgs id isF hl2)) ?_
  rintro _ _ ⟨_, ⟨rfl, rfl⟩, rfl⟩
  refine KO.q rfl (q_ge rfl rfl) ?_
  refine KO.q rfl (q_assign rfl) ?_
  refine KO.done ?_
  refine K.dcond (s := 5) rfl (fun g5 => ?_) (fun g5 => ?_)
  · have hr : whereM o.x id = 1 := by unfold whereM; rw [if_pos g5]
    refine K.seq ?_
    refine K.region ?_
    refine KO.q rfl (q_assign rfl) ?_
    refine KO.done ?_
    refine K.ret (fn := Tryz.f107) Tryz.func107 (fun a w hk hs => res1 Tryz.results107 hk rfl) (fun w hs => ?_)
    rw [hr]
    exact ⟨_, [], rfl, ⟨rfl, rfl⟩, hs.fitD⟩
  · refine K.seq ?_
    refine K.region ?_
    refine KO.q rfl (q_field fo_33_5 rfl) ?_
    refine KO.q rfl (q_load1D ck_31 rfl) ?_
    refine KO.q rfl (q_move rfl) ?_
    refine KO.loud rfl (OpL.callD rfl (h := qu_Find (RowF Kd.msg o.z.q3 o.x.dead) o.z.q3 o.z.c3 o.x.dead id isF hl3)) ?_
    rintro _ _ ⟨_, ⟨rfl, rfl⟩, rfl⟩
    refine KO.q rfl (q_ge rfl rfl) ?_
    refine KO.q rfl (q_assign rfl) ?_
    refine KO.done ?_
    refine K.dcond (s := 11) rfl (fun g11 => ?_) (fun g11 => ?_)
    · have hr : whereM o.x id = 2 := by unfold whereM; rw [if_neg g5, if_pos g11]
      refine K.seq ?_
      refine K.region ?_
      refine KO.q rfl (q_assign rfl) ?_
      refine KO.done ?_
      refine K.ret (fn := Tryz.f107) Tryz.func107 (fun a w hk hs => res1 Tryz.results107 hk rfl) (fun w hs => ?_)
      rw [hr]
      exact ⟨_, [], rfl, ⟨rfl, rfl⟩, hs.fitD⟩
    · have hr : whereM o.x id = 0 := by unfold whereM; rw [if_neg g5, if_neg g11]
      refine K.skip <| K.inBlock <| K.seq ?_
      refine K.region ?_
      refine KO.q rfl (q_assign rfl) ?_
      refine KO.done ?_
      refine K.ret (fn := Tryz.f107) Tryz.func107 (fun a w hk hs => res1 Tryz.results107 hk rfl) (fun w hs => ?_)
      rw [hr]
      exact ⟨_, [], rfl, ⟨rfl, rfl⟩, hs.fitD⟩
set_option maxHeartbeats 3200000 in
theorem dd_Free (o : Oz) (id : Int) (tried : Bool) (hl : o.le 1000000000) (hs0 : ∀ m ∈ o.x.msgs, -9223372036854775808 ≤ m.retry) : Fn Tryz.prog 85 [.agg o.cells.toArray, .int .i64 id, .bool tried].toArray (ObL o) (fun r post => ∃ z, r = .tuple #[.agg (Oz.cells ⟨(freeO o.x id tried).1, z⟩).toArray, .bool (freeO o.x id tried).2] ∧ post = ObL ⟨(freeO o.x id tried).1, z⟩ ∧ Oz.cap ⟨(freeO o.x id tried).1, z⟩) := by
  have hl' := hl
  obtain ⟨hl1, hl2, hl3⟩ := hl
  refine Fn.enter (N := 68) Tryz.func85 rfl Tryz.ntmps85 (by kernel_rfl) rfl (fun ρ L => ?_)
  refine K.seq ?_
  refine K.region ?_
  refine KO.loud rfl (l_box rfl rfl) ?_
  rintro _ _ ⟨b3, rfl, rfl⟩
  refine KO.loud rfl (l_alloc zo_33) ?_
  rintro _ _ ⟨b6, rfl, rfl⟩
  refine KO.q rfl (q_assign rfl) ?_
  refine KO.done ?_
  refine K.seq ?_
  refine K.region ?_
  refine KO.q rfl (q_loadN ck_33 rfl rfl (by first | (apply cells_pv; (repeat (first | exact List.Mem.head _ | apply List.Mem.tail))) | (apply cells_fv; (repeat (first | exact List.Mem.head _ | apply List.Mem.tail))))) ?_
  refine KO.loud rfl (OpL.callD rfl (h := dd_clone o hl')) ?_
  rintro _ _ ⟨_, ⟨z, rfl, rfl, hcap⟩, rfl⟩
  refine KO.loudN rfl (l_storeAll ck_33 rfl rfl ⟨rfl, rfl⟩ (oz_one _) (by repeat (first | exact Pick.here | apply Pick.there))) ?_
  rintro _ _ ⟨rfl, rfl⟩
  refine KO.done ?_
  refine K.seq ?_
  obtain ⟨qa, ca, qb, cb, qc, cc⟩ := z
  obtain ⟨ha, hb, hc⟩ := hcap
  have ha : o.x.rows.length ≤ ca := ha
  have hb : o.x.msgs.length ≤ cb := hb
  have hc : o.x.dead.length ≤ cc := hc
  refine K.region ?_
  refine KO.q rfl (q_field fo_33_4 rfl) ?_
  refine KO.q rfl (q_load1D ck_31 rfl) ?_
  refine KO.q rfl (q_move rfl) ?_
  refine KO.loud rfl (OpL.callD rfl (h := qu_Find (RowO Kd.msg 39 qb cb o.x.msgs) qb cb o.x.msgs id isO hl2)) ?_
  rintro _ _ ⟨_, ⟨rfl, rfl⟩, rfl⟩
  refine KO.q rfl (q_assign rfl) ?_
  refine KO.done ?_
  refine K.seq <| K.seq ?_
  refine K.region ?_
  refine KO.q rfl (q_move rfl) ?_
  refine KO.q rfl (q_lt rfl rfl) ?_
  refine KO.q rfl (q_move rfl) ?_
  refine KO.dsplit 19 rfl (fun g19 => ?_) (fun g19 => ?_)
  · have hr : freeO o.x id tried = (o.x, false) := by unfold freeO; rw [if_pos g19]
    refine KO.skip rfl ?_
    refine KO.skip rfl ?_
    refine KO.skip rfl ?_
    refine KO.skip rfl ?_
    refine KO.skip rfl ?_
    refine KO.skip rfl ?_
    refine KO.skip rfl ?_
    refine KO.q rfl (q_pickT rfl rfl) ?_
    refine KO.done ?_
    refine K.yes rfl ?_
    refine K.seq ?_
    refine K.region ?_
    refine KO.q rfl (q_loadN ck_33 rfl rfl (by first | (apply cells_pv; (repeat (first | exact List.Mem.head _ | apply List.Mem.tail))) | (apply cells_fv; (repeat (first | exact List.Mem.head _ | apply List.Mem.tail))))) ?_
    refine KO.loudN rfl (l_storeAll ck_33 rfl rfl ⟨rfl, rfl⟩ (oz_one _) (by repeat (first | exact Pick.here | apply Pick.there))) ?_
    rintro _ _ ⟨rfl, rfl⟩
    refine KO.q rfl (q_assign rfl) ?_
    refine KO.done ?_
    refine K.ret (fn := Tryz.f85) Tryz.func85 (fun a w hk hs => resCT Tryz.results85 hk rfl ck_33 rfl (cells_pv (by repeat (first | exact List.Mem.head _ | apply List.Mem.tail)) w hs) rfl) (fun w hs => ?_)
    rw [hr]
    exact ⟨_, ObL ⟨o.x, ⟨qa, ca, qb, cb, qc, cc⟩⟩, rfl, ⟨⟨qa, ca, qb, cb, qc, cc⟩, rfl, rfl, ha, hb, hc⟩, obO_freeze (o := ⟨o.x, ⟨qa, ca, qb, cb, qc, cc⟩⟩) (hs.fit (M := ObO ⟨o.x, ⟨qa, ca, qb, cb, qc, cc⟩⟩) (by repeat (first | exact Give.nil | (apply Give.perI; (repeat (first | exact List.Mem.head _ | apply List.Mem.tail))) | (apply Give.own; (repeat (first | exact Pick.here | apply Pick.there))))) (by repeat (first | exact Drop.refl | apply Drop.skip)))⟩
  · obtain ⟨i, x, hx, hi, _⟩ := idxP_nat g19
    have hi : findM o.x.msgs id = (i : Int) := hi
    have hil := (List.getElem?_eq_some_iff.1 hx).1
    have hgd : o.x.msgs.getD (findM o.x.msgs id).toNat ⟨0, 0, 0, false, ⟨#[]⟩, ⟨#[]⟩⟩ = x := by rw [hi, Int.toNat_natCast]; exact gd_at hx
    have hx0 := hs0 x (List.mem_of_getElem? hx)
    refine KO.q rfl (q_field fo_33_4 rfl) ?_
    refine KO.q rfl (q_load1D ck_31 rfl) ?_
    refine KO.q rfl (q_move rfl) ?_
    refine KO.q rfl (q_ix (xs := o.x.msgs) i se_31 rfl rfl hi isO (by repeat (first | exact List.Mem.head _ | apply List.Mem.tail)) rfl hil) ?_
    refine KO.q rfl (q_fieldE fo_39_3 rfl) ?_
    refine KO.q rfl (q_ldE (xs := o.x.msgs) ck_4 rfl isO (by repeat (first | exact List.Mem.head _ | apply List.Mem.tail)) hx rfl) ?_
    refine KO.q rfl (q_not rfl) ?_
    refine KO.q rfl (q_pickF rfl rfl) ?_
    refine KO.done ?_
    refine K.bcond (s := 27) rfl (fun g27 => ?_) (fun g27 => ?_)
    · have hr : freeO o.x id tried = (o.x, false) := by unfold freeO; rw [if_neg g19, hgd, if_pos (by simpa using g27)]
      refine K.seq ?_
      refine K.region ?_
      refine KO.q rfl (q_loadN ck_33 rfl rfl (by first | (apply cells_pv; (repeat (first | exact List.Mem.head _ | apply List.Mem.tail))) | (apply cells_fv; (repeat (first | exact List.Mem.head _ | apply List.Mem.tail))))) ?_
      refine KO.loudN rfl (l_storeAll ck_33 rfl rfl ⟨rfl, rfl⟩ (oz_one _) (by repeat (first | exact Pick.here | apply Pick.there))) ?_
      rintro _ _ ⟨rfl, rfl⟩
      refine KO.q rfl (q_assign rfl) ?_
      refine KO.done ?_
      refine K.ret (fn := Tryz.f85) Tryz.func85 (fun a w hk hs => resCT Tryz.results85 hk rfl ck_33 rfl (cells_pv (by repeat (first | exact List.Mem.head _ | apply List.Mem.tail)) w hs) rfl) (fun w hs => ?_)
      rw [hr]
      exact ⟨_, ObL ⟨o.x, ⟨qa, ca, qb, cb, qc, cc⟩⟩, rfl, ⟨⟨qa, ca, qb, cb, qc, cc⟩, rfl, rfl, ha, hb, hc⟩, obO_freeze (o := ⟨o.x, ⟨qa, ca, qb, cb, qc, cc⟩⟩) (hs.fit (M := ObO ⟨o.x, ⟨qa, ca, qb, cb, qc, cc⟩⟩) (by repeat (first | exact Give.nil | (apply Give.perI; (repeat (first | exact List.Mem.head _ | apply List.Mem.tail))) | (apply Give.own; (repeat (first | exact Pick.here | apply Pick.there))))) (by repeat (first | exact Drop.refl | apply Drop.skip)))⟩
    · have hcl : ¬ x.claimed = false := by simpa using g27
      refine K.skip <| K.seq <| K.seq ?_
      refine K.region ?_
      refine KO.q rfl (q_move rfl) ?_
      refine KO.q rfl (q_not rfl) ?_
      refine KO.done ?_
      refine K.bcond (s := 30) rfl (fun g30 => ?_) (fun g30 => ?_)
      · have hr : freeO o.x id tried = ({ o.x with msgs := o.x.msgs.set i { x with claimed := false } }, true) := by unfold freeO; rw [if_neg g19, hgd, if_neg hcl, if_pos (by simpa using g30), hi]; rfl
        have hsl : (o.x.msgs.set i { x with claimed := false }).length = o.x.msgs.length := List.length_set
        refine K.seq ?_
        refine K.region ?_
        refine KO.q rfl (q_field fo_33_4 rfl) ?_
        refine KO.q rfl (q_load1D ck_31 rfl) ?_
        refine KO.q rfl (q_move rfl) ?_
        refine KO.q rfl (q_ix (xs := o.x.msgs) i se_31 rfl rfl hi isO (by repeat (first | exact List.Mem.head _ | apply List.Mem.tail)) rfl hil) ?_
        refine KO.q rfl (q_fieldE fo_39_3 rfl) ?_
        refine KO.loudN rfl (l_storeE (el := x) { x with claimed := false } ck_4 rfl rfl rfl (by repeat (first | exact Pick.here | apply Pick.there)) hx (by decide) rfl) ?_
        rintro _ _ ⟨rfl, rfl⟩
        refine KO.done ?_
        refine K.seq ?_
        refine K.region ?_
        refine KO.q rfl (q_as (q_loadN ck_33 rfl rfl (by first | (apply cells_pv; (repeat (first | exact List.Mem.head _ | apply List.Mem.tail))) | (apply cells_fv; (repeat (first | exact List.Mem.head _ | apply List.Mem.tail))))) (show _ = Oz.cells ⟨{ o.x with msgs := o.x.msgs.set i { x with claimed := false } }, ⟨qa, ca, qb, cb, qc, cc⟩⟩ by show _ = [_, _, _, _, Value.slice qb (o.x.msgs.set i { x with claimed := false }).length cb, _]; rw [hsl]; rfl)) ?_
        refine KO.loudN rfl (l_storeAll ck_33 rfl rfl ⟨rfl, rfl⟩ (oz_one _) (by repeat (first | exact Pick.here | apply Pick.there))) ?_
        rintro _ _ ⟨rfl, rfl⟩
        refine KO.q rfl (q_assign rfl) ?_
        refine KO.done ?_
        refine K.ret (fn := Tryz.f85) Tryz.func85 (fun a w hk hs => resCT Tryz.results85 hk rfl ck_33 rfl (cells_pv (by repeat (first | exact List.Mem.head _ | apply List.Mem.tail)) w hs) rfl) (fun w hs => ?_)
        rw [hr]
        exact ⟨_, ObL ⟨{ o.x with msgs := o.x.msgs.set i { x with claimed := false } }, ⟨qa, ca, qb, cb, qc, cc⟩⟩, rfl, ⟨⟨qa, ca, qb, cb, qc, cc⟩, rfl, rfl, ha, by show (o.x.msgs.set i _).length ≤ cb; rw [hsl]; exact hb, hc⟩, obO_freeze (o := ⟨{ o.x with msgs := o.x.msgs.set i { x with claimed := false } }, ⟨qa, ca, qb, cb, qc, cc⟩⟩) (hs.fit (M := ObO ⟨{ o.x with msgs := o.x.msgs.set i { x with claimed := false } }, ⟨qa, ca, qb, cb, qc, cc⟩⟩) (by repeat (first | exact Give.nil | (apply Give.perI; (repeat (first | exact List.Mem.head _ | apply List.Mem.tail))) | (apply Give.own; (repeat (first | exact Pick.here | apply Pick.there))))) (by repeat (first | exact Drop.refl | apply Drop.skip)))⟩
      · have htr : ¬ tried = false := by simpa using g30
        refine K.skip <| K.seq ?_
        refine K.drawS [pv b3 33 (Oz.cells ⟨o.x, ⟨qa, ca, qb, cb, qc, cc⟩⟩), RowO Kd.msg 39 qb cb o.x.msgs] (fun _ h => h.subD) mixed ?_
        refine D.q 0 rfl (by kernel_rfl) (by kernel_rfl) (q_field fo_33_4 rfl) (fun _ h => h.subD) ?_
        refine D.q 1 rfl (by kernel_rfl) (by kernel_rfl) (q_load1D ck_31 rfl) (fun _ h => h.subD) ?_
        refine D.q 2 rfl (by kernel_rfl) (by kernel_rfl) (q_move rfl) (fun _ h => h.subD) ?_
        refine D.q 3 rfl (by kernel_rfl) (by kernel_rfl) (q_ix (xs := o.x.msgs) i se_31 rfl rfl hi isO (by repeat (first | exact List.Mem.head _ | apply List.Mem.tail)) rfl hil) (fun _ h => h.subD) ?_
        refine D.q 4 rfl (by kernel_rfl) (by kernel_rfl) (q_ldEN (xs := o.x.msgs) ck_39 rfl isO (by repeat (first | exact List.Mem.head _ | apply List.Mem.tail)) hx) (fun _ h => h.subD) ?_
        refine D.q 5 rfl (by kernel_rfl) (by kernel_rfl) (q_field fo_33_2 rfl) (fun _ h => h.subD) ?_
        refine D.q 6 rfl (by kernel_rfl) (by kernel_rfl) (q_load1D ck_3 rfl) (fun _ h => h.subD) ?_
        refine D.all (rs := [7, 11]) (by kernel_rfl) rfl (DAll.cons rfl (by kernel_rfl) (OpL.callD rfl (h := msg_Tried x o.x.limit hx0)) (.inr (by rintro _ _ ⟨_, ⟨rfl, rfl⟩, rfl⟩ w h; exact h.subD)) rfl ?_ (DAll.cons rfl (by kernel_rfl) (l_alloc zo_39) (.inr (by rintro _ _ ⟨b9, rfl, rfl⟩ w h; exact h.subD)) rfl ?_ DAll.nil))
        · rintro _ _ ⟨_, ⟨rfl, rfl⟩, rfl⟩
          refine D.q 8 rfl (by kernel_rfl) (by kernel_rfl) (q_move rfl) (fun _ h => h.subD) ?_
          refine D.q 9 rfl (by kernel_rfl) (by kernel_rfl) (q_extract rfl rfl) (fun _ h => h.subD) ?_
          refine D.q 10 rfl (by kernel_rfl) (by kernel_rfl) (q_extract rfl rfl) (fun _ h => h.subD) ?_
          refine D.all (rs := [11]) (by kernel_rfl) rfl (DAll.cons rfl (by kernel_rfl) (l_alloc zo_39) (.inr (by rintro _ _ ⟨b9, rfl, rfl⟩ w h; exact h.subD)) rfl ?_ DAll.nil)
          rintro _ _ ⟨b9, rfl, rfl⟩
          refine D.all (rs := [12]) (by kernel_rfl) rfl (DAll.consN rfl (by kernel_rfl) (l_storeAll ck_39 rfl rfl ⟨rfl, rfl⟩ (msg_one _) (by repeat (first | exact Pick.here | apply Pick.there))) (.inr (by rintro _ _ ⟨rfl, rfl⟩ w h; exact h.subD)) rfl ?_ DAll.nil)
          rintro _ _ ⟨rfl, rfl⟩
          refine D.q 13 rfl (by kernel_rfl) (by kernel_rfl) (q_assign rfl) (fun _ h => h.subD) ?_
          refine D.done (by kernel_rfl) ?_
          refine K.seq <| K.seq ?_
          refine K.region ?_
          refine KO.q rfl (q_move rfl) ?_
          refine KO.done ?_
          first | refine K.dcond (s := 48) rfl (fun g48 => ?_) (fun g48 => ?_) | refine K.bcond (s := 48) rfl (fun g48 => ?_) (fun g48 => ?_)
          · have hr : freeO o.x id tried = ({ o.x with msgs := o.x.msgs.eraseIdx i, dead := o.x.dead ++ [x.tried] }, true) := by unfold freeO; rw [if_neg g19, hgd, if_neg hcl, if_neg htr, if_pos g48, hi]; rfl
            rw [hi]
            refine K.seq ?_
            refine K.region ?_
            refine KO.q rfl (q_field fo_33_4 rfl) ?_
            refine KO.q rfl (q_load1D ck_31 rfl) ?_
            refine KO.q rfl (q_move rfl) ?_
            refine KO.q rfl (q_move rfl) ?_
            refine KO.q rfl (q_add rfl rfl (by first | omega | (simp; omega)) (by first | omega | (simp; omega))) ?_
            refine KO.loud rfl (OpL.callD rfl (h := del_msg qb cb o.x.msgs i hil hb (by omega))) ?_
            rintro _ _ ⟨_, ⟨rfl, rfl⟩, rfl⟩
            refine KO.q rfl (q_field fo_33_4 rfl) ?_
            refine KO.loudN rfl (l_store1 ck_31 rfl rfl rfl (by repeat (first | exact Pick.here | apply Pick.there)) (by repeat (first | exact SetAt.here | apply SetAt.there))) ?_
            rintro _ _ ⟨rfl, rfl⟩
            refine KO.done ?_
            refine K.region ?_
            refine KO.q rfl (q_field fo_33_5 rfl) ?_
            refine KO.q rfl (q_load1D ck_31 rfl) ?_
            refine KO.q rfl (q_loadN ck_39 rfl rfl (by first | (apply cells_pv; (repeat (first | exact List.Mem.head _ | apply List.Mem.tail))) | (apply cells_fv; (repeat (first | exact List.Mem.head _ | apply List.Mem.tail))))) ?_
            refine KO.loud rfl (l_slice1 sz_31_1 rfl rfl ⟨rfl, rfl, rfl⟩) ?_
            rintro _ _ ⟨b59, rfl, rfl⟩
            refine KO.loud rfl (l_append Kd.msg (ys := [x.tried]) se_31 Tryz.underlying31 ⟨_, ze_msg, rfl⟩ (by decide) rfl rfl (by repeat (first | exact Pick.here | apply Pick.there)) isP (by repeat (first | exact List.Mem.head _ | apply List.Mem.tail)) rfl rfl (by show (2 * (o.x.dead.length + 1) + 768) * 64 ≤ _; omega)) ?_
            rintro _ _ ⟨pn, dn, rfl, rfl⟩
            refine KO.q rfl (q_field fo_33_5 rfl) ?_
            refine KO.loudN rfl (l_store1 ck_31 rfl rfl rfl (by repeat (first | exact Pick.here | apply Pick.there)) (by repeat (first | exact SetAt.here | apply SetAt.there))) ?_
            rintro _ _ ⟨rfl, rfl⟩
            refine KO.done ?_
            refine K.seq ?_
            refine K.region ?_
            refine KO.q rfl (q_as (q_loadN ck_33 rfl rfl (by first | (apply cells_pv; (repeat (first | exact List.Mem.head _ | apply List.Mem.tail))) | (apply cells_fv; (repeat (first | exact List.Mem.head _ | apply List.Mem.tail))))) (show _ = Oz.cells ⟨{ o.x with msgs := o.x.msgs.eraseIdx i, dead := o.x.dead ++ [x.tried] }, ⟨qa, ca, qb, cb, pn, dn⟩⟩ from rfl)) ?_
            refine KO.loudN rfl (l_storeAll ck_33 rfl rfl ⟨rfl, rfl⟩ (oz_one _) (by repeat (first | exact Pick.here | apply Pick.there))) ?_
            rintro _ _ ⟨rfl, rfl⟩
            refine KO.q rfl (q_assign rfl) ?_
            refine KO.done ?_
            refine K.ret (fn := Tryz.f85) Tryz.func85 (fun a w hk hs => resCT Tryz.results85 hk rfl ck_33 rfl (cells_pv (by repeat (first | exact List.Mem.head _ | apply List.Mem.tail)) w hs) rfl) (fun w hs => ?_)
            rw [hr]
            have hc1 := rowO_cap (e := 39) (k := Kd.msg) (p := qb) (cap := cb) (xs := o.x.msgs.eraseIdx i) (by repeat (first | exact List.Mem.head _ | apply List.Mem.tail)) w hs
            have hc2 := rowO_cap (e := 39) (k := Kd.msg) (p := pn) (cap := dn) (xs := o.x.dead ++ [x.tried]) (by repeat (first | exact List.Mem.head _ | apply List.Mem.tail)) w hs
            exact ⟨_, ObL ⟨{ o.x with msgs := o.x.msgs.eraseIdx i, dead := o.x.dead ++ [x.tried] }, ⟨qa, ca, qb, cb, pn, dn⟩⟩, rfl, ⟨⟨qa, ca, qb, cb, pn, dn⟩, rfl, rfl, ha, hc1, hc2⟩, obO_freeze (o := ⟨{ o.x with msgs := o.x.msgs.eraseIdx i, dead := o.x.dead ++ [x.tried] }, ⟨qa, ca, qb, cb, pn, dn⟩⟩) (hs.fit (M := ObO ⟨{ o.x with msgs := o.x.msgs.eraseIdx i, dead := o.x.dead ++ [x.tried] }, ⟨qa, ca, qb, cb, pn, dn⟩⟩) (by repeat (first | exact Give.nil | (apply Give.perI; (repeat (first | exact List.Mem.head _ | apply List.Mem.tail))) | (apply Give.own; (repeat (first | exact Pick.here | apply Pick.there))))) (by repeat (first | exact Drop.refl | apply Drop.skip)))⟩
          · have hr : freeO o.x id tried = ({ o.x with msgs := o.x.msgs.set i x.tried }, true) := by unfold freeO; rw [if_neg g19, hgd, if_neg hcl, if_neg htr, if_neg g48, hi]; rfl
            have hsl : (o.x.msgs.set i x.tried).length = o.x.msgs.length := List.length_set
            refine K.region ?_
            refine KO.q rfl (q_field fo_33_4 rfl) ?_
            refine KO.q rfl (q_load1D ck_31 rfl) ?_
            refine KO.q rfl (q_move rfl) ?_
            refine KO.q rfl (q_loadN ck_39 rfl rfl (by first | (apply cells_pv; (repeat (first | exact List.Mem.head _ | apply List.Mem.tail))) | (apply cells_fv; (repeat (first | exact List.Mem.head _ | apply List.Mem.tail))))) ?_
            refine KO.q rfl (q_ix (xs := o.x.msgs) i se_31 rfl rfl hi isO (by repeat (first | exact List.Mem.head _ | apply List.Mem.tail)) rfl hil) ?_
            refine KO.loudN rfl (l_storeEN x.tried ck_39 rfl rfl (by repeat (first | exact Pick.here | apply Pick.there)) hil) ?_
            rintro _ _ ⟨rfl, rfl⟩
            refine KO.done ?_
            refine K.seq ?_
            refine K.region ?_
            refine KO.q rfl (q_as (q_loadN ck_33 rfl rfl (by first | (apply cells_pv; (repeat (first | exact List.Mem.head _ | apply List.Mem.tail))) | (apply cells_fv; (repeat (first | exact List.Mem.head _ | apply List.Mem.tail))))) (show _ = Oz.cells ⟨{ o.x with msgs := o.x.msgs.set i x.tried }, ⟨qa, ca, qb, cb, qc, cc⟩⟩ by show _ = [_, _, _, _, Value.slice qb (o.x.msgs.set i x.tried).length cb, _]; rw [hsl]; rfl)) ?_
            refine KO.loudN rfl (l_storeAll ck_33 rfl rfl ⟨rfl, rfl⟩ (oz_one _) (by repeat (first | exact Pick.here | apply Pick.there))) ?_
            rintro _ _ ⟨rfl, rfl⟩
            refine KO.q rfl (q_assign rfl) ?_
            refine KO.done ?_
            refine K.ret (fn := Tryz.f85) Tryz.func85 (fun a w hk hs => resCT Tryz.results85 hk rfl ck_33 rfl (cells_pv (by repeat (first | exact List.Mem.head _ | apply List.Mem.tail)) w hs) rfl) (fun w hs => ?_)
            rw [hr]
            exact ⟨_, ObL ⟨{ o.x with msgs := o.x.msgs.set i x.tried }, ⟨qa, ca, qb, cb, qc, cc⟩⟩, rfl, ⟨⟨qa, ca, qb, cb, qc, cc⟩, rfl, rfl, ha, by show (o.x.msgs.set i _).length ≤ cb; rw [hsl]; exact hb, hc⟩, obO_freeze (o := ⟨{ o.x with msgs := o.x.msgs.set i x.tried }, ⟨qa, ca, qb, cb, qc, cc⟩⟩) (hs.fit (M := ObO ⟨{ o.x with msgs := o.x.msgs.set i x.tried }, ⟨qa, ca, qb, cb, qc, cc⟩⟩) (by repeat (first | exact Give.nil | (apply Give.perI; (repeat (first | exact List.Mem.head _ | apply List.Mem.tail))) | (apply Give.own; (repeat (first | exact Pick.here | apply Pick.there))))) (by repeat (first | exact Drop.refl | apply Drop.skip)))⟩
        · rintro _ _ ⟨b9, rfl, rfl⟩
          refine D.all (rs := [7]) (by kernel_rfl) rfl (DAll.cons rfl (by kernel_rfl) (OpL.callD rfl (h := msg_Tried x o.x.limit hx0)) (.inr (by rintro _ _ ⟨_, ⟨rfl, rfl⟩, rfl⟩ w h; exact h.subD)) rfl ?_ DAll.nil)
          rintro _ _ ⟨_, ⟨rfl, rfl⟩, rfl⟩
          refine D.q 8 rfl (by kernel_rfl) (by kernel_rfl) (q_move rfl) (fun _ h => h.subD) ?_
          refine D.q 9 rfl (by kernel_rfl) (by kernel_rfl) (q_extract rfl rfl) (fun _ h => h.subD) ?_
          refine D.q 10 rfl (by kernel_rfl) (by kernel_rfl) (q_extract rfl rfl) (fun _ h => h.subD) ?_
          refine D.all (rs := [12]) (by kernel_rfl) rfl (DAll.consN rfl (by kernel_rfl) (l_storeAll ck_39 rfl rfl ⟨rfl, rfl⟩ (msg_one _) (by repeat (first | exact Pick.here | apply Pick.there))) (.inr (by rintro _ _ ⟨rfl, rfl⟩ w h; exact h.subD)) rfl ?_ DAll.nil)
          rintro _ _ ⟨rfl, rfl⟩
          refine D.q 13 rfl (by kernel_rfl) (by kernel_rfl) (q_assign rfl) (fun _ h => h.subD) ?_
          refine D.done (by kernel_rfl) ?_
          refine K.seq <| K.seq ?_
          refine K.region ?_
          refine KO.q rfl (q_move rfl) ?_
          refine KO.done ?_
          first | refine K.dcond (s := 48) rfl (fun g48 => ?_) (fun g48 => ?_) | refine K.bcond (s := 48) rfl (fun g48 => ?_) (fun g48 => ?_)
          · have hr : freeO o.x id tried = ({ o.x with msgs := o.x.msgs.eraseIdx i, dead := o.x.dead ++ [x.tried] }, true) := by unfold freeO; rw [if_neg g19, hgd, if_neg hcl, if_neg htr, if_pos g48, hi]; rfl
            rw [hi]
            refine K.seq ?_
            refine K.region ?_
            refine KO.q rfl (q_field fo_33_4 rfl) ?_
            refine KO.q rfl (q_load1D ck_31 rfl) ?_
            refine KO.q rfl (q_move rfl) ?_
            refine KO.q rfl (q_move rfl) ?_
            refine KO.q rfl (q_add rfl rfl (by first | omega | (simp; omega)) (by first | omega | (simp; omega))) ?_
            refine KO.loud rfl (OpL.callD rfl (h := del_msg qb cb o.x.msgs i hil hb (by omega))) ?_
            rintro _ _ ⟨_, ⟨rfl, rfl⟩, rfl⟩
            refine KO.q rfl (q_field fo_33_4 rfl) ?_
            refine KO.loudN rfl (l_store1 ck_31 rfl rfl rfl (by repeat (first | exact Pick.here | apply Pick.there)) (by repeat (first | exact SetAt.here | apply SetAt.there))) ?_
            rintro _ _ ⟨rfl, rfl⟩
            refine KO.done ?_
            refine K.region ?_
            refine KO.q rfl (q_field fo_33_5 rfl) ?_
            refine KO.q rfl (q_load1D ck_31 rfl) ?_
            refine KO.q rfl (q_loadN ck_39 rfl rfl (by first | (apply cells_pv; (repeat (first | exact List.Mem.head _ | apply List.Mem.tail))) | (apply cells_fv; (repeat (first | exact List.Mem.head _ | apply List.Mem.tail))))) ?_
            refine KO.loud rfl (l_slice1 sz_31_1 rfl rfl ⟨rfl, rfl, rfl⟩) ?_
            rintro _ _ ⟨b59, rfl, rfl⟩
            refine KO.loud rfl (l_append Kd.msg (ys := [x.tried]) se_31 Tryz.underlying31 ⟨_, ze_msg, rfl⟩ (by decide) rfl rfl (by repeat (first | exact Pick.here | apply Pick.there)) isP (by repeat (first | exact List.Mem.head _ | apply List.Mem.tail)) rfl rfl (by show (2 * (o.x.dead.length + 1) + 768) * 64 ≤ _; omega)) ?_
            rintro _ _ ⟨pn, dn, rfl, rfl⟩
            refine KO.q rfl (q_field fo_33_5 rfl) ?_
            refine KO.loudN rfl (l_store1 ck_31 rfl rfl rfl (by repeat (first | exact Pick.here | apply Pick.there)) (by repeat (first | exact SetAt.here | apply SetAt.there))) ?_
            rintro _ _ ⟨rfl, rfl⟩
            refine KO.done ?_
            refine K.seq ?_
            refine K.region ?_
            refine KO.q rfl (q_as (q_loadN ck_33 rfl rfl (by first | (apply cells_pv; (repeat (first | exact List.Mem.head _ | apply List.Mem.tail))) | (apply cells_fv; (repeat (first | exact List.Mem.head _ | apply List.Mem.tail))))) (show _ = Oz.cells ⟨{ o.x with msgs := o.x.msgs.eraseIdx i, dead := o.x.dead ++ [x.tried] }, ⟨qa, ca, qb, cb, pn, dn⟩⟩ from rfl)) ?_
            refine KO.loudN rfl (l_storeAll ck_33 rfl rfl ⟨rfl, rfl⟩ (oz_one _) (by repeat (first | exact Pick.here | apply Pick.there))) ?_
            rintro _ _ ⟨rfl, rfl⟩
            refine KO.q rfl (q_assign rfl) ?_
            refine KO.done ?_
            refine K.ret (fn := Tryz.f85) Tryz.func85 (fun a w hk hs => resCT Tryz.results85 hk rfl ck_33 rfl (cells_pv (by repeat (first | exact List.Mem.head _ | apply List.Mem.tail)) w hs) rfl) (fun w hs => ?_)
            rw [hr]
            have hc1 := rowO_cap (e := 39) (k := Kd.msg) (p := qb) (cap := cb) (xs := o.x.msgs.eraseIdx i) (by repeat (first | exact List.Mem.head _ | apply List.Mem.tail)) w hs
            have hc2 := rowO_cap (e := 39) (k := Kd.msg) (p := pn) (cap := dn) (xs := o.x.dead ++ [x.tried]) (by repeat (first | exact List.Mem.head _ | apply List.Mem.tail)) w hs
            exact ⟨_, ObL ⟨{ o.x with msgs := o.x.msgs.eraseIdx i, dead := o.x.dead ++ [x.tried] }, ⟨qa, ca, qb, cb, pn, dn⟩⟩, rfl, ⟨⟨qa, ca, qb, cb, pn, dn⟩, rfl, rfl, ha, hc1, hc2⟩, obO_freeze (o := ⟨{ o.x with msgs := o.x.msgs.eraseIdx i, dead := o.x.dead ++ [x.tried] }, ⟨qa, ca, qb, cb, pn, dn⟩⟩) (hs.fit (M := ObO ⟨{ o.x with msgs := o.x.msgs.eraseIdx i, dead := o.x.dead ++ [x.tried] }, ⟨qa, ca, qb, cb, pn, dn⟩⟩) (by repeat (first | exact Give.nil | (apply Give.perI; (repeat (first | exact List.Mem.head _ | apply List.Mem.tail))) | (apply Give.own; (repeat (first | exact Pick.here | apply Pick.there))))) (by repeat (first | exact Drop.refl | apply Drop.skip)))⟩
          · have hr : freeO o.x id tried = ({ o.x with msgs := o.x.msgs.set i x.tried }, true) := by unfold freeO; rw [if_neg g19, hgd, if_neg hcl, if_neg htr, if_neg g48, hi]; rfl
            have hsl : (o.x.msgs.set i x.tried).length = o.x.msgs.length := List.length_set
            refine K.region ?_
            refine KO.q rfl (q_field fo_33_4 rfl) ?_
            refine KO.q rfl (q_load1D ck_31 rfl) ?_
            refine KO.q rfl (q_move rfl) ?_
            refine KO.q rfl (q_loadN ck_39 rfl rfl (by first | (apply cells_pv; (repeat (first | exact List.Mem.head _ | apply List.Mem.tail))) | (apply cells_fv; (repeat (first | exact List.Mem.head _ | apply List.Mem.tail))))) ?_
            refine KO.q rfl (q_ix (xs := o.x.msgs) i se_31 rfl rfl hi isO (by repeat (first | exact List.Mem.head _ | apply List.Mem.tail)) rfl hil) ?_
            refine KO.loudN rfl (l_storeEN x.tried ck_39 rfl rfl (by repeat (first | exact Pick.here | apply Pick.there)) hil) ?_
            rintro _ _ ⟨rfl, rfl⟩
            refine KO.done ?_
            refine K.seq ?_
            refine K.region ?_
            refine KO.q rfl (q_as (q_loadN ck_33 rfl rfl (by first | (apply cells_pv; (repeat (first | exact List.Mem.head _ | apply List.Mem.tail))) | (apply cells_fv; (repeat (first | exact List.Mem.head _ | apply List.Mem.tail))))) (show _ = Oz.cells ⟨{ o.x with msgs := o.x.msgs.set i x.tried }, ⟨qa, ca, qb, cb, qc, cc⟩⟩ by show _ = [_, _, _, _, Value.slice qb (o.x.msgs.set i x.tried).length cb, _]; rw [hsl]; rfl)) ?_
            refine KO.loudN rfl (l_storeAll ck_33 rfl rfl ⟨rfl, rfl⟩ (oz_one _) (by repeat (first | exact Pick.here | apply Pick.there))) ?_
            rintro _ _ ⟨rfl, rfl⟩
            refine KO.q rfl (q_assign rfl) ?_
            refine KO.done ?_
            refine K.ret (fn := Tryz.f85) Tryz.func85 (fun a w hk hs => resCT Tryz.results85 hk rfl ck_33 rfl (cells_pv (by repeat (first | exact List.Mem.head _ | apply List.Mem.tail)) w hs) rfl) (fun w hs => ?_)
            rw [hr]
            exact ⟨_, ObL ⟨{ o.x with msgs := o.x.msgs.set i x.tried }, ⟨qa, ca, qb, cb, qc, cc⟩⟩, rfl, ⟨⟨qa, ca, qb, cb, qc, cc⟩, rfl, rfl, ha, by show (o.x.msgs.set i _).length ≤ cb; rw [hsl]; exact hb, hc⟩, obO_freeze (o := ⟨{ o.x with msgs := o.x.msgs.set i x.tried }, ⟨qa, ca, qb, cb, qc, cc⟩⟩) (hs.fit (M := ObO ⟨{ o.x with msgs := o.x.msgs.set i x.tried }, ⟨qa, ca, qb, cb, qc, cc⟩⟩) (by repeat (first | exact Give.nil | (apply Give.perI; (repeat (first | exact List.Mem.head _ | apply List.Mem.tail))) | (apply Give.own; (repeat (first | exact Pick.here | apply Pick.there))))) (by repeat (first | exact Drop.refl | apply Drop.skip)))⟩
end Go.Proofs.YthnmoiilaaoooaaGreat.L
