/- Walks: a state copied; changes done in turn. -/
import Derived.Test.YthnmoiilaaoooaaGreatE6
import Derived.Test.YthnmoiilaaoooaaGreatC5
import Derived.Test.YthnmoiilaaoooaaGreatLI
namespace Go.Proofs.YthnmoiilaaoooaaGreat.L
open Go Go.Proofs
attribute [local irreducible] pv fv pt fz RowF RowO rowP old pure_ elA
set_option maxRecDepth 100000
set_option linter.unusedSimpArgs false
set_option linter.unusedVariables false

/-- An object's own rows. -/
def ObE (o : Oz) : HP := HP.ex (fun _ : Unit => ObO o)
theorem pick_map_snoc {ι : Type} (f : ι → HP) (x : ι) : ∀ l : List ι, Pick ((l ++ [x]).map f) (f x) (l.map f)
  | [] => Pick.here
  | _ :: l => Pick.there (pick_map_snoc f x l)
theorem allO_snoc {l : List Oz} {o : Oz} {ρ : World} {L : List HP} {w : World} (h : St ρ (ObO o ++ AllO ObE l :: L) w) : St ρ (AllO ObE (l ++ [o]) :: L) w :=
  allO_put (pick_map_snoc ObE o l) (St.exI (f := fun _ : Unit => ObO o) () h)
theorem allO_freeze : ∀ {l : List Oz} {ρ : World} {L : List HP} {w : World}, St ρ (AllO ObE l :: L) w → St ρ (NestF l :: L) w
  | [], _, _, _, h => nestF_nil h.tail
  | o :: l, _, _, _, h => by
    have h1 := allO_out (f := ObE) (i := 0) (x := o) rfl h
    obtain ⟨_, h2⟩ := St.exO (f := fun _ : Unit => ObO o) h1
    have h3 := obO_freeze h2
    have h4 := allO_freeze (l := l) (h3.fit (M := [AllO ObE l]) (by repeat (first | exact Give.nil | (apply Give.perI; (repeat (first | exact List.Mem.head _ | apply List.Mem.tail))) | (apply Give.own; (repeat (first | exact Pick.here | apply Pick.there))))) (by repeat (first | exact Drop.refl | apply Drop.skip)) : St _ ([AllO ObE l] ++ (ObL o ++ _)) _)
    exact (nestF_put (l := l) (l' := o :: l) o (fun p hp => (List.mem_cons.1 hp).symm) (by repeat (first | exact List.Mem.head _ | apply List.Mem.tail)) (by repeat (first | exact List.Mem.head _ | apply List.Mem.tail)) (by repeat (first | exact List.Mem.head _ | apply List.Mem.tail)) (by repeat (first | exact List.Mem.head _ | apply List.Mem.tail)) h4).fit (M := [NestF (o :: l)]) (by repeat (first | exact Give.nil | (apply Give.perI; (repeat (first | exact List.Mem.head _ | apply List.Mem.tail))) | (apply Give.own; (repeat (first | exact Pick.here | apply Pick.there))))) (by repeat (first | exact Drop.refl | apply Drop.skip))
set_option maxHeartbeats 3200000 in
theorem st_CloneO (s : Sz) (hl : s.l.length ≤ 1000000000) (hle : ∀ o ∈ s.l, o.le 1000000000) : Fn Tryz.prog 19 [.agg s.cells.toArray].toArray (StL s)
    (fun r post => ∃ q' c' l', r = .agg (Sz.cells ⟨s.next, q', c', l'⟩).toArray ∧ post = [RowO Kd.oz 33 q' c' l', AllO ObE l'] ∧ l'.map (·.x) = s.l.map (·.x) ∧ l'.length ≤ c' ∧ ∀ o ∈ l', o.cap) := by
  obtain ⟨nx, q, c, l⟩ := s
  have hl : l.length ≤ 1000000000 := hl
  have hle : ∀ o ∈ l, o.le 1000000000 := hle
  refine Fn.enter (N := 45) Tryz.func19 rfl Tryz.ntmps19 (by kernel_rfl) rfl (fun ρ L => ?_)
  refine K.seq ?_
  refine K.region ?_
  refine KO.loud rfl (l_box rfl rfl) ?_
  rintro _ _ ⟨b1, rfl, rfl⟩
  refine KO.loud rfl (l_alloc zo_24) ?_
  rintro _ _ ⟨b2, rfl, rfl⟩
  refine KO.done ?_
  refine K.seq ?_
  refine K.region ?_
  refine KO.q rfl (q_field fo_24_1 rfl) ?_
  refine KO.q rfl (q_load1D ck_22 rfl) ?_
  refine KO.loud rfl (OpL.callD rfl (h := clone_oz (RowF Kd.oz q l) q c l isF hl)) ?_
  rintro _ _ ⟨_, ⟨q', c', rfl, rfl, hc'⟩, rfl⟩
  refine KO.q rfl (q_field fo_24_1 rfl) ?_
  refine KO.loudN rfl (l_store1 ck_22 rfl rfl rfl (by repeat (first | exact Pick.here | apply Pick.there)) (by repeat (first | exact SetAt.here | apply SetAt.there))) ?_
  rintro _ _ ⟨rfl, rfl⟩
  refine KO.done ?_
  refine K.seq <| K.seq ?_
  refine K.region ?_
  refine KO.q rfl (q_field fo_24_1 rfl) ?_
  refine KO.q rfl (q_load1D ck_22 rfl) ?_
  refine KO.q rfl (q_len Tryz.underlying22 rfl) ?_
  refine KO.q rfl (q_move rfl) ?_
  refine KO.done ?_
  refine K.block ?_
  refine K.rounds2 (ι := { x : Nat × List Oz // x.1 ≤ l.length ∧ x.2.length = l.length ∧ x.2.map (·.x) = l.map (·.x) ∧ x.2.drop x.1 = l.drop x.1 ∧ ∀ o ∈ x.2.take x.1, o.cap }) (fun x => [(12, .int .i64 x.1.1), (11, .int .i64 l.length), (1, .pointer (some ⟨b1, 0, none⟩)), (2, .pointer (some ⟨b2, 0, none⟩))]) (fun x => [RowO Kd.oz 33 q' c' x.1.2, AllO ObE (x.1.2.take x.1.1), pv b1 24 [.int .i64 nx, .slice q' l.length c'], pv b2 24 [.int .i64 0, .slice none 0 0], NestF l] ++ L) (fun x => l.length - x.1.1) ⟨(0, l), Nat.zero_le _, rfl, rfl, rfl, fun o ho => by cases ho⟩ (by repeat (first | exact Env.sub_nil _ | refine Env.sub_cons rfl ?_)) (fun w h => (allO_nil ObE (h.fit (M := [RowO Kd.oz 33 q' c' l, pv b1 24 [.int .i64 nx, .slice q' l.length c'], pv b2 24 [.int .i64 0, .slice none 0 0], NestF l]) (by repeat (first | exact Give.nil | (apply Give.perI; (repeat (first | exact List.Mem.head _ | apply List.Mem.tail))) | (apply Give.own; (repeat (first | exact Pick.here | apply Pick.there))))) (by repeat (first | exact Drop.refl | apply Drop.skip)))).fitD) (fun x ih => ?_)
  obtain ⟨⟨i, M⟩, hi, hM, hMx, hMd, hMc⟩ := x
  dsimp only at hi hM hMx hMd hMc ⊢
  refine K.seq ?_
  refine K.region ?_
  refine KO.q rfl (q_lt rfl rfl) ?_
  refine KO.done ?_
  refine K.seq ?_
  refine K.dcond (s := 13) rfl (fun g13 => ?_) (fun g13 => ?_)
  · obtain ⟨e, hel⟩ : ∃ e, l[i]? = some e := ⟨_, List.getElem?_eq_getElem (by omega)⟩
    have heM : M[i]? = some e := by
      have := congrArg (fun z => z[0]?) hMd
      simpa [List.getElem?_drop, hel] using this
    obtain ⟨he1, he2, he3⟩ := hle e (List.mem_of_getElem? hel)
    refine K.st (fun w h => nestF_at (l := l) (by repeat (first | exact List.Mem.head _ | apply List.Mem.tail)) (List.mem_of_getElem? hel) h) ?_
    refine K.skip <| K.seq <| K.block <| K.seq ?_
    refine K.region ?_
    refine KO.q rfl (q_move rfl) ?_
    refine KO.q rfl (q_assign rfl) ?_
    refine KO.done ?_
    refine K.seq ?_
    refine K.region ?_
    refine KO.q rfl (q_field fo_24_1 rfl) ?_
    refine KO.q rfl (q_load1D ck_22 rfl) ?_
    refine KO.q rfl (q_move rfl) ?_
    refine KO.q rfl (q_ix (xs := M) i se_22 rfl rfl rfl isO (by repeat (first | exact List.Mem.head _ | apply List.Mem.tail)) hM.symm (by omega)) ?_
    refine KO.q rfl (q_assign rfl) ?_
    refine KO.done ?_
    refine K.drawS [] (fun _ h => h.subD) mixed ?_
    refine D.q 0 rfl (by kernel_rfl) (by kernel_rfl) (q_move rfl) (fun _ h => h.subD) ?_
    refine D.q 1 rfl (by kernel_rfl) (by kernel_rfl) (q_move rfl) (fun _ h => h.subD) ?_
    refine D.q 2 rfl (by kernel_rfl) (by kernel_rfl) (q_move rfl) (fun _ h => h.subD) ?_
    refine D.q 3 rfl (by kernel_rfl) (by kernel_rfl) (q_move rfl) (fun _ h => h.subD) ?_
    refine D.q 4 rfl (by kernel_rfl) (by kernel_rfl) (q_nilCheck rfl) (fun _ h => h.subD) ?_
    refine D.q 5 rfl (by kernel_rfl) (by kernel_rfl) (q_fieldE fo_33_3 rfl) (fun _ h => h.subD) ?_
    refine D.q 8 rfl (by kernel_rfl) (by kernel_rfl) (q_move rfl) (fun _ h => h.subD) ?_
    refine D.q 9 rfl (by kernel_rfl) (by kernel_rfl) (q_nilCheck rfl) (fun _ h => h.subD) ?_
    refine D.q 10 rfl (by kernel_rfl) (by kernel_rfl) (q_fieldE fo_33_4 rfl) (fun _ h => h.subD) ?_
    refine D.q 13 rfl (by kernel_rfl) (by kernel_rfl) (q_move rfl) (fun _ h => h.subD) ?_
    refine D.q 14 rfl (by kernel_rfl) (by kernel_rfl) (q_nilCheck rfl) (fun _ h => h.subD) ?_
    refine D.q 15 rfl (by kernel_rfl) (by kernel_rfl) (q_fieldE fo_33_5 rfl) (fun _ h => h.subD) ?_
    refine D.all (rs := [6, 11, 16]) (by kernel_rfl) rfl (DAll.cons rfl (by kernel_rfl) (OpQ.loud (q_ldE (xs := M) ck_30 rfl isO (by repeat (first | exact List.Mem.head _ | apply List.Mem.tail)) heM rfl)) (.inr (by rintro _ _ ⟨rfl, rfl⟩ w h; exact h.subD)) rfl ?_ (DAll.cons rfl (by kernel_rfl) (OpQ.loud (q_ldE (xs := M) ck_31 rfl isO (by repeat (first | exact List.Mem.head _ | apply List.Mem.tail)) heM rfl)) (.inr (by rintro _ _ ⟨rfl, rfl⟩ w h; exact h.subD)) rfl ?_ (DAll.cons rfl (by kernel_rfl) (OpQ.loud (q_ldE (xs := M) ck_31 rfl isO (by repeat (first | exact List.Mem.head _ | apply List.Mem.tail)) heM rfl)) (.inr (by rintro _ _ ⟨rfl, rfl⟩ w h; exact h.subD)) rfl ?_ DAll.nil)))
    · rintro _ _ ⟨rfl, rfl⟩
      refine D.all (rs := [7, 11, 16]) (by kernel_rfl) rfl (DAll.cons rfl (by kernel_rfl) (OpL.callD rfl (h := clone_rw (RowF Kd.rw e.z.q1 e.x.rows) e.z.q1 e.z.c1 e.x.rows isF he1)) (.inr (by rintro _ _ ⟨_, ⟨qa, ca, rfl, rfl, ha⟩, rfl⟩ w h; exact h.subD)) rfl ?_ (DAll.cons rfl (by kernel_rfl) (OpQ.loud (q_ldE (xs := M) ck_31 rfl isO (by repeat (first | exact List.Mem.head _ | apply List.Mem.tail)) heM rfl)) (.inr (by rintro _ _ ⟨rfl, rfl⟩ w h; exact h.subD)) rfl ?_ (DAll.cons rfl (by kernel_rfl) (OpQ.loud (q_ldE (xs := M) ck_31 rfl isO (by repeat (first | exact List.Mem.head _ | apply List.Mem.tail)) heM rfl)) (.inr (by rintro _ _ ⟨rfl, rfl⟩ w h; exact h.subD)) rfl ?_ DAll.nil)))
      · rintro _ _ ⟨_, ⟨qa, ca, rfl, rfl, ha⟩, rfl⟩
        refine D.all (rs := [11, 16]) (by kernel_rfl) rfl (DAll.cons rfl (by kernel_rfl) (OpQ.loud (q_ldE (xs := M) ck_31 rfl isO (by repeat (first | exact List.Mem.head _ | apply List.Mem.tail)) heM rfl)) (.inr (by rintro _ _ ⟨rfl, rfl⟩ w h; exact h.subD)) rfl ?_ (DAll.cons rfl (by kernel_rfl) (OpQ.loud (q_ldE (xs := M) ck_31 rfl isO (by repeat (first | exact List.Mem.head _ | apply List.Mem.tail)) heM rfl)) (.inr (by rintro _ _ ⟨rfl, rfl⟩ w h; exact h.subD)) rfl ?_ DAll.nil))
        · rintro _ _ ⟨rfl, rfl⟩
          refine D.all (rs := [12, 16]) (by kernel_rfl) rfl (DAll.cons rfl (by kernel_rfl) (OpL.callD rfl (h := clone_msg (RowF Kd.msg e.z.q2 e.x.msgs) e.z.q2 e.z.c2 e.x.msgs isF he2)) (.inr (by rintro _ _ ⟨_, ⟨qb, cb, rfl, rfl, hb⟩, rfl⟩ w h; exact h.subD)) rfl ?_ (DAll.cons rfl (by kernel_rfl) (OpQ.loud (q_ldE (xs := M) ck_31 rfl isO (by repeat (first | exact List.Mem.head _ | apply List.Mem.tail)) heM rfl)) (.inr (by rintro _ _ ⟨rfl, rfl⟩ w h; exact h.subD)) rfl ?_ DAll.nil))
          · rintro _ _ ⟨_, ⟨qb, cb, rfl, rfl, hb⟩, rfl⟩
            refine D.all (rs := [16]) (by kernel_rfl) rfl (DAll.cons rfl (by kernel_rfl) (OpQ.loud (q_ldE (xs := M) ck_31 rfl isO (by repeat (first | exact List.Mem.head _ | apply List.Mem.tail)) heM rfl)) (.inr (by rintro _ _ ⟨rfl, rfl⟩ w h; exact h.subD)) rfl ?_ DAll.nil)
            rintro _ _ ⟨rfl, rfl⟩
            refine D.all (rs := [17]) (by kernel_rfl) rfl (DAll.cons rfl (by kernel_rfl) (OpL.callD rfl (h := clone_msg (RowF Kd.msg e.z.q3 e.x.dead) e.z.q3 e.z.c3 e.x.dead isF he3)) (.inr (by rintro _ _ ⟨_, ⟨qc, cc, rfl, rfl, hcc⟩, rfl⟩ w h; exact h.subD)) rfl ?_ DAll.nil)
            rintro _ _ ⟨_, ⟨qc, cc, rfl, rfl, hcc⟩, rfl⟩
            refine D.q 18 rfl (by kernel_rfl) (by kernel_rfl) (q_nilCheck rfl) (fun _ h => h.subD) ?_
            refine D.q 19 rfl (by kernel_rfl) (by kernel_rfl) (q_fieldE fo_33_3 rfl) (fun _ h => h.subD) ?_
            refine D.all (rs := [20]) (by kernel_rfl) rfl (DAll.consN rfl (by kernel_rfl) (l_storeE (xs := M) (el := e) (⟨e.x, ⟨qa, ca, e.z.q2, e.z.c2, e.z.q3, e.z.c3⟩⟩ : Oz) ck_30 rfl rfl rfl (by repeat (first | exact Pick.here | apply Pick.there)) heM (by decide) rfl) (.inr (by rintro _ _ ⟨rfl, rfl⟩ w h; exact h.subD)) rfl ?_ DAll.nil)
            rintro _ _ ⟨rfl, rfl⟩
            refine D.q 21 rfl (by kernel_rfl) (by kernel_rfl) (q_nilCheck rfl) (fun _ h => h.subD) ?_
            refine D.q 22 rfl (by kernel_rfl) (by kernel_rfl) (q_fieldE fo_33_4 rfl) (fun _ h => h.subD) ?_
            refine D.all (rs := [23]) (by kernel_rfl) rfl (DAll.consN rfl (by kernel_rfl) (l_storeE (xs := M.set i (⟨e.x, ⟨qa, ca, e.z.q2, e.z.c2, e.z.q3, e.z.c3⟩⟩ : Oz)) (el := (⟨e.x, ⟨qa, ca, e.z.q2, e.z.c2, e.z.q3, e.z.c3⟩⟩ : Oz)) (⟨e.x, ⟨qa, ca, qb, cb, e.z.q3, e.z.c3⟩⟩ : Oz) ck_31 rfl rfl rfl (by repeat (first | exact Pick.here | apply Pick.there)) (List.getElem?_set_self (by omega)) (by decide) rfl) (.inr (by rintro _ _ ⟨rfl, rfl⟩ w h; exact h.subD)) rfl ?_ DAll.nil)
            rintro _ _ ⟨rfl, rfl⟩
            refine D.q 24 rfl (by kernel_rfl) (by kernel_rfl) (q_nilCheck rfl) (fun _ h => h.subD) ?_
            refine D.q 25 rfl (by kernel_rfl) (by kernel_rfl) (q_fieldE fo_33_5 rfl) (fun _ h => h.subD) ?_
            refine D.all (rs := [26]) (by kernel_rfl) rfl (DAll.consN rfl (by kernel_rfl) (l_storeE (xs := (M.set i (⟨e.x, ⟨qa, ca, e.z.q2, e.z.c2, e.z.q3, e.z.c3⟩⟩ : Oz)).set i (⟨e.x, ⟨qa, ca, qb, cb, e.z.q3, e.z.c3⟩⟩ : Oz)) (el := (⟨e.x, ⟨qa, ca, qb, cb, e.z.q3, e.z.c3⟩⟩ : Oz)) (⟨e.x, ⟨qa, ca, qb, cb, qc, cc⟩⟩ : Oz) ck_31 rfl rfl rfl (by repeat (first | exact Pick.here | apply Pick.there)) (List.getElem?_set_self (by rw [List.length_set]; omega)) (by decide) rfl) (.inr (by rintro _ _ ⟨rfl, rfl⟩ w h; exact h.subD)) rfl ?_ DAll.nil)
            rintro _ _ ⟨rfl, rfl⟩
            refine D.done (by kernel_rfl) ?_
            refine K.inBlock ?_
            refine K.region ?_
            refine KO.q rfl (q_add rfl rfl (by first | omega | (simp; omega)) (by first | omega | (simp; omega))) ?_
            refine KO.q rfl (q_move rfl) ?_
            refine KO.done ?_
            rw [List.set_set, List.set_set]
            have htk : (M.set i ⟨e.x, ⟨qa, ca, qb, cb, qc, cc⟩⟩).take (i + 1) = M.take i ++ [⟨e.x, ⟨qa, ca, qb, cb, qc, cc⟩⟩] := by
              rw [List.take_add_one, List.take_set_of_le (Nat.le_refl i), List.getElem?_set_self (by omega)]; rfl
            exact K.weak (by repeat (first | exact Env.sub_nil _ | refine Env.sub_cons rfl ?_)) (fun w h => by dsimp only; rw [htk]; exact (allO_snoc (o := ⟨e.x, ⟨qa, ca, qb, cb, qc, cc⟩⟩) (h.fit (M := ObO ⟨e.x, ⟨qa, ca, qb, cb, qc, cc⟩⟩ ++ [AllO ObE (M.take i), RowO Kd.oz 33 q' c' (M.set i ⟨e.x, ⟨qa, ca, qb, cb, qc, cc⟩⟩), pv b1 24 [.int .i64 nx, .slice q' l.length c'], pv b2 24 [.int .i64 0, .slice none 0 0], NestF l]) (by repeat (first | exact Give.nil | (apply Give.perI; (repeat (first | exact List.Mem.head _ | apply List.Mem.tail))) | (apply Give.own; (repeat (first | exact Pick.here | apply Pick.there))))) (by repeat (first | exact Drop.refl | apply Drop.skip)))).fitD) (ih ⟨(i + 1, M.set i ⟨e.x, ⟨qa, ca, qb, cb, qc, cc⟩⟩), by show i + 1 ≤ _; omega, by rw [List.length_set]; exact hM, by
              show (M.set i _).map _ = _
              rw [List.map_set, ← hMx]
              show (M.map (·.x)).set i e.x = M.map (·.x)
              refine List.ext_getElem? fun j => ?_
              rw [List.getElem?_set]
              split
              · rename_i hij
                subst hij
                rw [List.getElem?_map, heM, List.length_map, if_pos (by omega)]
                rfl
              · rfl, by
              show (M.set i _).drop (i + 1) = l.drop (i + 1)
              rw [List.drop_set_of_lt (by omega), ← List.drop_drop, hMd, List.drop_drop], fun o ho => by
              have ho : o ∈ (M.set i ⟨e.x, ⟨qa, ca, qb, cb, qc, cc⟩⟩).take (i + 1) := ho
              rw [htk] at ho
              rcases List.mem_append.1 ho with ho | ho
              · exact hMc o ho
              · rw [List.mem_singleton.1 ho]; exact ⟨ha, hb, hcc⟩⟩ (by show l.length - (i + 1) < l.length - i; omega))
          · rintro _ _ ⟨rfl, rfl⟩
            refine D.all (rs := [12]) (by kernel_rfl) rfl (DAll.cons rfl (by kernel_rfl) (OpL.callD rfl (h := clone_msg (RowF Kd.msg e.z.q2 e.x.msgs) e.z.q2 e.z.c2 e.x.msgs isF he2)) (.inr (by rintro _ _ ⟨_, ⟨qb, cb, rfl, rfl, hb⟩, rfl⟩ w h; exact h.subD)) rfl ?_ DAll.nil)
            rintro _ _ ⟨_, ⟨qb, cb, rfl, rfl, hb⟩, rfl⟩
            refine D.all (rs := [17]) (by kernel_rfl) rfl (DAll.cons rfl (by kernel_rfl) (OpL.callD rfl (h := clone_msg (RowF Kd.msg e.z.q3 e.x.dead) e.z.q3 e.z.c3 e.x.dead isF he3)) (.inr (by rintro _ _ ⟨_, ⟨qc, cc, rfl, rfl, hcc⟩, rfl⟩ w h; exact h.subD)) rfl ?_ DAll.nil)
            rintro _ _ ⟨_, ⟨qc, cc, rfl, rfl, hcc⟩, rfl⟩
            refine D.q 18 rfl (by kernel_rfl) (by kernel_rfl) (q_nilCheck rfl) (fun _ h => h.subD) ?_
            refine D.q 19 rfl (by kernel_rfl) (by kernel_rfl) (q_fieldE fo_33_3 rfl) (fun _ h => h.subD) ?_
            refine D.all (rs := [20]) (by kernel_rfl) rfl (DAll.consN rfl (by kernel_rfl) (l_storeE (xs := M) (el := e) (⟨e.x, ⟨qa, ca, e.z.q2, e.z.c2, e.z.q3, e.z.c3⟩⟩ : Oz) ck_30 rfl rfl rfl (by repeat (first | exact Pick.here | apply Pick.there)) heM (by decide) rfl) (.inr (by rintro _ _ ⟨rfl, rfl⟩ w h; exact h.subD)) rfl ?_ DAll.nil)
            rintro _ _ ⟨rfl, rfl⟩
            refine D.q 21 rfl (by kernel_rfl) (by kernel_rfl) (q_nilCheck rfl) (fun _ h => h.subD) ?_
            refine D.q 22 rfl (by kernel_rfl) (by kernel_rfl) (q_fieldE fo_33_4 rfl) (fun _ h => h.subD) ?_
            refine D.all (rs := [23]) (by kernel_rfl) rfl (DAll.consN rfl (by kernel_rfl) (l_storeE (xs := M.set i (⟨e.x, ⟨qa, ca, e.z.q2, e.z.c2, e.z.q3, e.z.c3⟩⟩ : Oz)) (el := (⟨e.x, ⟨qa, ca, e.z.q2, e.z.c2, e.z.q3, e.z.c3⟩⟩ : Oz)) (⟨e.x, ⟨qa, ca, qb, cb, e.z.q3, e.z.c3⟩⟩ : Oz) ck_31 rfl rfl rfl (by repeat (first | exact Pick.here | apply Pick.there)) (List.getElem?_set_self (by omega)) (by decide) rfl) (.inr (by rintro _ _ ⟨rfl, rfl⟩ w h; exact h.subD)) rfl ?_ DAll.nil)
            rintro _ _ ⟨rfl, rfl⟩
            refine D.q 24 rfl (by kernel_rfl) (by kernel_rfl) (q_nilCheck rfl) (fun _ h => h.subD) ?_
            refine D.q 25 rfl (by kernel_rfl) (by kernel_rfl) (q_fieldE fo_33_5 rfl) (fun _ h => h.subD) ?_
            refine D.all (rs := [26]) (by kernel_rfl) rfl (DAll.consN rfl (by kernel_rfl) (l_storeE (xs := (M.set i (⟨e.x, ⟨qa, ca, e.z.q2, e.z.c2, e.z.q3, e.z.c3⟩⟩ : Oz)).set i (⟨e.x, ⟨qa, ca, qb, cb, e.z.q3, e.z.c3⟩⟩ : Oz)) (el := (⟨e.x, ⟨qa, ca, qb, cb, e.z.q3, e.z.c3⟩⟩ : Oz)) (⟨e.x, ⟨qa, ca, qb, cb, qc, cc⟩⟩ : Oz) ck_31 rfl rfl rfl (by repeat (first | exact Pick.here | apply Pick.there)) (List.getElem?_set_self (by rw [List.length_set]; omega)) (by decide) rfl) (.inr (by rintro _ _ ⟨rfl, rfl⟩ w h; exact h.subD)) rfl ?_ DAll.nil)
            rintro _ _ ⟨rfl, rfl⟩
            refine D.done (by kernel_rfl) ?_
            refine K.inBlock ?_
            refine K.region ?_
            refine KO.q rfl (q_add rfl rfl (by first | omega | (simp; omega)) (by first | omega | (simp; omega))) ?_
            refine KO.q rfl (q_move rfl) ?_
            refine KO.done ?_
            rw [List.set_set, List.set_set]
            have htk : (M.set i ⟨e.x, ⟨qa, ca, qb, cb, qc, cc⟩⟩).take (i + 1) = M.take i ++ [⟨e.x, ⟨qa, ca, qb, cb, qc, cc⟩⟩] := by
              rw [List.take_add_one, List.take_set_of_le (Nat.le_refl i), List.getElem?_set_self (by omega)]; rfl
            exact K.weak (by repeat (first | exact Env.sub_nil _ | refine Env.sub_cons rfl ?_)) (fun w h => by dsimp only; rw [htk]; exact (allO_snoc (o := ⟨e.x, ⟨qa, ca, qb, cb, qc, cc⟩⟩) (h.fit (M := ObO ⟨e.x, ⟨qa, ca, qb, cb, qc, cc⟩⟩ ++ [AllO ObE (M.take i), RowO Kd.oz 33 q' c' (M.set i ⟨e.x, ⟨qa, ca, qb, cb, qc, cc⟩⟩), pv b1 24 [.int .i64 nx, .slice q' l.length c'], pv b2 24 [.int .i64 0, .slice none 0 0], NestF l]) (by repeat (first | exact Give.nil | (apply Give.perI; (repeat (first | exact List.Mem.head _ | apply List.Mem.tail))) | (apply Give.own; (repeat (first | exact Pick.here | apply Pick.there))))) (by repeat (first | exact Drop.refl | apply Drop.skip)))).fitD) (ih ⟨(i + 1, M.set i ⟨e.x, ⟨qa, ca, qb, cb, qc, cc⟩⟩), by show i + 1 ≤ _; omega, by rw [List.length_set]; exact hM, by
              show (M.set i _).map _ = _
              rw [List.map_set, ← hMx]
              show (M.map (·.x)).set i e.x = M.map (·.x)
              refine List.ext_getElem? fun j => ?_
              rw [List.getElem?_set]
              split
              · rename_i hij
                subst hij
                rw [List.getElem?_map, heM, List.length_map, if_pos (by omega)]
                rfl
              · rfl, by
              show (M.set i _).drop (i + 1) = l.drop (i + 1)
              rw [List.drop_set_of_lt (by omega), ← List.drop_drop, hMd, List.drop_drop], fun o ho => by
              have ho : o ∈ (M.set i ⟨e.x, ⟨qa, ca, qb, cb, qc, cc⟩⟩).take (i + 1) := ho
              rw [htk] at ho
              rcases List.mem_append.1 ho with ho | ho
              · exact hMc o ho
              · rw [List.mem_singleton.1 ho]; exact ⟨ha, hb, hcc⟩⟩ (by show l.length - (i + 1) < l.length - i; omega))
        · rintro _ _ ⟨rfl, rfl⟩
          refine D.all (rs := [11]) (by kernel_rfl) rfl (DAll.cons rfl (by kernel_rfl) (OpQ.loud (q_ldE (xs := M) ck_31 rfl isO (by repeat (first | exact List.Mem.head _ | apply List.Mem.tail)) heM rfl)) (.inr (by rintro _ _ ⟨rfl, rfl⟩ w h; exact h.subD)) rfl ?_ DAll.nil)
          rintro _ _ ⟨rfl, rfl⟩
          refine D.all (rs := [12]) (by kernel_rfl) rfl (DAll.cons rfl (by kernel_rfl) (OpL.callD rfl (h := clone_msg (RowF Kd.msg e.z.q2 e.x.msgs) e.z.q2 e.z.c2 e.x.msgs isF he2)) (.inr (by rintro _ _ ⟨_, ⟨qb, cb, rfl, rfl, hb⟩, rfl⟩ w h; exact h.subD)) rfl ?_ DAll.nil)
          rintro _ _ ⟨_, ⟨qb, cb, rfl, rfl, hb⟩, rfl⟩
          refine D.all (rs := [17]) (by kernel_rfl) rfl (DAll.cons rfl (by kernel_rfl) (OpL.callD rfl (h := clone_msg (RowF Kd.msg e.z.q3 e.x.dead) e.z.q3 e.z.c3 e.x.dead isF he3)) (.inr (by rintro _ _ ⟨_, ⟨qc, cc, rfl, rfl, hcc⟩, rfl⟩ w h; exact h.subD)) rfl ?_ DAll.nil)
          rintro _ _ ⟨_, ⟨qc, cc, rfl, rfl, hcc⟩, rfl⟩
          refine D.q 18 rfl (by kernel_rfl) (by kernel_rfl) (q_nilCheck rfl) (fun _ h => h.subD) ?_
          refine D.q 19 rfl (by kernel_rfl) (by kernel_rfl) (q_fieldE fo_33_3 rfl) (fun _ h => h.subD) ?_
          refine D.all (rs := [20]) (by kernel_rfl) rfl (DAll.consN rfl (by kernel_rfl) (l_storeE (xs := M) (el := e) (⟨e.x, ⟨qa, ca, e.z.q2, e.z.c2, e.z.q3, e.z.c3⟩⟩ : Oz) ck_30 rfl rfl rfl (by repeat (first | exact Pick.here | apply Pick.there)) heM (by decide) rfl) (.inr (by rintro _ _ ⟨rfl, rfl⟩ w h; exact h.subD)) rfl ?_ DAll.nil)
          rintro _ _ ⟨rfl, rfl⟩
          refine D.q 21 rfl (by kernel_rfl) (by kernel_rfl) (q_nilCheck rfl) (fun _ h => h.subD) ?_
          refine D.q 22 rfl (by kernel_rfl) (by kernel_rfl) (q_fieldE fo_33_4 rfl) (fun _ h => h.subD) ?_
          refine D.all (rs := [23]) (by kernel_rfl) rfl (DAll.consN rfl (by kernel_rfl) (l_storeE (xs := M.set i (⟨e.x, ⟨qa, ca, e.z.q2, e.z.c2, e.z.q3, e.z.c3⟩⟩ : Oz)) (el := (⟨e.x, ⟨qa, ca, e.z.q2, e.z.c2, e.z.q3, e.z.c3⟩⟩ : Oz)) (⟨e.x, ⟨qa, ca, qb, cb, e.z.q3, e.z.c3⟩⟩ : Oz) ck_31 rfl rfl rfl (by repeat (first | exact Pick.here | apply Pick.there)) (List.getElem?_set_self (by omega)) (by decide) rfl) (.inr (by rintro _ _ ⟨rfl, rfl⟩ w h; exact h.subD)) rfl ?_ DAll.nil)
          rintro _ _ ⟨rfl, rfl⟩
          refine D.q 24 rfl (by kernel_rfl) (by kernel_rfl) (q_nilCheck rfl) (fun _ h => h.subD) ?_
          refine D.q 25 rfl (by kernel_rfl) (by kernel_rfl) (q_fieldE fo_33_5 rfl) (fun _ h => h.subD) ?_
          refine D.all (rs := [26]) (by kernel_rfl) rfl (DAll.consN rfl (by kernel_rfl) (l_storeE (xs := (M.set i (⟨e.x, ⟨qa, ca, e.z.q2, e.z.c2, e.z.q3, e.z.c3⟩⟩ : Oz)).set i (⟨e.x, ⟨qa, ca, qb, cb, e.z.q3, e.z.c3⟩⟩ : Oz)) (el := (⟨e.x, ⟨qa, ca, qb, cb, e.z.q3, e.z.c3⟩⟩ : Oz)) (⟨e.x, ⟨qa, ca, qb, cb, qc, cc⟩⟩ : Oz) ck_31 rfl rfl rfl (by repeat (first | exact Pick.here | apply Pick.there)) (List.getElem?_set_self (by rw [List.length_set]; omega)) (by decide) rfl) (.inr (by rintro _ _ ⟨rfl, rfl⟩ w h; exact h.subD)) rfl ?_ DAll.nil)
          rintro _ _ ⟨rfl, rfl⟩
          refine D.done (by kernel_rfl) ?_
          refine K.inBlock ?_
          refine K.region ?_
          refine KO.q rfl (q_add rfl rfl (by first | omega | (simp; omega)) (by first | omega | (simp; omega))) ?_
          refine KO.q rfl (q_move rfl) ?_
          refine KO.done ?_
          rw [List.set_set, List.set_set]
          have htk : (M.set i ⟨e.x, ⟨qa, ca, qb, cb, qc, cc⟩⟩).take (i + 1) = M.take i ++ [⟨e.x, ⟨qa, ca, qb, cb, qc, cc⟩⟩] := by
            rw [List.take_add_one, List.take_set_of_le (Nat.le_refl i), List.getElem?_set_self (by omega)]; rfl
          exact K.weak (by repeat (first | exact Env.sub_nil _ | refine Env.sub_cons rfl ?_)) (fun w h => by dsimp only; rw [htk]; exact (allO_snoc (o := ⟨e.x, ⟨qa, ca, qb, cb, qc, cc⟩⟩) (h.fit (M := ObO ⟨e.x, ⟨qa, ca, qb, cb, qc, cc⟩⟩ ++ [AllO ObE (M.take i), RowO Kd.oz 33 q' c' (M.set i ⟨e.x, ⟨qa, ca, qb, cb, qc, cc⟩⟩), pv b1 24 [.int .i64 nx, .slice q' l.length c'], pv b2 24 [.int .i64 0, .slice none 0 0], NestF l]) (by repeat (first | exact Give.nil | (apply Give.perI; (repeat (first | exact List.Mem.head _ | apply List.Mem.tail))) | (apply Give.own; (repeat (first | exact Pick.here | apply Pick.there))))) (by repeat (first | exact Drop.refl | apply Drop.skip)))).fitD) (ih ⟨(i + 1, M.set i ⟨e.x, ⟨qa, ca, qb, cb, qc, cc⟩⟩), by show i + 1 ≤ _; omega, by rw [List.length_set]; exact hM, by
            show (M.set i _).map _ = _
            rw [List.map_set, ← hMx]
            show (M.map (·.x)).set i e.x = M.map (·.x)
            refine List.ext_getElem? fun j => ?_
            rw [List.getElem?_set]
            split
            · rename_i hij
              subst hij
              rw [List.getElem?_map, heM, List.length_map, if_pos (by omega)]
              rfl
            · rfl, by
            show (M.set i _).drop (i + 1) = l.drop (i + 1)
            rw [List.drop_set_of_lt (by omega), ← List.drop_drop, hMd, List.drop_drop], fun o ho => by
            have ho : o ∈ (M.set i ⟨e.x, ⟨qa, ca, qb, cb, qc, cc⟩⟩).take (i + 1) := ho
            rw [htk] at ho
            rcases List.mem_append.1 ho with ho | ho
            · exact hMc o ho
            · rw [List.mem_singleton.1 ho]; exact ⟨ha, hb, hcc⟩⟩ (by show l.length - (i + 1) < l.length - i; omega))
      · rintro _ _ ⟨rfl, rfl⟩
        refine D.all (rs := [7, 16]) (by kernel_rfl) rfl (DAll.cons rfl (by kernel_rfl) (OpL.callD rfl (h := clone_rw (RowF Kd.rw e.z.q1 e.x.rows) e.z.q1 e.z.c1 e.x.rows isF he1)) (.inr (by rintro _ _ ⟨_, ⟨qa, ca, rfl, rfl, ha⟩, rfl⟩ w h; exact h.subD)) rfl ?_ (DAll.cons rfl (by kernel_rfl) (OpQ.loud (q_ldE (xs := M) ck_31 rfl isO (by repeat (first | exact List.Mem.head _ | apply List.Mem.tail)) heM rfl)) (.inr (by rintro _ _ ⟨rfl, rfl⟩ w h; exact h.subD)) rfl ?_ DAll.nil))
        · rintro _ _ ⟨_, ⟨qa, ca, rfl, rfl, ha⟩, rfl⟩
          refine D.all (rs := [12, 16]) (by kernel_rfl) rfl (DAll.cons rfl (by kernel_rfl) (OpL.callD rfl (h := clone_msg (RowF Kd.msg e.z.q2 e.x.msgs) e.z.q2 e.z.c2 e.x.msgs isF he2)) (.inr (by rintro _ _ ⟨_, ⟨qb, cb, rfl, rfl, hb⟩, rfl⟩ w h; exact h.subD)) rfl ?_ (DAll.cons rfl (by kernel_rfl) (OpQ.loud (q_ldE (xs := M) ck_31 rfl isO (by repeat (first | exact List.Mem.head _ | apply List.Mem.tail)) heM rfl)) (.inr (by rintro _ _ ⟨rfl, rfl⟩ w h; exact h.subD)) rfl ?_ DAll.nil))
          · rintro _ _ ⟨_, ⟨qb, cb, rfl, rfl, hb⟩, rfl⟩
            refine D.all (rs := [16]) (by kernel_rfl) rfl (DAll.cons rfl (by kernel_rfl) (OpQ.loud (q_ldE (xs := M) ck_31 rfl isO (by repeat (first | exact List.Mem.head _ | apply List.Mem.tail)) heM rfl)) (.inr (by rintro _ _ ⟨rfl, rfl⟩ w h; exact h.subD)) rfl ?_ DAll.nil)
            rintro _ _ ⟨rfl, rfl⟩
            refine D.all (rs := [17]) (by kernel_rfl) rfl (DAll.cons rfl (by kernel_rfl) (OpL.callD rfl (h := clone_msg (RowF Kd.msg e.z.q3 e.x.dead) e.z.q3 e.z.c3 e.x.dead isF he3)) (.inr (by rintro _ _ ⟨_, ⟨qc, cc, rfl, rfl, hcc⟩, rfl⟩ w h; exact h.subD)) rfl ?_ DAll.nil)
            rintro _ _ ⟨_, ⟨qc, cc, rfl, rfl, hcc⟩, rfl⟩
            refine D.q 18 rfl (by kernel_rfl) (by kernel_rfl) (q_nilCheck rfl) (fun _ h => h.subD) ?_
            refine D.q 19 rfl (by kernel_rfl) (by kernel_rfl) (q_fieldE fo_33_3 rfl) (fun _ h => h.subD) ?_
            refine D.all (rs := [20]) (by kernel_rfl) rfl (DAll.consN rfl (by kernel_rfl) (l_storeE (xs := M) (el := e) (⟨e.x, ⟨qa, ca, e.z.q2, e.z.c2, e.z.q3, e.z.c3⟩⟩ : Oz) ck_30 rfl rfl rfl (by repeat (first | exact Pick.here | apply Pick.there)) heM (by decide) rfl) (.inr (by rintro _ _ ⟨rfl, rfl⟩ w h; exact h.subD)) rfl ?_ DAll.nil)
            rintro _ _ ⟨rfl, rfl⟩
            refine D.q 21 rfl (by kernel_rfl) (by kernel_rfl) (q_nilCheck rfl) (fun _ h => h.subD) ?_
            refine D.q 22 rfl (by kernel_rfl) (by kernel_rfl) (q_fieldE fo_33_4 rfl) (fun _ h => h.subD) ?_
            refine D.all (rs := [23]) (by kernel_rfl) rfl (DAll.consN rfl (by kernel_rfl) (l_storeE (xs := M.set i (⟨e.x, ⟨qa, ca, e.z.q2, e.z.c2, e.z.q3, e.z.c3⟩⟩ : Oz)) (el := (⟨e.x, ⟨qa, ca, e.z.q2, e.z.c2, e.z.q3, e.z.c3⟩⟩ : Oz)) (⟨e.x, ⟨qa, ca, qb, cb, e.z.q3, e.z.c3⟩⟩ : Oz) ck_31 rfl rfl rfl (by repeat (first | exact Pick.here | apply Pick.there)) (List.getElem?_set_self (by omega)) (by decide) rfl) (.inr (by rintro _ _ ⟨rfl, rfl⟩ w h; exact h.subD)) rfl ?_ DAll.nil)
            rintro _ _ ⟨rfl, rfl⟩
            refine D.q 24 rfl (by kernel_rfl) (by kernel_rfl) (q_nilCheck rfl) (fun _ h => h.subD) ?_
            refine D.q 25 rfl (by kernel_rfl) (by kernel_rfl) (q_fieldE fo_33_5 rfl) (fun _ h => h.subD) ?_
            refine D.all (rs := [26]) (by kernel_rfl) rfl (DAll.consN rfl (by kernel_rfl) (l_storeE (xs := (M.set i (⟨e.x, ⟨qa, ca, e.z.q2, e.z.c2, e.z.q3, e.z.c3⟩⟩ : Oz)).set i (⟨e.x, ⟨qa, ca, qb, cb, e.z.q3, e.z.c3⟩⟩ : Oz)) (el := (⟨e.x, ⟨qa, ca, qb, cb, e.z.q3, e.z.c3⟩⟩ : Oz)) (⟨e.x, ⟨qa, ca, qb, cb, qc, cc⟩⟩ : Oz) ck_31 rfl rfl rfl (by repeat (first | exact Pick.here | apply Pick.there)) (List.getElem?_set_self (by rw [List.length_set]; omega)) (by decide) rfl) (.inr (by rintro _ _ ⟨rfl, rfl⟩ w h; exact h.subD)) rfl ?_ DAll.nil)
            rintro _ _ ⟨rfl, rfl⟩
            refine D.done (by kernel_rfl) ?_
            refine K.inBlock ?_
            refine K.region ?_
            refine KO.q rfl (q_add rfl rfl (by first | omega | (simp; omega)) (by first | omega | (simp; omega))) ?_
            refine KO.q rfl (q_move rfl) ?_
            refine KO.done ?_
            rw [List.set_set, List.set_set]
            have htk : (M.set i ⟨e.x, ⟨qa, ca, qb, cb, qc, cc⟩⟩).take (i + 1) = M.take i ++ [⟨e.x, ⟨qa, ca, qb, cb, qc, cc⟩⟩] := by
              rw [List.take_add_one, List.take_set_of_le (Nat.le_refl i), List.getElem?_set_self (by omega)]; rfl
            exact K.weak (by repeat (first | exact Env.sub_nil _ | refine Env.sub_cons rfl ?_)) (fun w h => by dsimp only; rw [htk]; exact (allO_snoc (o := ⟨e.x, ⟨qa, ca, qb, cb, qc, cc⟩⟩) (h.fit (M := ObO ⟨e.x, ⟨qa, ca, qb, cb, qc, cc⟩⟩ ++ [AllO ObE (M.take i), RowO Kd.oz 33 q' c' (M.set i ⟨e.x, ⟨qa, ca, qb, cb, qc, cc⟩⟩), pv b1 24 [.int .i64 nx, .slice q' l.length c'], pv b2 24 [.int .i64 0, .slice none 0 0], NestF l]) (by repeat (first | exact Give.nil | (apply Give.perI; (repeat (first | exact List.Mem.head _ | apply List.Mem.tail))) | (apply Give.own; (repeat (first | exact Pick.here | apply Pick.there))))) (by repeat (first | exact Drop.refl | apply Drop.skip)))).fitD) (ih ⟨(i + 1, M.set i ⟨e.x, ⟨qa, ca, qb, cb, qc, cc⟩⟩), by show i + 1 ≤ _; omega, by rw [List.length_set]; exact hM, by
              show (M.set i _).map _ = _
              rw [List.map_set, ← hMx]
              show (M.map (·.x)).set i e.x = M.map (·.x)
              refine List.ext_getElem? fun j => ?_
              rw [List.getElem?_set]
              split
              · rename_i hij
                subst hij
                rw [List.getElem?_map, heM, List.length_map, if_pos (by omega)]
                rfl
              · rfl, by
              show (M.set i _).drop (i + 1) = l.drop (i + 1)
              rw [List.drop_set_of_lt (by omega), ← List.drop_drop, hMd, List.drop_drop], fun o ho => by
              have ho : o ∈ (M.set i ⟨e.x, ⟨qa, ca, qb, cb, qc, cc⟩⟩).take (i + 1) := ho
              rw [htk] at ho
              rcases List.mem_append.1 ho with ho | ho
              · exact hMc o ho
              · rw [List.mem_singleton.1 ho]; exact ⟨ha, hb, hcc⟩⟩ (by show l.length - (i + 1) < l.length - i; omega))
          · rintro _ _ ⟨rfl, rfl⟩
            refine D.all (rs := [12]) (by kernel_rfl) rfl (DAll.cons rfl (by kernel_rfl) (OpL.callD rfl (h := clone_msg (RowF Kd.msg e.z.q2 e.x.msgs) e.z.q2 e.z.c2 e.x.msgs isF he2)) (.inr (by rintro _ _ ⟨_, ⟨qb, cb, rfl, rfl, hb⟩, rfl⟩ w h; exact h.subD)) rfl ?_ DAll.nil)
            rintro _ _ ⟨_, ⟨qb, cb, rfl, rfl, hb⟩, rfl⟩
            refine D.all (rs := [17]) (by kernel_rfl) rfl (DAll.cons rfl (by kernel_rfl) (OpL.callD rfl (h := clone_msg (RowF Kd.msg e.z.q3 e.x.dead) e.z.q3 e.z.c3 e.x.dead isF he3)) (.inr (by rintro _ _ ⟨_, ⟨qc, cc, rfl, rfl, hcc⟩, rfl⟩ w h; exact h.subD)) rfl ?_ DAll.nil)
            rintro _ _ ⟨_, ⟨qc, cc, rfl, rfl, hcc⟩, rfl⟩
            refine D.q 18 rfl (by kernel_rfl) (by kernel_rfl) (q_nilCheck rfl) (fun _ h => h.subD) ?_
            refine D.q 19 rfl (by kernel_rfl) (by kernel_rfl) (q_fieldE fo_33_3 rfl) (fun _ h => h.subD) ?_
            refine D.all (rs := [20]) (by kernel_rfl) rfl (DAll.consN rfl (by kernel_rfl) (l_storeE (xs := M) (el := e) (⟨e.x, ⟨qa, ca, e.z.q2, e.z.c2, e.z.q3, e.z.c3⟩⟩ : Oz) ck_30 rfl rfl rfl (by repeat (first | exact Pick.here | apply Pick.there)) heM (by decide) rfl) (.inr (by rintro _ _ ⟨rfl, rfl⟩ w h; exact h.subD)) rfl ?_ DAll.nil)
            rintro _ _ ⟨rfl, rfl⟩
            refine D.q 21 rfl (by kernel_rfl) (by kernel_rfl) (q_nilCheck rfl) (fun _ h => h.subD) ?_
            refine D.q 22 rfl (by kernel_rfl) (by kernel_rfl) (q_fieldE fo_33_4 rfl) (fun _ h => h.subD) ?_
            refine D.all (rs := [23]) (by kernel_rfl) rfl (DAll.consN rfl (by kernel_rfl) (l_storeE (xs := M.set i (⟨e.x, ⟨qa, ca, e.z.q2, e.z.c2, e.z.q3, e.z.c3⟩⟩ : Oz)) (el := (⟨e.x, ⟨qa, ca, e.z.q2, e.z.c2, e.z.q3, e.z.c3⟩⟩ : Oz)) (⟨e.x, ⟨qa, ca, qb, cb, e.z.q3, e.z.c3⟩⟩ : Oz) ck_31 rfl rfl rfl (by repeat (first | exact Pick.here | apply Pick.there)) (List.getElem?_set_self (by omega)) (by decide) rfl) (.inr (by rintro _ _ ⟨rfl, rfl⟩ w h; exact h.subD)) rfl ?_ DAll.nil)
            rintro _ _ ⟨rfl, rfl⟩
            refine D.q 24 rfl (by kernel_rfl) (by kernel_rfl) (q_nilCheck rfl) (fun _ h => h.subD) ?_
            refine D.q 25 rfl (by kernel_rfl) (by kernel_rfl) (q_fieldE fo_33_5 rfl) (fun _ h => h.subD) ?_
            refine D.all (rs := [26]) (by kernel_rfl) rfl (DAll.consN rfl (by kernel_rfl) (l_storeE (xs := (M.set i (⟨e.x, ⟨qa, ca, e.z.q2, e.z.c2, e.z.q3, e.z.c3⟩⟩ : Oz)).set i (⟨e.x, ⟨qa, ca, qb, cb, e.z.q3, e.z.c3⟩⟩ : Oz)) (el := (⟨e.x, ⟨qa, ca, qb, cb, e.z.q3, e.z.c3⟩⟩ : Oz)) (⟨e.x, ⟨qa, ca, qb, cb, qc, cc⟩⟩ : Oz) ck_31 rfl rfl rfl (by repeat (first | exact Pick.here | apply Pick.there)) (List.getElem?_set_self (by rw [List.length_set]; omega)) (by decide) rfl) (.inr (by rintro _ _ ⟨rfl, rfl⟩ w h; exact h.subD)) rfl ?_ DAll.nil)
            rintro _ _ ⟨rfl, rfl⟩
            refine D.done (by kernel_rfl) ?_
            refine K.inBlock ?_
            refine K.region ?_
            refine KO.q rfl (q_add rfl rfl (by first | omega | (simp; omega)) (by first | omega | (simp; omega))) ?_
            refine KO.q rfl (q_move rfl) ?_
            refine KO.done ?_
            rw [List.set_set, List.set_set]
            have htk : (M.set i ⟨e.x, ⟨qa, ca, qb, cb, qc, cc⟩⟩).take (i + 1) = M.take i ++ [⟨e.x, ⟨qa, ca, qb, cb, qc, cc⟩⟩] := by
              rw [List.take_add_one, List.take_set_of_le (Nat.le_refl i), List.getElem?_set_self (by omega)]; rfl
            exact K.weak (by repeat (first | exact Env.sub_nil _ | refine Env.sub_cons rfl ?_)) (fun w h => by dsimp only; rw [htk]; exact (allO_snoc (o := ⟨e.x, ⟨qa, ca, qb, cb, qc, cc⟩⟩) (h.fit (M := ObO ⟨e.x, ⟨qa, ca, qb, cb, qc, cc⟩⟩ ++ [AllO ObE (M.take i), RowO Kd.oz 33 q' c' (M.set i ⟨e.x, ⟨qa, ca, qb, cb, qc, cc⟩⟩), pv b1 24 [.int .i64 nx, .slice q' l.length c'], pv b2 24 [.int .i64 0, .slice none 0 0], NestF l]) (by repeat (first | exact Give.nil | (apply Give.perI; (repeat (first | exact List.Mem.head _ | apply List.Mem.tail))) | (apply Give.own; (repeat (first | exact Pick.here | apply Pick.there))))) (by repeat (first | exact Drop.refl | apply Drop.skip)))).fitD) (ih ⟨(i + 1, M.set i ⟨e.x, ⟨qa, ca, qb, cb, qc, cc⟩⟩), by show i + 1 ≤ _; omega, by rw [List.length_set]; exact hM, by
              show (M.set i _).map _ = _
              rw [List.map_set, ← hMx]
              show (M.map (·.x)).set i e.x = M.map (·.x)
              refine List.ext_getElem? fun j => ?_
              rw [List.getElem?_set]
              split
              · rename_i hij
                subst hij
                rw [List.getElem?_map, heM, List.length_map, if_pos (by omega)]
                rfl
              · rfl, by
              show (M.set i _).drop (i + 1) = l.drop (i + 1)
              rw [List.drop_set_of_lt (by omega), ← List.drop_drop, hMd, List.drop_drop], fun o ho => by
              have ho : o ∈ (M.set i ⟨e.x, ⟨qa, ca, qb, cb, qc, cc⟩⟩).take (i + 1) := ho
              rw [htk] at ho
              rcases List.mem_append.1 ho with ho | ho
              · exact hMc o ho
              · rw [List.mem_singleton.1 ho]; exact ⟨ha, hb, hcc⟩⟩ (by show l.length - (i + 1) < l.length - i; omega))
        · rintro _ _ ⟨rfl, rfl⟩
          refine D.all (rs := [7]) (by kernel_rfl) rfl (DAll.cons rfl (by kernel_rfl) (OpL.callD rfl (h := clone_rw (RowF Kd.rw e.z.q1 e.x.rows) e.z.q1 e.z.c1 e.x.rows isF he1)) (.inr (by rintro _ _ ⟨_, ⟨qa, ca, rfl, rfl, ha⟩, rfl⟩ w h; exact h.subD)) rfl ?_ DAll.nil)
          rintro _ _ ⟨_, ⟨qa, ca, rfl, rfl, ha⟩, rfl⟩
          refine D.all (rs := [12]) (by kernel_rfl) rfl (DAll.cons rfl (by kernel_rfl) (OpL.callD rfl (h := clone_msg (RowF Kd.msg e.z.q2 e.x.msgs) e.z.q2 e.z.c2 e.x.msgs isF he2)) (.inr (by rintro _ _ ⟨_, ⟨qb, cb, rfl, rfl, hb⟩, rfl⟩ w h; exact h.subD)) rfl ?_ DAll.nil)
          rintro _ _ ⟨_, ⟨qb, cb, rfl, rfl, hb⟩, rfl⟩
          refine D.all (rs := [17]) (by kernel_rfl) rfl (DAll.cons rfl (by kernel_rfl) (OpL.callD rfl (h := clone_msg (RowF Kd.msg e.z.q3 e.x.dead) e.z.q3 e.z.c3 e.x.dead isF he3)) (.inr (by rintro _ _ ⟨_, ⟨qc, cc, rfl, rfl, hcc⟩, rfl⟩ w h; exact h.subD)) rfl ?_ DAll.nil)
          rintro _ _ ⟨_, ⟨qc, cc, rfl, rfl, hcc⟩, rfl⟩
          refine D.q 18 rfl (by kernel_rfl) (by kernel_rfl) (q_nilCheck rfl) (fun _ h => h.subD) ?_
          refine D.q 19 rfl (by kernel_rfl) (by kernel_rfl) (q_fieldE fo_33_3 rfl) (fun _ h => h.subD) ?_
          refine D.all (rs := [20]) (by kernel_rfl) rfl (DAll.consN rfl (by kernel_rfl) (l_storeE (xs := M) (el := e) (⟨e.x, ⟨qa, ca, e.z.q2, e.z.c2, e.z.q3, e.z.c3⟩⟩ : Oz) ck_30 rfl rfl rfl (by repeat (first | exact Pick.here | apply Pick.there)) heM (by decide) rfl) (.inr (by rintro _ _ ⟨rfl, rfl⟩ w h; exact h.subD)) rfl ?_ DAll.nil)
          rintro _ _ ⟨rfl, rfl⟩
          refine D.q 21 rfl (by kernel_rfl) (by kernel_rfl) (q_nilCheck rfl) (fun _ h => h.subD) ?_
          refine D.q 22 rfl (by kernel_rfl) (by kernel_rfl) (q_fieldE fo_33_4 rfl) (fun _ h => h.subD) ?_
          refine D.all (rs := [23]) (by kernel_rfl) rfl (DAll.consN rfl (by kernel_rfl) (l_storeE (xs := M.set i (⟨e.x, ⟨qa, ca, e.z.q2, e.z.c2, e.z.q3, e.z.c3⟩⟩ : Oz)) (el := (⟨e.x, ⟨qa, ca, e.z.q2, e.z.c2, e.z.q3, e.z.c3⟩⟩ : Oz)) (⟨e.x, ⟨qa, ca, qb, cb, e.z.q3, e.z.c3⟩⟩ : Oz) ck_31 rfl rfl rfl (by repeat (first | exact Pick.here | apply Pick.there)) (List.getElem?_set_self (by omega)) (by decide) rfl) (.inr (by rintro _ _ ⟨rfl, rfl⟩ w h; exact h.subD)) rfl ?_ DAll.nil)
          rintro _ _ ⟨rfl, rfl⟩
          refine D.q 24 rfl (by kernel_rfl) (by kernel_rfl) (q_nilCheck rfl) (fun _ h => h.subD) ?_
          refine D.q 25 rfl (by kernel_rfl) (by kernel_rfl) (q_fieldE fo_33_5 rfl) (fun _ h => h.subD) ?_
          refine D.all (rs := [26]) (by kernel_rfl) rfl (DAll.consN rfl (by kernel_rfl) (l_storeE (xs := (M.set i (⟨e.x, ⟨qa, ca, e.z.q2, e.z.c2, e.z.q3, e.z.c3⟩⟩ : Oz)).set i (⟨e.x, ⟨qa, ca, qb, cb, e.z.q3, e.z.c3⟩⟩ : Oz)) (el := (⟨e.x, ⟨qa, ca, qb, cb, e.z.q3, e.z.c3⟩⟩ : Oz)) (⟨e.x, ⟨qa, ca, qb, cb, qc, cc⟩⟩ : Oz) ck_31 rfl rfl rfl (by repeat (first | exact Pick.here | apply Pick.there)) (List.getElem?_set_self (by rw [List.length_set]; omega)) (by decide) rfl) (.inr (by rintro _ _ ⟨rfl, rfl⟩ w h; exact h.subD)) rfl ?_ DAll.nil)
          rintro _ _ ⟨rfl, rfl⟩
          refine D.done (by kernel_rfl) ?_
          refine K.inBlock ?_
          refine K.region ?_
          refine KO.q rfl (q_add rfl rfl (by first | omega | (simp; omega)) (by first | omega | (simp; omega))) ?_
          refine KO.q rfl (q_move rfl) ?_
          refine KO.done ?_
          rw [List.set_set, List.set_set]
          have htk : (M.set i ⟨e.x, ⟨qa, ca, qb, cb, qc, cc⟩⟩).take (i + 1) = M.take i ++ [⟨e.x, ⟨qa, ca, qb, cb, qc, cc⟩⟩] := by
            rw [List.take_add_one, List.take_set_of_le (Nat.le_refl i), List.getElem?_set_self (by omega)]; rfl
          exact K.weak (by repeat (first | exact Env.sub_nil _ | refine Env.sub_cons rfl ?_)) (fun w h => by dsimp only; rw [htk]; exact (allO_snoc (o := ⟨e.x, ⟨qa, ca, qb, cb, qc, cc⟩⟩) (h.fit (M := ObO ⟨e.x, ⟨qa, ca, qb, cb, qc, cc⟩⟩ ++ [AllO ObE (M.take i), RowO Kd.oz 33 q' c' (M.set i ⟨e.x, ⟨qa, ca, qb, cb, qc, cc⟩⟩), pv b1 24 [.int .i64 nx, .slice q' l.length c'], pv b2 24 [.int .i64 0, .slice none 0 0], NestF l]) (by repeat (first | exact Give.nil | (apply Give.perI; (repeat (first | exact List.Mem.head _ | apply List.Mem.tail))) | (apply Give.own; (repeat (first | exact Pick.here | apply Pick.there))))) (by repeat (first | exact Drop.refl | apply Drop.skip)))).fitD) (ih ⟨(i + 1, M.set i ⟨e.x, ⟨qa, ca, qb, cb, qc, cc⟩⟩), by show i + 1 ≤ _; omega, by rw [List.length_set]; exact hM, by
            show (M.set i _).map _ = _
            rw [List.map_set, ← hMx]
            show (M.map (·.x)).set i e.x = M.map (·.x)
            refine List.ext_getElem? fun j => ?_
            rw [List.getElem?_set]
            split
            · rename_i hij
              subst hij
              rw [List.getElem?_map, heM, List.length_map, if_pos (by omega)]
              rfl
            · rfl, by
            show (M.set i _).drop (i + 1) = l.drop (i + 1)
            rw [List.drop_set_of_lt (by omega), ← List.drop_drop, hMd, List.drop_drop], fun o ho => by
            have ho : o ∈ (M.set i ⟨e.x, ⟨qa, ca, qb, cb, qc, cc⟩⟩).take (i + 1) := ho
            rw [htk] at ho
            rcases List.mem_append.1 ho with ho | ho
            · exact hMc o ho
            · rw [List.mem_singleton.1 ho]; exact ⟨ha, hb, hcc⟩⟩ (by show l.length - (i + 1) < l.length - i; omega))
      · rintro _ _ ⟨rfl, rfl⟩
        refine D.all (rs := [7, 11]) (by kernel_rfl) rfl (DAll.cons rfl (by kernel_rfl) (OpL.callD rfl (h := clone_rw (RowF Kd.rw e.z.q1 e.x.rows) e.z.q1 e.z.c1 e.x.rows isF he1)) (.inr (by rintro _ _ ⟨_, ⟨qa, ca, rfl, rfl, ha⟩, rfl⟩ w h; exact h.subD)) rfl ?_ (DAll.cons rfl (by kernel_rfl) (OpQ.loud (q_ldE (xs := M) ck_31 rfl isO (by repeat (first | exact List.Mem.head _ | apply List.Mem.tail)) heM rfl)) (.inr (by rintro _ _ ⟨rfl, rfl⟩ w h; exact h.subD)) rfl ?_ DAll.nil))
        · rintro _ _ ⟨_, ⟨qa, ca, rfl, rfl, ha⟩, rfl⟩
          refine D.all (rs := [11]) (by kernel_rfl) rfl (DAll.cons rfl (by kernel_rfl) (OpQ.loud (q_ldE (xs := M) ck_31 rfl isO (by repeat (first | exact List.Mem.head _ | apply List.Mem.tail)) heM rfl)) (.inr (by rintro _ _ ⟨rfl, rfl⟩ w h; exact h.subD)) rfl ?_ DAll.nil)
          rintro _ _ ⟨rfl, rfl⟩
          refine D.all (rs := [12]) (by kernel_rfl) rfl (DAll.cons rfl (by kernel_rfl) (OpL.callD rfl (h := clone_msg (RowF Kd.msg e.z.q2 e.x.msgs) e.z.q2 e.z.c2 e.x.msgs isF he2)) (.inr (by rintro _ _ ⟨_, ⟨qb, cb, rfl, rfl, hb⟩, rfl⟩ w h; exact h.subD)) rfl ?_ DAll.nil)
          rintro _ _ ⟨_, ⟨qb, cb, rfl, rfl, hb⟩, rfl⟩
          refine D.all (rs := [17]) (by kernel_rfl) rfl (DAll.cons rfl (by kernel_rfl) (OpL.callD rfl (h := clone_msg (RowF Kd.msg e.z.q3 e.x.dead) e.z.q3 e.z.c3 e.x.dead isF he3)) (.inr (by rintro _ _ ⟨_, ⟨qc, cc, rfl, rfl, hcc⟩, rfl⟩ w h; exact h.subD)) rfl ?_ DAll.nil)
          rintro _ _ ⟨_, ⟨qc, cc, rfl, rfl, hcc⟩, rfl⟩
          refine D.q 18 rfl (by kernel_rfl) (by kernel_rfl) (q_nilCheck rfl) (fun _ h => h.subD) ?_
          refine D.q 19 rfl (by kernel_rfl) (by kernel_rfl) (q_fieldE fo_33_3 rfl) (fun _ h => h.subD) ?_
          refine D.all (rs := [20]) (by kernel_rfl) rfl (DAll.consN rfl (by kernel_rfl) (l_storeE (xs := M) (el := e) (⟨e.x, ⟨qa, ca, e.z.q2, e.z.c2, e.z.q3, e.z.c3⟩⟩ : Oz) ck_30 rfl rfl rfl (by repeat (first | exact Pick.here | apply Pick.there)) heM (by decide) rfl) (.inr (by rintro _ _ ⟨rfl, rfl⟩ w h; exact h.subD)) rfl ?_ DAll.nil)
          rintro _ _ ⟨rfl, rfl⟩
          refine D.q 21 rfl (by kernel_rfl) (by kernel_rfl) (q_nilCheck rfl) (fun _ h => h.subD) ?_
          refine D.q 22 rfl (by kernel_rfl) (by kernel_rfl) (q_fieldE fo_33_4 rfl) (fun _ h => h.subD) ?_
          refine D.all (rs := [23]) (by kernel_rfl) rfl (DAll.consN rfl (by kernel_rfl) (l_storeE (xs := M.set i (⟨e.x, ⟨qa, ca, e.z.q2, e.z.c2, e.z.q3, e.z.c3⟩⟩ : Oz)) (el := (⟨e.x, ⟨qa, ca, e.z.q2, e.z.c2, e.z.q3, e.z.c3⟩⟩ : Oz)) (⟨e.x, ⟨qa, ca, qb, cb, e.z.q3, e.z.c3⟩⟩ : Oz) ck_31 rfl rfl rfl (by repeat (first | exact Pick.here | apply Pick.there)) (List.getElem?_set_self (by omega)) (by decide) rfl) (.inr (by rintro _ _ ⟨rfl, rfl⟩ w h; exact h.subD)) rfl ?_ DAll.nil)
          rintro _ _ ⟨rfl, rfl⟩
          refine D.q 24 rfl (by kernel_rfl) (by kernel_rfl) (q_nilCheck rfl) (fun _ h => h.subD) ?_
          refine D.q 25 rfl (by kernel_rfl) (by kernel_rfl) (q_fieldE fo_33_5 rfl) (fun _ h => h.subD) ?_
          refine D.all (rs := [26]) (by kernel_rfl) rfl (DAll.consN rfl (by kernel_rfl) (l_storeE (xs := (M.set i (⟨e.x, ⟨qa, ca, e.z.q2, e.z.c2, e.z.q3, e.z.c3⟩⟩ : Oz)).set i (⟨e.x, ⟨qa, ca, qb, cb, e.z.q3, e.z.c3⟩⟩ : Oz)) (el := (⟨e.x, ⟨qa, ca, qb, cb, e.z.q3, e.z.c3⟩⟩ : Oz)) (⟨e.x, ⟨qa, ca, qb, cb, qc, cc⟩⟩ : Oz) ck_31 rfl rfl rfl (by repeat (first | exact Pick.here | apply Pick.there)) (List.getElem?_set_self (by rw [List.length_set]; omega)) (by decide) rfl) (.inr (by rintro _ _ ⟨rfl, rfl⟩ w h; exact h.subD)) rfl ?_ DAll.nil)
          rintro _ _ ⟨rfl, rfl⟩
          refine D.done (by kernel_rfl) ?_
          refine K.inBlock ?_
          refine K.region ?_
          refine KO.q rfl (q_add rfl rfl (by first | omega | (simp; omega)) (by first | omega | (simp; omega))) ?_
          refine KO.q rfl (q_move rfl) ?_
          refine KO.done ?_
          rw [List.set_set, List.set_set]
          have htk : (M.set i ⟨e.x, ⟨qa, ca, qb, cb, qc, cc⟩⟩).take (i + 1) = M.take i ++ [⟨e.x, ⟨qa, ca, qb, cb, qc, cc⟩⟩] := by
            rw [List.take_add_one, List.take_set_of_le (Nat.le_refl i), List.getElem?_set_self (by omega)]; rfl
          exact K.weak (by repeat (first | exact Env.sub_nil _ | refine Env.sub_cons rfl ?_)) (fun w h => by dsimp only; rw [htk]; exact (allO_snoc (o := ⟨e.x, ⟨qa, ca, qb, cb, qc, cc⟩⟩) (h.fit (M := ObO ⟨e.x, ⟨qa, ca, qb, cb, qc, cc⟩⟩ ++ [AllO ObE (M.take i), RowO Kd.oz 33 q' c' (M.set i ⟨e.x, ⟨qa, ca, qb, cb, qc, cc⟩⟩), pv b1 24 [.int .i64 nx, .slice q' l.length c'], pv b2 24 [.int .i64 0, .slice none 0 0], NestF l]) (by repeat (first | exact Give.nil | (apply Give.perI; (repeat (first | exact List.Mem.head _ | apply List.Mem.tail))) | (apply Give.own; (repeat (first | exact Pick.here | apply Pick.there))))) (by repeat (first | exact Drop.refl | apply Drop.skip)))).fitD) (ih ⟨(i + 1, M.set i ⟨e.x, ⟨qa, ca, qb, cb, qc, cc⟩⟩), by show i + 1 ≤ _; omega, by rw [List.length_set]; exact hM, by
            show (M.set i _).map _ = _
            rw [List.map_set, ← hMx]
            show (M.map (·.x)).set i e.x = M.map (·.x)
            refine List.ext_getElem? fun j => ?_
            rw [List.getElem?_set]
            split
            · rename_i hij
              subst hij
              rw [List.getElem?_map, heM, List.length_map, if_pos (by omega)]
              rfl
            · rfl, by
            show (M.set i _).drop (i + 1) = l.drop (i + 1)
            rw [List.drop_set_of_lt (by omega), ← List.drop_drop, hMd, List.drop_drop], fun o ho => by
            have ho : o ∈ (M.set i ⟨e.x, ⟨qa, ca, qb, cb, qc, cc⟩⟩).take (i + 1) := ho
            rw [htk] at ho
            rcases List.mem_append.1 ho with ho | ho
            · exact hMc o ho
            · rw [List.mem_singleton.1 ho]; exact ⟨ha, hb, hcc⟩⟩ (by show l.length - (i + 1) < l.length - i; omega))
        · rintro _ _ ⟨rfl, rfl⟩
          refine D.all (rs := [7]) (by kernel_rfl) rfl (DAll.cons rfl (by kernel_rfl) (OpL.callD rfl (h := clone_rw (RowF Kd.rw e.z.q1 e.x.rows) e.z.q1 e.z.c1 e.x.rows isF he1)) (.inr (by rintro _ _ ⟨_, ⟨qa, ca, rfl, rfl, ha⟩, rfl⟩ w h; exact h.subD)) rfl ?_ DAll.nil)
          rintro _ _ ⟨_, ⟨qa, ca, rfl, rfl, ha⟩, rfl⟩
          refine D.all (rs := [12]) (by kernel_rfl) rfl (DAll.cons rfl (by kernel_rfl) (OpL.callD rfl (h := clone_msg (RowF Kd.msg e.z.q2 e.x.msgs) e.z.q2 e.z.c2 e.x.msgs isF he2)) (.inr (by rintro _ _ ⟨_, ⟨qb, cb, rfl, rfl, hb⟩, rfl⟩ w h; exact h.subD)) rfl ?_ DAll.nil)
          rintro _ _ ⟨_, ⟨qb, cb, rfl, rfl, hb⟩, rfl⟩
          refine D.all (rs := [17]) (by kernel_rfl) rfl (DAll.cons rfl (by kernel_rfl) (OpL.callD rfl (h := clone_msg (RowF Kd.msg e.z.q3 e.x.dead) e.z.q3 e.z.c3 e.x.dead isF he3)) (.inr (by rintro _ _ ⟨_, ⟨qc, cc, rfl, rfl, hcc⟩, rfl⟩ w h; exact h.subD)) rfl ?_ DAll.nil)
          rintro _ _ ⟨_, ⟨qc, cc, rfl, rfl, hcc⟩, rfl⟩
          refine D.q 18 rfl (by kernel_rfl) (by kernel_rfl) (q_nilCheck rfl) (fun _ h => h.subD) ?_
          refine D.q 19 rfl (by kernel_rfl) (by kernel_rfl) (q_fieldE fo_33_3 rfl) (fun _ h => h.subD) ?_
          refine D.all (rs := [20]) (by kernel_rfl) rfl (DAll.consN rfl (by kernel_rfl) (l_storeE (xs := M) (el := e) (⟨e.x, ⟨qa, ca, e.z.q2, e.z.c2, e.z.q3, e.z.c3⟩⟩ : Oz) ck_30 rfl rfl rfl (by repeat (first | exact Pick.here | apply Pick.there)) heM (by decide) rfl) (.inr (by rintro _ _ ⟨rfl, rfl⟩ w h; exact h.subD)) rfl ?_ DAll.nil)
          rintro _ _ ⟨rfl, rfl⟩
          refine D.q 21 rfl (by kernel_rfl) (by kernel_rfl) (q_nilCheck rfl) (fun _ h => h.subD) ?_
          refine D.q 22 rfl (by kernel_rfl) (by kernel_rfl) (q_fieldE fo_33_4 rfl) (fun _ h => h.subD) ?_
          refine D.all (rs := [23]) (by kernel_rfl) rfl (DAll.consN rfl (by kernel_rfl) (l_storeE (xs := M.set i (⟨e.x, ⟨qa, ca, e.z.q2, e.z.c2, e.z.q3, e.z.c3⟩⟩ : Oz)) (el := (⟨e.x, ⟨qa, ca, e.z.q2, e.z.c2, e.z.q3, e.z.c3⟩⟩ : Oz)) (⟨e.x, ⟨qa, ca, qb, cb, e.z.q3, e.z.c3⟩⟩ : Oz) ck_31 rfl rfl rfl (by repeat (first | exact Pick.here | apply Pick.there)) (List.getElem?_set_self (by omega)) (by decide) rfl) (.inr (by rintro _ _ ⟨rfl, rfl⟩ w h; exact h.subD)) rfl ?_ DAll.nil)
          rintro _ _ ⟨rfl, rfl⟩
          refine D.q 24 rfl (by kernel_rfl) (by kernel_rfl) (q_nilCheck rfl) (fun _ h => h.subD) ?_
          refine D.q 25 rfl (by kernel_rfl) (by kernel_rfl) (q_fieldE fo_33_5 rfl) (fun _ h => h.subD) ?_
          refine D.all (rs := [26]) (by kernel_rfl) rfl (DAll.consN rfl (by kernel_rfl) (l_storeE (xs := (M.set i (⟨e.x, ⟨qa, ca, e.z.q2, e.z.c2, e.z.q3, e.z.c3⟩⟩ : Oz)).set i (⟨e.x, ⟨qa, ca, qb, cb, e.z.q3, e.z.c3⟩⟩ : Oz)) (el := (⟨e.x, ⟨qa, ca, qb, cb, e.z.q3, e.z.c3⟩⟩ : Oz)) (⟨e.x, ⟨qa, ca, qb, cb, qc, cc⟩⟩ : Oz) ck_31 rfl rfl rfl (by repeat (first | exact Pick.here | apply Pick.there)) (List.getElem?_set_self (by rw [List.length_set]; omega)) (by decide) rfl) (.inr (by rintro _ _ ⟨rfl, rfl⟩ w h; exact h.subD)) rfl ?_ DAll.nil)
          rintro _ _ ⟨rfl, rfl⟩
          refine D.done (by kernel_rfl) ?_
          refine K.inBlock ?_
          refine K.region ?_
          refine KO.q rfl (q_add rfl rfl (by first | omega | (simp; omega)) (by first | omega | (simp; omega))) ?_
          refine KO.q rfl (q_move rfl) ?_
          refine KO.done ?_
          rw [List.set_set, List.set_set]
          have htk : (M.set i ⟨e.x, ⟨qa, ca, qb, cb, qc, cc⟩⟩).take (i + 1) = M.take i ++ [⟨e.x, ⟨qa, ca, qb, cb, qc, cc⟩⟩] := by
            rw [List.take_add_one, List.take_set_of_le (Nat.le_refl i), List.getElem?_set_self (by omega)]; rfl
          exact K.weak (by repeat (first | exact Env.sub_nil _ | refine Env.sub_cons rfl ?_)) (fun w h => by dsimp only; rw [htk]; exact (allO_snoc (o := ⟨e.x, ⟨qa, ca, qb, cb, qc, cc⟩⟩) (h.fit (M := ObO ⟨e.x, ⟨qa, ca, qb, cb, qc, cc⟩⟩ ++ [AllO ObE (M.take i), RowO Kd.oz 33 q' c' (M.set i ⟨e.x, ⟨qa, ca, qb, cb, qc, cc⟩⟩), pv b1 24 [.int .i64 nx, .slice q' l.length c'], pv b2 24 [.int .i64 0, .slice none 0 0], NestF l]) (by repeat (first | exact Give.nil | (apply Give.perI; (repeat (first | exact List.Mem.head _ | apply List.Mem.tail))) | (apply Give.own; (repeat (first | exact Pick.here | apply Pick.there))))) (by repeat (first | exact Drop.refl | apply Drop.skip)))).fitD) (ih ⟨(i + 1, M.set i ⟨e.x, ⟨qa, ca, qb, cb, qc, cc⟩⟩), by show i + 1 ≤ _; omega, by rw [List.length_set]; exact hM, by
            show (M.set i _).map _ = _
            rw [List.map_set, ← hMx]
            show (M.map (·.x)).set i e.x = M.map (·.x)
            refine List.ext_getElem? fun j => ?_
            rw [List.getElem?_set]
            split
            · rename_i hij
              subst hij
              rw [List.getElem?_map, heM, List.length_map, if_pos (by omega)]
              rfl
            · rfl, by
            show (M.set i _).drop (i + 1) = l.drop (i + 1)
            rw [List.drop_set_of_lt (by omega), ← List.drop_drop, hMd, List.drop_drop], fun o ho => by
            have ho : o ∈ (M.set i ⟨e.x, ⟨qa, ca, qb, cb, qc, cc⟩⟩).take (i + 1) := ho
            rw [htk] at ho
            rcases List.mem_append.1 ho with ho | ho
            · exact hMc o ho
            · rw [List.mem_singleton.1 ho]; exact ⟨ha, hb, hcc⟩⟩ (by show l.length - (i + 1) < l.length - i; omega))
    · rintro _ _ ⟨rfl, rfl⟩
      refine D.all (rs := [6, 16]) (by kernel_rfl) rfl (DAll.cons rfl (by kernel_rfl) (OpQ.loud (q_ldE (xs := M) ck_30 rfl isO (by repeat (first | exact List.Mem.head _ | apply List.Mem.tail)) heM rfl)) (.inr (by rintro _ _ ⟨rfl, rfl⟩ w h; exact h.subD)) rfl ?_ (DAll.cons rfl (by kernel_rfl) (OpQ.loud (q_ldE (xs := M) ck_31 rfl isO (by repeat (first | exact List.Mem.head _ | apply List.Mem.tail)) heM rfl)) (.inr (by rintro _ _ ⟨rfl, rfl⟩ w h; exact h.subD)) rfl ?_ DAll.nil))
      · rintro _ _ ⟨rfl, rfl⟩
        refine D.all (rs := [7, 16]) (by kernel_rfl) rfl (DAll.cons rfl (by kernel_rfl) (OpL.callD rfl (h := clone_rw (RowF Kd.rw e.z.q1 e.x.rows) e.z.q1 e.z.c1 e.x.rows isF he1)) (.inr (by rintro _ _ ⟨_, ⟨qa, ca, rfl, rfl, ha⟩, rfl⟩ w h; exact h.subD)) rfl ?_ (DAll.cons rfl (by kernel_rfl) (OpQ.loud (q_ldE (xs := M) ck_31 rfl isO (by repeat (first | exact List.Mem.head _ | apply List.Mem.tail)) heM rfl)) (.inr (by rintro _ _ ⟨rfl, rfl⟩ w h; exact h.subD)) rfl ?_ DAll.nil))
        · rintro _ _ ⟨_, ⟨qa, ca, rfl, rfl, ha⟩, rfl⟩
          refine D.all (rs := [12, 16]) (by kernel_rfl) rfl (DAll.cons rfl (by kernel_rfl) (OpL.callD rfl (h := clone_msg (RowF Kd.msg e.z.q2 e.x.msgs) e.z.q2 e.z.c2 e.x.msgs isF he2)) (.inr (by rintro _ _ ⟨_, ⟨qb, cb, rfl, rfl, hb⟩, rfl⟩ w h; exact h.subD)) rfl ?_ (DAll.cons rfl (by kernel_rfl) (OpQ.loud (q_ldE (xs := M) ck_31 rfl isO (by repeat (first | exact List.Mem.head _ | apply List.Mem.tail)) heM rfl)) (.inr (by rintro _ _ ⟨rfl, rfl⟩ w h; exact h.subD)) rfl ?_ DAll.nil))
          · rintro _ _ ⟨_, ⟨qb, cb, rfl, rfl, hb⟩, rfl⟩
            refine D.all (rs := [16]) (by kernel_rfl) rfl (DAll.cons rfl (by kernel_rfl) (OpQ.loud (q_ldE (xs := M) ck_31 rfl isO (by repeat (first | exact List.Mem.head _ | apply List.Mem.tail)) heM rfl)) (.inr (by rintro _ _ ⟨rfl, rfl⟩ w h; exact h.subD)) rfl ?_ DAll.nil)
            rintro _ _ ⟨rfl, rfl⟩
            refine D.all (rs := [17]) (by kernel_rfl) rfl (DAll.cons rfl (by kernel_rfl) (OpL.callD rfl (h := clone_msg (RowF Kd.msg e.z.q3 e.x.dead) e.z.q3 e.z.c3 e.x.dead isF he3)) (.inr (by rintro _ _ ⟨_, ⟨qc, cc, rfl, rfl, hcc⟩, rfl⟩ w h; exact h.subD)) rfl ?_ DAll.nil)
            rintro _ _ ⟨_, ⟨qc, cc, rfl, rfl, hcc⟩, rfl⟩
            refine D.q 18 rfl (by kernel_rfl) (by kernel_rfl) (q_nilCheck rfl) (fun _ h => h.subD) ?_
            refine D.q 19 rfl (by kernel_rfl) (by kernel_rfl) (q_fieldE fo_33_3 rfl) (fun _ h => h.subD) ?_
            refine D.all (rs := [20]) (by kernel_rfl) rfl (DAll.consN rfl (by kernel_rfl) (l_storeE (xs := M) (el := e) (⟨e.x, ⟨qa, ca, e.z.q2, e.z.c2, e.z.q3, e.z.c3⟩⟩ : Oz) ck_30 rfl rfl rfl (by repeat (first | exact Pick.here | apply Pick.there)) heM (by decide) rfl) (.inr (by rintro _ _ ⟨rfl, rfl⟩ w h; exact h.subD)) rfl ?_ DAll.nil)
            rintro _ _ ⟨rfl, rfl⟩
            refine D.q 21 rfl (by kernel_rfl) (by kernel_rfl) (q_nilCheck rfl) (fun _ h => h.subD) ?_
            refine D.q 22 rfl (by kernel_rfl) (by kernel_rfl) (q_fieldE fo_33_4 rfl) (fun _ h => h.subD) ?_
            refine D.all (rs := [23]) (by kernel_rfl) rfl (DAll.consN rfl (by kernel_rfl) (l_storeE (xs := M.set i (⟨e.x, ⟨qa, ca, e.z.q2, e.z.c2, e.z.q3, e.z.c3⟩⟩ : Oz)) (el := (⟨e.x, ⟨qa, ca, e.z.q2, e.z.c2, e.z.q3, e.z.c3⟩⟩ : Oz)) (⟨e.x, ⟨qa, ca, qb, cb, e.z.q3, e.z.c3⟩⟩ : Oz) ck_31 rfl rfl rfl (by repeat (first | exact Pick.here | apply Pick.there)) (List.getElem?_set_self (by omega)) (by decide) rfl) (.inr (by rintro _ _ ⟨rfl, rfl⟩ w h; exact h.subD)) rfl ?_ DAll.nil)
            rintro _ _ ⟨rfl, rfl⟩
            refine D.q 24 rfl (by kernel_rfl) (by kernel_rfl) (q_nilCheck rfl) (fun _ h => h.subD) ?_
            refine D.q 25 rfl (by kernel_rfl) (by kernel_rfl) (q_fieldE fo_33_5 rfl) (fun _ h => h.subD) ?_
            refine D.all (rs := [26]) (by kernel_rfl) rfl (DAll.consN rfl (by kernel_rfl) (l_storeE (xs := (M.set i (⟨e.x, ⟨qa, ca, e.z.q2, e.z.c2, e.z.q3, e.z.c3⟩⟩ : Oz)).set i (⟨e.x, ⟨qa, ca, qb, cb, e.z.q3, e.z.c3⟩⟩ : Oz)) (el := (⟨e.x, ⟨qa, ca, qb, cb, e.z.q3, e.z.c3⟩⟩ : Oz)) (⟨e.x, ⟨qa, ca, qb, cb, qc, cc⟩⟩ : Oz) ck_31 rfl rfl rfl (by repeat (first | exact Pick.here | apply Pick.there)) (List.getElem?_set_self (by rw [List.length_set]; omega)) (by decide) rfl) (.inr (by rintro _ _ ⟨rfl, rfl⟩ w h; exact h.subD)) rfl ?_ DAll.nil)
            rintro _ _ ⟨rfl, rfl⟩
            refine D.done (by kernel_rfl) ?_
            refine K.inBlock ?_
            refine K.region ?_
            refine KO.q rfl (q_add rfl rfl (by first | omega | (simp; omega)) (by first | omega | (simp; omega))) ?_
            refine KO.q rfl (q_move rfl) ?_
            refine KO.done ?_
            rw [List.set_set, List.set_set]
            have htk : (M.set i ⟨e.x, ⟨qa, ca, qb, cb, qc, cc⟩⟩).take (i + 1) = M.take i ++ [⟨e.x, ⟨qa, ca, qb, cb, qc, cc⟩⟩] := by
              rw [List.take_add_one, List.take_set_of_le (Nat.le_refl i), List.getElem?_set_self (by omega)]; rfl
            exact K.weak (by repeat (first | exact Env.sub_nil _ | refine Env.sub_cons rfl ?_)) (fun w h => by dsimp only; rw [htk]; exact (allO_snoc (o := ⟨e.x, ⟨qa, ca, qb, cb, qc, cc⟩⟩) (h.fit (M := ObO ⟨e.x, ⟨qa, ca, qb, cb, qc, cc⟩⟩ ++ [AllO ObE (M.take i), RowO Kd.oz 33 q' c' (M.set i ⟨e.x, ⟨qa, ca, qb, cb, qc, cc⟩⟩), pv b1 24 [.int .i64 nx, .slice q' l.length c'], pv b2 24 [.int .i64 0, .slice none 0 0], NestF l]) (by repeat (first | exact Give.nil | (apply Give.perI; (repeat (first | exact List.Mem.head _ | apply List.Mem.tail))) | (apply Give.own; (repeat (first | exact Pick.here | apply Pick.there))))) (by repeat (first | exact Drop.refl | apply Drop.skip)))).fitD) (ih ⟨(i + 1, M.set i ⟨e.x, ⟨qa, ca, qb, cb, qc, cc⟩⟩), by show i + 1 ≤ _; omega, by rw [List.length_set]; exact hM, by
              show (M.set i _).map _ = _
              rw [List.map_set, ← hMx]
              show (M.map (·.x)).set i e.x = M.map (·.x)
              refine List.ext_getElem? fun j => ?_
              rw [List.getElem?_set]
              split
              · rename_i hij
                subst hij
                rw [List.getElem?_map, heM, List.length_map, if_pos (by omega)]
                rfl
              · rfl, by
              show (M.set i _).drop (i + 1) = l.drop (i + 1)
              rw [List.drop_set_of_lt (by omega), ← List.drop_drop, hMd, List.drop_drop], fun o ho => by
              have ho : o ∈ (M.set i ⟨e.x, ⟨qa, ca, qb, cb, qc, cc⟩⟩).take (i + 1) := ho
              rw [htk] at ho
              rcases List.mem_append.1 ho with ho | ho
              · exact hMc o ho
              · rw [List.mem_singleton.1 ho]; exact ⟨ha, hb, hcc⟩⟩ (by show l.length - (i + 1) < l.length - i; omega))
          · rintro _ _ ⟨rfl, rfl⟩
            refine D.all (rs := [12]) (by kernel_rfl) rfl (DAll.cons rfl (by kernel_rfl) (OpL.callD rfl (h := clone_msg (RowF Kd.msg e.z.q2 e.x.msgs) e.z.q2 e.z.c2 e.x.msgs isF he2)) (.inr (by rintro _ _ ⟨_, ⟨qb, cb, rfl, rfl, hb⟩, rfl⟩ w h; exact h.subD)) rfl ?_ DAll.nil)
            rintro _ _ ⟨_, ⟨qb, cb, rfl, rfl, hb⟩, rfl⟩
            refine D.all (rs := [17]) (by kernel_rfl) rfl (DAll.cons rfl (by kernel_rfl) (OpL.callD rfl (h := clone_msg (RowF Kd.msg e.z.q3 e.x.dead) e.z.q3 e.z.c3 e.x.dead isF he3)) (.inr (by rintro _ _ ⟨_, ⟨qc, cc, rfl, rfl, hcc⟩, rfl⟩ w h; exact h.subD)) rfl ?_ DAll.nil)
            rintro _ _ ⟨_, ⟨qc, cc, rfl, rfl, hcc⟩, rfl⟩
            refine D.q 18 rfl (by kernel_rfl) (by kernel_rfl) (q_nilCheck rfl) (fun _ h => h.subD) ?_
            refine D.q 19 rfl (by kernel_rfl) (by kernel_rfl) (q_fieldE fo_33_3 rfl) (fun _ h => h.subD) ?_
            refine D.all (rs := [20]) (by kernel_rfl) rfl (DAll.consN rfl (by kernel_rfl) (l_storeE (xs := M) (el := e) (⟨e.x, ⟨qa, ca, e.z.q2, e.z.c2, e.z.q3, e.z.c3⟩⟩ : Oz) ck_30 rfl rfl rfl (by repeat (first | exact Pick.here | apply Pick.there)) heM (by decide) rfl) (.inr (by rintro _ _ ⟨rfl, rfl⟩ w h; exact h.subD)) rfl ?_ DAll.nil)
            rintro _ _ ⟨rfl, rfl⟩
            refine D.q 21 rfl (by kernel_rfl) (by kernel_rfl) (q_nilCheck rfl) (fun _ h => h.subD) ?_
            refine D.q 22 rfl (by kernel_rfl) (by kernel_rfl) (q_fieldE fo_33_4 rfl) (fun _ h => h.subD) ?_
            refine D.all (rs := [23]) (by kernel_rfl) rfl (DAll.consN rfl (by kernel_rfl) (l_storeE (xs := M.set i (⟨e.x, ⟨qa, ca, e.z.q2, e.z.c2, e.z.q3, e.z.c3⟩⟩ : Oz)) (el := (⟨e.x, ⟨qa, ca, e.z.q2, e.z.c2, e.z.q3, e.z.c3⟩⟩ : Oz)) (⟨e.x, ⟨qa, ca, qb, cb, e.z.q3, e.z.c3⟩⟩ : Oz) ck_31 rfl rfl rfl (by repeat (first | exact Pick.here | apply Pick.there)) (List.getElem?_set_self (by omega)) (by decide) rfl) (.inr (by rintro _ _ ⟨rfl, rfl⟩ w h; exact h.subD)) rfl ?_ DAll.nil)
            rintro _ _ ⟨rfl, rfl⟩
            refine D.q 24 rfl (by kernel_rfl) (by kernel_rfl) (q_nilCheck rfl) (fun _ h => h.subD) ?_
            refine D.q 25 rfl (by kernel_rfl) (by kernel_rfl) (q_fieldE fo_33_5 rfl) (fun _ h => h.subD) ?_
            refine D.all (rs := [26]) (by kernel_rfl) rfl (DAll.consN rfl (by kernel_rfl) (l_storeE (xs := (M.set i (⟨e.x, ⟨qa, ca, e.z.q2, e.z.c2, e.z.q3, e.z.c3⟩⟩ : Oz)).set i (⟨e.x, ⟨qa, ca, qb, cb, e.z.q3, e.z.c3⟩⟩ : Oz)) (el := (⟨e.x, ⟨qa, ca, qb, cb, e.z.q3, e.z.c3⟩⟩ : Oz)) (⟨e.x, ⟨qa, ca, qb, cb, qc, cc⟩⟩ : Oz) ck_31 rfl rfl rfl (by repeat (first | exact Pick.here | apply Pick.there)) (List.getElem?_set_self (by rw [List.length_set]; omega)) (by decide) rfl) (.inr (by rintro _ _ ⟨rfl, rfl⟩ w h; exact h.subD)) rfl ?_ DAll.nil)
            rintro _ _ ⟨rfl, rfl⟩
            refine D.done (by kernel_rfl) ?_
            refine K.inBlock ?_
            refine K.region ?_
            refine KO.q rfl (q_add rfl rfl (by first | omega | (simp; omega)) (by first | omega | (simp; omega))) ?_
            refine KO.q rfl (q_move rfl) ?_
            refine KO.done ?_
            rw [List.set_set, List.set_set]
            have htk : (M.set i ⟨e.x, ⟨qa, ca, qb, cb, qc, cc⟩⟩).take (i + 1) = M.take i ++ [⟨e.x, ⟨qa, ca, qb, cb, qc, cc⟩⟩] := by
              rw [List.take_add_one, List.take_set_of_le (Nat.le_refl i), List.getElem?_set_self (by omega)]; rfl
            exact K.weak (by repeat (first | exact Env.sub_nil _ | refine Env.sub_cons rfl ?_)) (fun w h => by dsimp only; rw [htk]; exact (allO_snoc (o := ⟨e.x, ⟨qa, ca, qb, cb, qc, cc⟩⟩) (h.fit (M := ObO ⟨e.x, ⟨qa, ca, qb, cb, qc, cc⟩⟩ ++ [AllO ObE (M.take i), RowO Kd.oz 33 q' c' (M.set i ⟨e.x, ⟨qa, ca, qb, cb, qc, cc⟩⟩), pv b1 24 [.int .i64 nx, .slice q' l.length c'], pv b2 24 [.int .i64 0, .slice none 0 0], NestF l]) (by repeat (first | exact Give.nil | (apply Give.perI; (repeat (first | exact List.Mem.head _ | apply List.Mem.tail))) | (apply Give.own; (repeat (first | exact Pick.here | apply Pick.there))))) (by repeat (first | exact Drop.refl | apply Drop.skip)))).fitD) (ih ⟨(i + 1, M.set i ⟨e.x, ⟨qa, ca, qb, cb, qc, cc⟩⟩), by show i + 1 ≤ _; omega, by rw [List.length_set]; exact hM, by
              show (M.set i _).map _ = _
              rw [List.map_set, ← hMx]
              show (M.map (·.x)).set i e.x = M.map (·.x)
              refine List.ext_getElem? fun j => ?_
              rw [List.getElem?_set]
              split
              · rename_i hij
                subst hij
                rw [List.getElem?_map, heM, List.length_map, if_pos (by omega)]
                rfl
              · rfl, by
              show (M.set i _).drop (i + 1) = l.drop (i + 1)
              rw [List.drop_set_of_lt (by omega), ← List.drop_drop, hMd, List.drop_drop], fun o ho => by
              have ho : o ∈ (M.set i ⟨e.x, ⟨qa, ca, qb, cb, qc, cc⟩⟩).take (i + 1) := ho
              rw [htk] at ho
              rcases List.mem_append.1 ho with ho | ho
              · exact hMc o ho
              · rw [List.mem_singleton.1 ho]; exact ⟨ha, hb, hcc⟩⟩ (by show l.length - (i + 1) < l.length - i; omega))
        · rintro _ _ ⟨rfl, rfl⟩
          refine D.all (rs := [7]) (by kernel_rfl) rfl (DAll.cons rfl (by kernel_rfl) (OpL.callD rfl (h := clone_rw (RowF Kd.rw e.z.q1 e.x.rows) e.z.q1 e.z.c1 e.x.rows isF he1)) (.inr (by rintro _ _ ⟨_, ⟨qa, ca, rfl, rfl, ha⟩, rfl⟩ w h; exact h.subD)) rfl ?_ DAll.nil)
          rintro _ _ ⟨_, ⟨qa, ca, rfl, rfl, ha⟩, rfl⟩
          refine D.all (rs := [12]) (by kernel_rfl) rfl (DAll.cons rfl (by kernel_rfl) (OpL.callD rfl (h := clone_msg (RowF Kd.msg e.z.q2 e.x.msgs) e.z.q2 e.z.c2 e.x.msgs isF he2)) (.inr (by rintro _ _ ⟨_, ⟨qb, cb, rfl, rfl, hb⟩, rfl⟩ w h; exact h.subD)) rfl ?_ DAll.nil)
          rintro _ _ ⟨_, ⟨qb, cb, rfl, rfl, hb⟩, rfl⟩
          refine D.all (rs := [17]) (by kernel_rfl) rfl (DAll.cons rfl (by kernel_rfl) (OpL.callD rfl (h := clone_msg (RowF Kd.msg e.z.q3 e.x.dead) e.z.q3 e.z.c3 e.x.dead isF he3)) (.inr (by rintro _ _ ⟨_, ⟨qc, cc, rfl, rfl, hcc⟩, rfl⟩ w h; exact h.subD)) rfl ?_ DAll.nil)
          rintro _ _ ⟨_, ⟨qc, cc, rfl, rfl, hcc⟩, rfl⟩
          refine D.q 18 rfl (by kernel_rfl) (by kernel_rfl) (q_nilCheck rfl) (fun _ h => h.subD) ?_
          refine D.q 19 rfl (by kernel_rfl) (by kernel_rfl) (q_fieldE fo_33_3 rfl) (fun _ h => h.subD) ?_
          refine D.all (rs := [20]) (by kernel_rfl) rfl (DAll.consN rfl (by kernel_rfl) (l_storeE (xs := M) (el := e) (⟨e.x, ⟨qa, ca, e.z.q2, e.z.c2, e.z.q3, e.z.c3⟩⟩ : Oz) ck_30 rfl rfl rfl (by repeat (first | exact Pick.here | apply Pick.there)) heM (by decide) rfl) (.inr (by rintro _ _ ⟨rfl, rfl⟩ w h; exact h.subD)) rfl ?_ DAll.nil)
          rintro _ _ ⟨rfl, rfl⟩
          refine D.q 21 rfl (by kernel_rfl) (by kernel_rfl) (q_nilCheck rfl) (fun _ h => h.subD) ?_
          refine D.q 22 rfl (by kernel_rfl) (by kernel_rfl) (q_fieldE fo_33_4 rfl) (fun _ h => h.subD) ?_
          refine D.all (rs := [23]) (by kernel_rfl) rfl (DAll.consN rfl (by kernel_rfl) (l_storeE (xs := M.set i (⟨e.x, ⟨qa, ca, e.z.q2, e.z.c2, e.z.q3, e.z.c3⟩⟩ : Oz)) (el := (⟨e.x, ⟨qa, ca, e.z.q2, e.z.c2, e.z.q3, e.z.c3⟩⟩ : Oz)) (⟨e.x, ⟨qa, ca, qb, cb, e.z.q3, e.z.c3⟩⟩ : Oz) ck_31 rfl rfl rfl (by repeat (first | exact Pick.here | apply Pick.there)) (List.getElem?_set_self (by omega)) (by decide) rfl) (.inr (by rintro _ _ ⟨rfl, rfl⟩ w h; exact h.subD)) rfl ?_ DAll.nil)
          rintro _ _ ⟨rfl, rfl⟩
          refine D.q 24 rfl (by kernel_rfl) (by kernel_rfl) (q_nilCheck rfl) (fun _ h => h.subD) ?_
          refine D.q 25 rfl (by kernel_rfl) (by kernel_rfl) (q_fieldE fo_33_5 rfl) (fun _ h => h.subD) ?_
          refine D.all (rs := [26]) (by kernel_rfl) rfl (DAll.consN rfl (by kernel_rfl) (l_storeE (xs := (M.set i (⟨e.x, ⟨qa, ca, e.z.q2, e.z.c2, e.z.q3, e.z.c3⟩⟩ : Oz)).set i (⟨e.x, ⟨qa, ca, qb, cb, e.z.q3, e.z.c3⟩⟩ : Oz)) (el := (⟨e.x, ⟨qa, ca, qb, cb, e.z.q3, e.z.c3⟩⟩ : Oz)) (⟨e.x, ⟨qa, ca, qb, cb, qc, cc⟩⟩ : Oz) ck_31 rfl rfl rfl (by repeat (first | exact Pick.here | apply Pick.there)) (List.getElem?_set_self (by rw [List.length_set]; omega)) (by decide) rfl) (.inr (by rintro _ _ ⟨rfl, rfl⟩ w h; exact h.subD)) rfl ?_ DAll.nil)
          rintro _ _ ⟨rfl, rfl⟩
          refine D.done (by kernel_rfl) ?_
          refine K.inBlock ?_
          refine K.region ?_
          refine KO.q rfl (q_add rfl rfl (by first | omega | (simp; omega)) (by first | omega | (simp; omega))) ?_
          refine KO.q rfl (q_move rfl) ?_
          refine KO.done ?_
          rw [List.set_set, List.set_set]
          have htk : (M.set i ⟨e.x, ⟨qa, ca, qb, cb, qc, cc⟩⟩).take (i + 1) = M.take i ++ [⟨e.x, ⟨qa, ca, qb, cb, qc, cc⟩⟩] := by
            rw [List.take_add_one, List.take_set_of_le (Nat.le_refl i), List.getElem?_set_self (by omega)]; rfl
          exact K.weak (by repeat (first | exact Env.sub_nil _ | refine Env.sub_cons rfl ?_)) (fun w h => by dsimp only; rw [htk]; exact (allO_snoc (o := ⟨e.x, ⟨qa, ca, qb, cb, qc, cc⟩⟩) (h.fit (M := ObO ⟨e.x, ⟨qa, ca, qb, cb, qc, cc⟩⟩ ++ [AllO ObE (M.take i), RowO Kd.oz 33 q' c' (M.set i ⟨e.x, ⟨qa, ca, qb, cb, qc, cc⟩⟩), pv b1 24 [.int .i64 nx, .slice q' l.length c'], pv b2 24 [.int .i64 0, .slice none 0 0], NestF l]) (by repeat (first | exact Give.nil | (apply Give.perI; (repeat (first | exact List.Mem.head _ | apply List.Mem.tail))) | (apply Give.own; (repeat (first | exact Pick.here | apply Pick.there))))) (by repeat (first | exact Drop.refl | apply Drop.skip)))).fitD) (ih ⟨(i + 1, M.set i ⟨e.x, ⟨qa, ca, qb, cb, qc, cc⟩⟩), by show i + 1 ≤ _; omega, by rw [List.length_set]; exact hM, by
            show (M.set i _).map _ = _
            rw [List.map_set, ← hMx]
            show (M.map (·.x)).set i e.x = M.map (·.x)
            refine List.ext_getElem? fun j => ?_
            rw [List.getElem?_set]
            split
            · rename_i hij
              subst hij
              rw [List.getElem?_map, heM, List.length_map, if_pos (by omega)]
              rfl
            · rfl, by
            show (M.set i _).drop (i + 1) = l.drop (i + 1)
            rw [List.drop_set_of_lt (by omega), ← List.drop_drop, hMd, List.drop_drop], fun o ho => by
            have ho : o ∈ (M.set i ⟨e.x, ⟨qa, ca, qb, cb, qc, cc⟩⟩).take (i + 1) := ho
            rw [htk] at ho
            rcases List.mem_append.1 ho with ho | ho
            · exact hMc o ho
            · rw [List.mem_singleton.1 ho]; exact ⟨ha, hb, hcc⟩⟩ (by show l.length - (i + 1) < l.length - i; omega))
      · rintro _ _ ⟨rfl, rfl⟩
        refine D.all (rs := [6]) (by kernel_rfl) rfl (DAll.cons rfl (by kernel_rfl) (OpQ.loud (q_ldE (xs := M) ck_30 rfl isO (by repeat (first | exact List.Mem.head _ | apply List.Mem.tail)) heM rfl)) (.inr (by rintro _ _ ⟨rfl, rfl⟩ w h; exact h.subD)) rfl ?_ DAll.nil)
        rintro _ _ ⟨rfl, rfl⟩
        refine D.all (rs := [7]) (by kernel_rfl) rfl (DAll.cons rfl (by kernel_rfl) (OpL.callD rfl (h := clone_rw (RowF Kd.rw e.z.q1 e.x.rows) e.z.q1 e.z.c1 e.x.rows isF he1)) (.inr (by rintro _ _ ⟨_, ⟨qa, ca, rfl, rfl, ha⟩, rfl⟩ w h; exact h.subD)) rfl ?_ DAll.nil)
        rintro _ _ ⟨_, ⟨qa, ca, rfl, rfl, ha⟩, rfl⟩
        refine D.all (rs := [12]) (by kernel_rfl) rfl (DAll.cons rfl (by kernel_rfl) (OpL.callD rfl (h := clone_msg (RowF Kd.msg e.z.q2 e.x.msgs) e.z.q2 e.z.c2 e.x.msgs isF he2)) (.inr (by rintro _ _ ⟨_, ⟨qb, cb, rfl, rfl, hb⟩, rfl⟩ w h; exact h.subD)) rfl ?_ DAll.nil)
        rintro _ _ ⟨_, ⟨qb, cb, rfl, rfl, hb⟩, rfl⟩
        refine D.all (rs := [17]) (by kernel_rfl) rfl (DAll.cons rfl (by kernel_rfl) (OpL.callD rfl (h := clone_msg (RowF Kd.msg e.z.q3 e.x.dead) e.z.q3 e.z.c3 e.x.dead isF he3)) (.inr (by rintro _ _ ⟨_, ⟨qc, cc, rfl, rfl, hcc⟩, rfl⟩ w h; exact h.subD)) rfl ?_ DAll.nil)
        rintro _ _ ⟨_, ⟨qc, cc, rfl, rfl, hcc⟩, rfl⟩
        refine D.q 18 rfl (by kernel_rfl) (by kernel_rfl) (q_nilCheck rfl) (fun _ h => h.subD) ?_
        refine D.q 19 rfl (by kernel_rfl) (by kernel_rfl) (q_fieldE fo_33_3 rfl) (fun _ h => h.subD) ?_
        refine D.all (rs := [20]) (by kernel_rfl) rfl (DAll.consN rfl (by kernel_rfl) (l_storeE (xs := M) (el := e) (⟨e.x, ⟨qa, ca, e.z.q2, e.z.c2, e.z.q3, e.z.c3⟩⟩ : Oz) ck_30 rfl rfl rfl (by repeat (first | exact Pick.here | apply Pick.there)) heM (by decide) rfl) (.inr (by rintro _ _ ⟨rfl, rfl⟩ w h; exact h.subD)) rfl ?_ DAll.nil)
        rintro _ _ ⟨rfl, rfl⟩
        refine D.q 21 rfl (by kernel_rfl) (by kernel_rfl) (q_nilCheck rfl) (fun _ h => h.subD) ?_
        refine D.q 22 rfl (by kernel_rfl) (by kernel_rfl) (q_fieldE fo_33_4 rfl) (fun _ h => h.subD) ?_
        refine D.all (rs := [23]) (by kernel_rfl) rfl (DAll.consN rfl (by kernel_rfl) (l_storeE (xs := M.set i (⟨e.x, ⟨qa, ca, e.z.q2, e.z.c2, e.z.q3, e.z.c3⟩⟩ : Oz)) (el := (⟨e.x, ⟨qa, ca, e.z.q2, e.z.c2, e.z.q3, e.z.c3⟩⟩ : Oz)) (⟨e.x, ⟨qa, ca, qb, cb, e.z.q3, e.z.c3⟩⟩ : Oz) ck_31 rfl rfl rfl (by repeat (first | exact Pick.here | apply Pick.there)) (List.getElem?_set_self (by omega)) (by decide) rfl) (.inr (by rintro _ _ ⟨rfl, rfl⟩ w h; exact h.subD)) rfl ?_ DAll.nil)
        rintro _ _ ⟨rfl, rfl⟩
        refine D.q 24 rfl (by kernel_rfl) (by kernel_rfl) (q_nilCheck rfl) (fun _ h => h.subD) ?_
        refine D.q 25 rfl (by kernel_rfl) (by kernel_rfl) (q_fieldE fo_33_5 rfl) (fun _ h => h.subD) ?_
        refine D.all (rs := [26]) (by kernel_rfl) rfl (DAll.consN rfl (by kernel_rfl) (l_storeE (xs := (M.set i (⟨e.x, ⟨qa, ca, e.z.q2, e.z.c2, e.z.q3, e.z.c3⟩⟩ : Oz)).set i (⟨e.x, ⟨qa, ca, qb, cb, e.z.q3, e.z.c3⟩⟩ : Oz)) (el := (⟨e.x, ⟨qa, ca, qb, cb, e.z.q3, e.z.c3⟩⟩ : Oz)) (⟨e.x, ⟨qa, ca, qb, cb, qc, cc⟩⟩ : Oz) ck_31 rfl rfl rfl (by repeat (first | exact Pick.here | apply Pick.there)) (List.getElem?_set_self (by rw [List.length_set]; omega)) (by decide) rfl) (.inr (by rintro _ _ ⟨rfl, rfl⟩ w h; exact h.subD)) rfl ?_ DAll.nil)
        rintro _ _ ⟨rfl, rfl⟩
        refine D.done (by kernel_rfl) ?_
        refine K.inBlock ?_
        refine K.region ?_
        refine KO.q rfl (q_add rfl rfl (by first | omega | (simp; omega)) (by first | omega | (simp; omega))) ?_
        refine KO.q rfl (q_move rfl) ?_
        refine KO.done ?_
        rw [List.set_set, List.set_set]
        have htk : (M.set i ⟨e.x, ⟨qa, ca, qb, cb, qc, cc⟩⟩).take (i + 1) = M.take i ++ [⟨e.x, ⟨qa, ca, qb, cb, qc, cc⟩⟩] := by
          rw [List.take_add_one, List.take_set_of_le (Nat.le_refl i), List.getElem?_set_self (by omega)]; rfl
        exact K.weak (by repeat (first | exact Env.sub_nil _ | refine Env.sub_cons rfl ?_)) (fun w h => by dsimp only; rw [htk]; exact (allO_snoc (o := ⟨e.x, ⟨qa, ca, qb, cb, qc, cc⟩⟩) (h.fit (M := ObO ⟨e.x, ⟨qa, ca, qb, cb, qc, cc⟩⟩ ++ [AllO ObE (M.take i), RowO Kd.oz 33 q' c' (M.set i ⟨e.x, ⟨qa, ca, qb, cb, qc, cc⟩⟩), pv b1 24 [.int .i64 nx, .slice q' l.length c'], pv b2 24 [.int .i64 0, .slice none 0 0], NestF l]) (by repeat (first | exact Give.nil | (apply Give.perI; (repeat (first | exact List.Mem.head _ | apply List.Mem.tail))) | (apply Give.own; (repeat (first | exact Pick.here | apply Pick.there))))) (by repeat (first | exact Drop.refl | apply Drop.skip)))).fitD) (ih ⟨(i + 1, M.set i ⟨e.x, ⟨qa, ca, qb, cb, qc, cc⟩⟩), by show i + 1 ≤ _; omega, by rw [List.length_set]; exact hM, by
          show (M.set i _).map _ = _
          rw [List.map_set, ← hMx]
          show (M.map (·.x)).set i e.x = M.map (·.x)
          refine List.ext_getElem? fun j => ?_
          rw [List.getElem?_set]
          split
          · rename_i hij
            subst hij
            rw [List.getElem?_map, heM, List.length_map, if_pos (by omega)]
            rfl
          · rfl, by
          show (M.set i _).drop (i + 1) = l.drop (i + 1)
          rw [List.drop_set_of_lt (by omega), ← List.drop_drop, hMd, List.drop_drop], fun o ho => by
          have ho : o ∈ (M.set i ⟨e.x, ⟨qa, ca, qb, cb, qc, cc⟩⟩).take (i + 1) := ho
          rw [htk] at ho
          rcases List.mem_append.1 ho with ho | ho
          · exact hMc o ho
          · rw [List.mem_singleton.1 ho]; exact ⟨ha, hb, hcc⟩⟩ (by show l.length - (i + 1) < l.length - i; omega))
    · rintro _ _ ⟨rfl, rfl⟩
      refine D.all (rs := [6, 11]) (by kernel_rfl) rfl (DAll.cons rfl (by kernel_rfl) (OpQ.loud (q_ldE (xs := M) ck_30 rfl isO (by repeat (first | exact List.Mem.head _ | apply List.Mem.tail)) heM rfl)) (.inr (by rintro _ _ ⟨rfl, rfl⟩ w h; exact h.subD)) rfl ?_ (DAll.cons rfl (by kernel_rfl) (OpQ.loud (q_ldE (xs := M) ck_31 rfl isO (by repeat (first | exact List.Mem.head _ | apply List.Mem.tail)) heM rfl)) (.inr (by rintro _ _ ⟨rfl, rfl⟩ w h; exact h.subD)) rfl ?_ DAll.nil))
      · rintro _ _ ⟨rfl, rfl⟩
        refine D.all (rs := [7, 11]) (by kernel_rfl) rfl (DAll.cons rfl (by kernel_rfl) (OpL.callD rfl (h := clone_rw (RowF Kd.rw e.z.q1 e.x.rows) e.z.q1 e.z.c1 e.x.rows isF he1)) (.inr (by rintro _ _ ⟨_, ⟨qa, ca, rfl, rfl, ha⟩, rfl⟩ w h; exact h.subD)) rfl ?_ (DAll.cons rfl (by kernel_rfl) (OpQ.loud (q_ldE (xs := M) ck_31 rfl isO (by repeat (first | exact List.Mem.head _ | apply List.Mem.tail)) heM rfl)) (.inr (by rintro _ _ ⟨rfl, rfl⟩ w h; exact h.subD)) rfl ?_ DAll.nil))
        · rintro _ _ ⟨_, ⟨qa, ca, rfl, rfl, ha⟩, rfl⟩
          refine D.all (rs := [11]) (by kernel_rfl) rfl (DAll.cons rfl (by kernel_rfl) (OpQ.loud (q_ldE (xs := M) ck_31 rfl isO (by repeat (first | exact List.Mem.head _ | apply List.Mem.tail)) heM rfl)) (.inr (by rintro _ _ ⟨rfl, rfl⟩ w h; exact h.subD)) rfl ?_ DAll.nil)
          rintro _ _ ⟨rfl, rfl⟩
          refine D.all (rs := [12]) (by kernel_rfl) rfl (DAll.cons rfl (by kernel_rfl) (OpL.callD rfl (h := clone_msg (RowF Kd.msg e.z.q2 e.x.msgs) e.z.q2 e.z.c2 e.x.msgs isF he2)) (.inr (by rintro _ _ ⟨_, ⟨qb, cb, rfl, rfl, hb⟩, rfl⟩ w h; exact h.subD)) rfl ?_ DAll.nil)
          rintro _ _ ⟨_, ⟨qb, cb, rfl, rfl, hb⟩, rfl⟩
          refine D.all (rs := [17]) (by kernel_rfl) rfl (DAll.cons rfl (by kernel_rfl) (OpL.callD rfl (h := clone_msg (RowF Kd.msg e.z.q3 e.x.dead) e.z.q3 e.z.c3 e.x.dead isF he3)) (.inr (by rintro _ _ ⟨_, ⟨qc, cc, rfl, rfl, hcc⟩, rfl⟩ w h; exact h.subD)) rfl ?_ DAll.nil)
          rintro _ _ ⟨_, ⟨qc, cc, rfl, rfl, hcc⟩, rfl⟩
          refine D.q 18 rfl (by kernel_rfl) (by kernel_rfl) (q_nilCheck rfl) (fun _ h => h.subD) ?_
          refine D.q 19 rfl (by kernel_rfl) (by kernel_rfl) (q_fieldE fo_33_3 rfl) (fun _ h => h.subD) ?_
          refine D.all (rs := [20]) (by kernel_rfl) rfl (DAll.consN rfl (by kernel_rfl) (l_storeE (xs := M) (el := e) (⟨e.x, ⟨qa, ca, e.z.q2, e.z.c2, e.z.q3, e.z.c3⟩⟩ : Oz) ck_30 rfl rfl rfl (by repeat (first | exact Pick.here | apply Pick.there)) heM (by decide) rfl) (.inr (by rintro _ _ ⟨rfl, rfl⟩ w h; exact h.subD)) rfl ?_ DAll.nil)
          rintro _ _ ⟨rfl, rfl⟩
          refine D.q 21 rfl (by kernel_rfl) (by kernel_rfl) (q_nilCheck rfl) (fun _ h => h.subD) ?_
          refine D.q 22 rfl (by kernel_rfl) (by kernel_rfl) (q_fieldE fo_33_4 rfl) (fun _ h => h.subD) ?_
          refine D.all (rs := [23]) (by kernel_rfl) rfl (DAll.consN rfl (by kernel_rfl) (l_storeE (xs := M.set i (⟨e.x, ⟨qa, ca, e.z.q2, e.z.c2, e.z.q3, e.z.c3⟩⟩ : Oz)) (el := (⟨e.x, ⟨qa, ca, e.z.q2, e.z.c2, e.z.q3, e.z.c3⟩⟩ : Oz)) (⟨e.x, ⟨qa, ca, qb, cb, e.z.q3, e.z.c3⟩⟩ : Oz) ck_31 rfl rfl rfl (by repeat (first | exact Pick.here | apply Pick.there)) (List.getElem?_set_self (by omega)) (by decide) rfl) (.inr (by rintro _ _ ⟨rfl, rfl⟩ w h; exact h.subD)) rfl ?_ DAll.nil)
          rintro _ _ ⟨rfl, rfl⟩
          refine D.q 24 rfl (by kernel_rfl) (by kernel_rfl) (q_nilCheck rfl) (fun _ h => h.subD) ?_
          refine D.q 25 rfl (by kernel_rfl) (by kernel_rfl) (q_fieldE fo_33_5 rfl) (fun _ h => h.subD) ?_
          refine D.all (rs := [26]) (by kernel_rfl) rfl (DAll.consN rfl (by kernel_rfl) (l_storeE (xs := (M.set i (⟨e.x, ⟨qa, ca, e.z.q2, e.z.c2, e.z.q3, e.z.c3⟩⟩ : Oz)).set i (⟨e.x, ⟨qa, ca, qb, cb, e.z.q3, e.z.c3⟩⟩ : Oz)) (el := (⟨e.x, ⟨qa, ca, qb, cb, e.z.q3, e.z.c3⟩⟩ : Oz)) (⟨e.x, ⟨qa, ca, qb, cb, qc, cc⟩⟩ : Oz) ck_31 rfl rfl rfl (by repeat (first | exact Pick.here | apply Pick.there)) (List.getElem?_set_self (by rw [List.length_set]; omega)) (by decide) rfl) (.inr (by rintro _ _ ⟨rfl, rfl⟩ w h; exact h.subD)) rfl ?_ DAll.nil)
          rintro _ _ ⟨rfl, rfl⟩
          refine D.done (by kernel_rfl) ?_
          refine K.inBlock ?_
          refine K.region ?_
          refine KO.q rfl (q_add rfl rfl (by first | omega | (simp; omega)) (by first | omega | (simp; omega))) ?_
          refine KO.q rfl (q_move rfl) ?_
          refine KO.done ?_
          rw [List.set_set, List.set_set]
          have htk : (M.set i ⟨e.x, ⟨qa, ca, qb, cb, qc, cc⟩⟩).take (i + 1) = M.take i ++ [⟨e.x, ⟨qa, ca, qb, cb, qc, cc⟩⟩] := by
            rw [List.take_add_one, List.take_set_of_le (Nat.le_refl i), List.getElem?_set_self (by omega)]; rfl
          exact K.weak (by repeat (first | exact Env.sub_nil _ | refine Env.sub_cons rfl ?_)) (fun w h => by dsimp only; rw [htk]; exact (allO_snoc (o := ⟨e.x, ⟨qa, ca, qb, cb, qc, cc⟩⟩) (h.fit (M := ObO ⟨e.x, ⟨qa, ca, qb, cb, qc, cc⟩⟩ ++ [AllO ObE (M.take i), RowO Kd.oz 33 q' c' (M.set i ⟨e.x, ⟨qa, ca, qb, cb, qc, cc⟩⟩), pv b1 24 [.int .i64 nx, .slice q' l.length c'], pv b2 24 [.int .i64 0, .slice none 0 0], NestF l]) (by repeat (first | exact Give.nil | (apply Give.perI; (repeat (first | exact List.Mem.head _ | apply List.Mem.tail))) | (apply Give.own; (repeat (first | exact Pick.here | apply Pick.there))))) (by repeat (first | exact Drop.refl | apply Drop.skip)))).fitD) (ih ⟨(i + 1, M.set i ⟨e.x, ⟨qa, ca, qb, cb, qc, cc⟩⟩), by show i + 1 ≤ _; omega, by rw [List.length_set]; exact hM, by
            show (M.set i _).map _ = _
            rw [List.map_set, ← hMx]
            show (M.map (·.x)).set i e.x = M.map (·.x)
            refine List.ext_getElem? fun j => ?_
            rw [List.getElem?_set]
            split
            · rename_i hij
              subst hij
              rw [List.getElem?_map, heM, List.length_map, if_pos (by omega)]
              rfl
            · rfl, by
            show (M.set i _).drop (i + 1) = l.drop (i + 1)
            rw [List.drop_set_of_lt (by omega), ← List.drop_drop, hMd, List.drop_drop], fun o ho => by
            have ho : o ∈ (M.set i ⟨e.x, ⟨qa, ca, qb, cb, qc, cc⟩⟩).take (i + 1) := ho
            rw [htk] at ho
            rcases List.mem_append.1 ho with ho | ho
            · exact hMc o ho
            · rw [List.mem_singleton.1 ho]; exact ⟨ha, hb, hcc⟩⟩ (by show l.length - (i + 1) < l.length - i; omega))
        · rintro _ _ ⟨rfl, rfl⟩
          refine D.all (rs := [7]) (by kernel_rfl) rfl (DAll.cons rfl (by kernel_rfl) (OpL.callD rfl (h := clone_rw (RowF Kd.rw e.z.q1 e.x.rows) e.z.q1 e.z.c1 e.x.rows isF he1)) (.inr (by rintro _ _ ⟨_, ⟨qa, ca, rfl, rfl, ha⟩, rfl⟩ w h; exact h.subD)) rfl ?_ DAll.nil)
          rintro _ _ ⟨_, ⟨qa, ca, rfl, rfl, ha⟩, rfl⟩
          refine D.all (rs := [12]) (by kernel_rfl) rfl (DAll.cons rfl (by kernel_rfl) (OpL.callD rfl (h := clone_msg (RowF Kd.msg e.z.q2 e.x.msgs) e.z.q2 e.z.c2 e.x.msgs isF he2)) (.inr (by rintro _ _ ⟨_, ⟨qb, cb, rfl, rfl, hb⟩, rfl⟩ w h; exact h.subD)) rfl ?_ DAll.nil)
          rintro _ _ ⟨_, ⟨qb, cb, rfl, rfl, hb⟩, rfl⟩
          refine D.all (rs := [17]) (by kernel_rfl) rfl (DAll.cons rfl (by kernel_rfl) (OpL.callD rfl (h := clone_msg (RowF Kd.msg e.z.q3 e.x.dead) e.z.q3 e.z.c3 e.x.dead isF he3)) (.inr (by rintro _ _ ⟨_, ⟨qc, cc, rfl, rfl, hcc⟩, rfl⟩ w h; exact h.subD)) rfl ?_ DAll.nil)
          rintro _ _ ⟨_, ⟨qc, cc, rfl, rfl, hcc⟩, rfl⟩
          refine D.q 18 rfl (by kernel_rfl) (by kernel_rfl) (q_nilCheck rfl) (fun _ h => h.subD) ?_
          refine D.q 19 rfl (by kernel_rfl) (by kernel_rfl) (q_fieldE fo_33_3 rfl) (fun _ h => h.subD) ?_
          refine D.all (rs := [20]) (by kernel_rfl) rfl (DAll.consN rfl (by kernel_rfl) (l_storeE (xs := M) (el := e) (⟨e.x, ⟨qa, ca, e.z.q2, e.z.c2, e.z.q3, e.z.c3⟩⟩ : Oz) ck_30 rfl rfl rfl (by repeat (first | exact Pick.here | apply Pick.there)) heM (by decide) rfl) (.inr (by rintro _ _ ⟨rfl, rfl⟩ w h; exact h.subD)) rfl ?_ DAll.nil)
          rintro _ _ ⟨rfl, rfl⟩
          refine D.q 21 rfl (by kernel_rfl) (by kernel_rfl) (q_nilCheck rfl) (fun _ h => h.subD) ?_
          refine D.q 22 rfl (by kernel_rfl) (by kernel_rfl) (q_fieldE fo_33_4 rfl) (fun _ h => h.subD) ?_
          refine D.all (rs := [23]) (by kernel_rfl) rfl (DAll.consN rfl (by kernel_rfl) (l_storeE (xs := M.set i (⟨e.x, ⟨qa, ca, e.z.q2, e.z.c2, e.z.q3, e.z.c3⟩⟩ : Oz)) (el := (⟨e.x, ⟨qa, ca, e.z.q2, e.z.c2, e.z.q3, e.z.c3⟩⟩ : Oz)) (⟨e.x, ⟨qa, ca, qb, cb, e.z.q3, e.z.c3⟩⟩ : Oz) ck_31 rfl rfl rfl (by repeat (first | exact Pick.here | apply Pick.there)) (List.getElem?_set_self (by omega)) (by decide) rfl) (.inr (by rintro _ _ ⟨rfl, rfl⟩ w h; exact h.subD)) rfl ?_ DAll.nil)
          rintro _ _ ⟨rfl, rfl⟩
          refine D.q 24 rfl (by kernel_rfl) (by kernel_rfl) (q_nilCheck rfl) (fun _ h => h.subD) ?_
          refine D.q 25 rfl (by kernel_rfl) (by kernel_rfl) (q_fieldE fo_33_5 rfl) (fun _ h => h.subD) ?_
          refine D.all (rs := [26]) (by kernel_rfl) rfl (DAll.consN rfl (by kernel_rfl) (l_storeE (xs := (M.set i (⟨e.x, ⟨qa, ca, e.z.q2, e.z.c2, e.z.q3, e.z.c3⟩⟩ : Oz)).set i (⟨e.x, ⟨qa, ca, qb, cb, e.z.q3, e.z.c3⟩⟩ : Oz)) (el := (⟨e.x, ⟨qa, ca, qb, cb, e.z.q3, e.z.c3⟩⟩ : Oz)) (⟨e.x, ⟨qa, ca, qb, cb, qc, cc⟩⟩ : Oz) ck_31 rfl rfl rfl (by repeat (first | exact Pick.here | apply Pick.there)) (List.getElem?_set_self (by rw [List.length_set]; omega)) (by decide) rfl) (.inr (by rintro _ _ ⟨rfl, rfl⟩ w h; exact h.subD)) rfl ?_ DAll.nil)
          rintro _ _ ⟨rfl, rfl⟩
          refine D.done (by kernel_rfl) ?_
          refine K.inBlock ?_
          refine K.region ?_
          refine KO.q rfl (q_add rfl rfl (by first | omega | (simp; omega)) (by first | omega | (simp; omega))) ?_
          refine KO.q rfl (q_move rfl) ?_
          refine KO.done ?_
          rw [List.set_set, List.set_set]
          have htk : (M.set i ⟨e.x, ⟨qa, ca, qb, cb, qc, cc⟩⟩).take (i + 1) = M.take i ++ [⟨e.x, ⟨qa, ca, qb, cb, qc, cc⟩⟩] := by
            rw [List.take_add_one, List.take_set_of_le (Nat.le_refl i), List.getElem?_set_self (by omega)]; rfl
          exact K.weak (by repeat (first | exact Env.sub_nil _ | refine Env.sub_cons rfl ?_)) (fun w h => by dsimp only; rw [htk]; exact (allO_snoc (o := ⟨e.x, ⟨qa, ca, qb, cb, qc, cc⟩⟩) (h.fit (M := ObO ⟨e.x, ⟨qa, ca, qb, cb, qc, cc⟩⟩ ++ [AllO ObE (M.take i), RowO Kd.oz 33 q' c' (M.set i ⟨e.x, ⟨qa, ca, qb, cb, qc, cc⟩⟩), pv b1 24 [.int .i64 nx, .slice q' l.length c'], pv b2 24 [.int .i64 0, .slice none 0 0], NestF l]) (by repeat (first | exact Give.nil | (apply Give.perI; (repeat (first | exact List.Mem.head _ | apply List.Mem.tail))) | (apply Give.own; (repeat (first | exact Pick.here | apply Pick.there))))) (by repeat (first | exact Drop.refl | apply Drop.skip)))).fitD) (ih ⟨(i + 1, M.set i ⟨e.x, ⟨qa, ca, qb, cb, qc, cc⟩⟩), by show i + 1 ≤ _; omega, by rw [List.length_set]; exact hM, by
            show (M.set i _).map _ = _
            rw [List.map_set, ← hMx]
            show (M.map (·.x)).set i e.x = M.map (·.x)
            refine List.ext_getElem? fun j => ?_
            rw [List.getElem?_set]
            split
            · rename_i hij
              subst hij
              rw [List.getElem?_map, heM, List.length_map, if_pos (by omega)]
              rfl
            · rfl, by
            show (M.set i _).drop (i + 1) = l.drop (i + 1)
            rw [List.drop_set_of_lt (by omega), ← List.drop_drop, hMd, List.drop_drop], fun o ho => by
            have ho : o ∈ (M.set i ⟨e.x, ⟨qa, ca, qb, cb, qc, cc⟩⟩).take (i + 1) := ho
            rw [htk] at ho
            rcases List.mem_append.1 ho with ho | ho
            · exact hMc o ho
            · rw [List.mem_singleton.1 ho]; exact ⟨ha, hb, hcc⟩⟩ (by show l.length - (i + 1) < l.length - i; omega))
      · rintro _ _ ⟨rfl, rfl⟩
        refine D.all (rs := [6]) (by kernel_rfl) rfl (DAll.cons rfl (by kernel_rfl) (OpQ.loud (q_ldE (xs := M) ck_30 rfl isO (by repeat (first | exact List.Mem.head _ | apply List.Mem.tail)) heM rfl)) (.inr (by rintro _ _ ⟨rfl, rfl⟩ w h; exact h.subD)) rfl ?_ DAll.nil)
        rintro _ _ ⟨rfl, rfl⟩
        refine D.all (rs := [7]) (by kernel_rfl) rfl (DAll.cons rfl (by kernel_rfl) (OpL.callD rfl (h := clone_rw (RowF Kd.rw e.z.q1 e.x.rows) e.z.q1 e.z.c1 e.x.rows isF he1)) (.inr (by rintro _ _ ⟨_, ⟨qa, ca, rfl, rfl, ha⟩, rfl⟩ w h; exact h.subD)) rfl ?_ DAll.nil)
        rintro _ _ ⟨_, ⟨qa, ca, rfl, rfl, ha⟩, rfl⟩
        refine D.all (rs := [12]) (by kernel_rfl) rfl (DAll.cons rfl (by kernel_rfl) (OpL.callD rfl (h := clone_msg (RowF Kd.msg e.z.q2 e.x.msgs) e.z.q2 e.z.c2 e.x.msgs isF he2)) (.inr (by rintro _ _ ⟨_, ⟨qb, cb, rfl, rfl, hb⟩, rfl⟩ w h; exact h.subD)) rfl ?_ DAll.nil)
        rintro _ _ ⟨_, ⟨qb, cb, rfl, rfl, hb⟩, rfl⟩
        refine D.all (rs := [17]) (by kernel_rfl) rfl (DAll.cons rfl (by kernel_rfl) (OpL.callD rfl (h := clone_msg (RowF Kd.msg e.z.q3 e.x.dead) e.z.q3 e.z.c3 e.x.dead isF he3)) (.inr (by rintro _ _ ⟨_, ⟨qc, cc, rfl, rfl, hcc⟩, rfl⟩ w h; exact h.subD)) rfl ?_ DAll.nil)
        rintro _ _ ⟨_, ⟨qc, cc, rfl, rfl, hcc⟩, rfl⟩
        refine D.q 18 rfl (by kernel_rfl) (by kernel_rfl) (q_nilCheck rfl) (fun _ h => h.subD) ?_
        refine D.q 19 rfl (by kernel_rfl) (by kernel_rfl) (q_fieldE fo_33_3 rfl) (fun _ h => h.subD) ?_
        refine D.all (rs := [20]) (by kernel_rfl) rfl (DAll.consN rfl (by kernel_rfl) (l_storeE (xs := M) (el := e) (⟨e.x, ⟨qa, ca, e.z.q2, e.z.c2, e.z.q3, e.z.c3⟩⟩ : Oz) ck_30 rfl rfl rfl (by repeat (first | exact Pick.here | apply Pick.there)) heM (by decide) rfl) (.inr (by rintro _ _ ⟨rfl, rfl⟩ w h; exact h.subD)) rfl ?_ DAll.nil)
        rintro _ _ ⟨rfl, rfl⟩
        refine D.q 21 rfl (by kernel_rfl) (by kernel_rfl) (q_nilCheck rfl) (fun _ h => h.subD) ?_
        refine D.q 22 rfl (by kernel_rfl) (by kernel_rfl) (q_fieldE fo_33_4 rfl) (fun _ h => h.subD) ?_
        refine D.all (rs := [23]) (by kernel_rfl) rfl (DAll.consN rfl (by kernel_rfl) (l_storeE (xs := M.set i (⟨e.x, ⟨qa, ca, e.z.q2, e.z.c2, e.z.q3, e.z.c3⟩⟩ : Oz)) (el := (⟨e.x, ⟨qa, ca, e.z.q2, e.z.c2, e.z.q3, e.z.c3⟩⟩ : Oz)) (⟨e.x, ⟨qa, ca, qb, cb, e.z.q3, e.z.c3⟩⟩ : Oz) ck_31 rfl rfl rfl (by repeat (first | exact Pick.here | apply Pick.there)) (List.getElem?_set_self (by omega)) (by decide) rfl) (.inr (by rintro _ _ ⟨rfl, rfl⟩ w h; exact h.subD)) rfl ?_ DAll.nil)
        rintro _ _ ⟨rfl, rfl⟩
        refine D.q 24 rfl (by kernel_rfl) (by kernel_rfl) (q_nilCheck rfl) (fun _ h => h.subD) ?_
        refine D.q 25 rfl (by kernel_rfl) (by kernel_rfl) (q_fieldE fo_33_5 rfl) (fun _ h => h.subD) ?_
        refine D.all (rs := [26]) (by kernel_rfl) rfl (DAll.consN rfl (by kernel_rfl) (l_storeE (xs := (M.set i (⟨e.x, ⟨qa, ca, e.z.q2, e.z.c2, e.z.q3, e.z.c3⟩⟩ : Oz)).set i (⟨e.x, ⟨qa, ca, qb, cb, e.z.q3, e.z.c3⟩⟩ : Oz)) (el := (⟨e.x, ⟨qa, ca, qb, cb, e.z.q3, e.z.c3⟩⟩ : Oz)) (⟨e.x, ⟨qa, ca, qb, cb, qc, cc⟩⟩ : Oz) ck_31 rfl rfl rfl (by repeat (first | exact Pick.here | apply Pick.there)) (List.getElem?_set_self (by rw [List.length_set]; omega)) (by decide) rfl) (.inr (by rintro _ _ ⟨rfl, rfl⟩ w h; exact h.subD)) rfl ?_ DAll.nil)
        rintro _ _ ⟨rfl, rfl⟩
        refine D.done (by kernel_rfl) ?_
        refine K.inBlock ?_
        refine K.region ?_
        refine KO.q rfl (q_add rfl rfl (by first | omega | (simp; omega)) (by first | omega | (simp; omega))) ?_
        refine KO.q rfl (q_move rfl) ?_
        refine KO.done ?_
        rw [List.set_set, List.set_set]
        have htk : (M.set i ⟨e.x, ⟨qa, ca, qb, cb, qc, cc⟩⟩).take (i + 1) = M.take i ++ [⟨e.x, ⟨qa, ca, qb, cb, qc, cc⟩⟩] := by
          rw [List.take_add_one, List.take_set_of_le (Nat.le_refl i), List.getElem?_set_self (by omega)]; rfl
        exact K.weak (by repeat (first | exact Env.sub_nil _ | refine Env.sub_cons rfl ?_)) (fun w h => by dsimp only; rw [htk]; exact (allO_snoc (o := ⟨e.x, ⟨qa, ca, qb, cb, qc, cc⟩⟩) (h.fit (M := ObO ⟨e.x, ⟨qa, ca, qb, cb, qc, cc⟩⟩ ++ [AllO ObE (M.take i), RowO Kd.oz 33 q' c' (M.set i ⟨e.x, ⟨qa, ca, qb, cb, qc, cc⟩⟩), pv b1 24 [.int .i64 nx, .slice q' l.length c'], pv b2 24 [.int .i64 0, .slice none 0 0], NestF l]) (by repeat (first | exact Give.nil | (apply Give.perI; (repeat (first | exact List.Mem.head _ | apply List.Mem.tail))) | (apply Give.own; (repeat (first | exact Pick.here | apply Pick.there))))) (by repeat (first | exact Drop.refl | apply Drop.skip)))).fitD) (ih ⟨(i + 1, M.set i ⟨e.x, ⟨qa, ca, qb, cb, qc, cc⟩⟩), by show i + 1 ≤ _; omega, by rw [List.length_set]; exact hM, by
          show (M.set i _).map _ = _
          rw [List.map_set, ← hMx]
          show (M.map (·.x)).set i e.x = M.map (·.x)
          refine List.ext_getElem? fun j => ?_
          rw [List.getElem?_set]
          split
          · rename_i hij
            subst hij
            rw [List.getElem?_map, heM, List.length_map, if_pos (by omega)]
            rfl
          · rfl, by
          show (M.set i _).drop (i + 1) = l.drop (i + 1)
          rw [List.drop_set_of_lt (by omega), ← List.drop_drop, hMd, List.drop_drop], fun o ho => by
          have ho : o ∈ (M.set i ⟨e.x, ⟨qa, ca, qb, cb, qc, cc⟩⟩).take (i + 1) := ho
          rw [htk] at ho
          rcases List.mem_append.1 ho with ho | ho
          · exact hMc o ho
          · rw [List.mem_singleton.1 ho]; exact ⟨ha, hb, hcc⟩⟩ (by show l.length - (i + 1) < l.length - i; omega))
  · obtain rfl : i = l.length := by omega
    rw [List.take_of_length_le (by omega)] at hMc ⊢
    clear ih
    refine K.exit rfl ?_
    refine K.seq ?_
    refine K.region ?_
    refine KO.q rfl (q_as (q_loadN ck_24 rfl rfl (by first | (apply cells_pv; (repeat (first | exact List.Mem.head _ | apply List.Mem.tail))) | (apply cells_fv; (repeat (first | exact List.Mem.head _ | apply List.Mem.tail))))) (show _ = Sz.cells ⟨nx, q', c', M⟩ by unfold Sz.cells; rw [hM])) ?_
    refine KO.loudN rfl (l_storeAll ck_24 rfl rfl ⟨rfl, rfl⟩ (sz_one _) (by repeat (first | exact Pick.here | apply Pick.there))) ?_
    rintro _ _ ⟨rfl, rfl⟩
    refine KO.done ?_
    refine K.ret (fn := Tryz.f19) Tryz.func19 (fun a w hk hs => resC Tryz.results19 hk rfl ck_24 rfl (cells_pv (by repeat (first | exact List.Mem.head _ | apply List.Mem.tail)) w hs)) (fun w hs => ?_)
    exact ⟨_, [RowO Kd.oz 33 q' c' M, AllO ObE M], rfl, ⟨q', c', M, rfl, rfl, hMx, by omega, hMc⟩, hs.fitD⟩
end Go.Proofs.YthnmoiilaaoooaaGreat.L
