/- Walks: what one change makes of a queue, and of a state. -/
import Derived.Test.YthnmoiilaaoooaaGreatE5
namespace Go.Proofs.YthnmoiilaaoooaaGreat.L
open Go Go.Proofs
attribute [local irreducible] pv fv pt fz RowF RowO rowP old pure_ elA
set_option maxRecDepth 100000
set_option linter.unusedSimpArgs false
set_option linter.unusedVariables false

theorem stO_put {b : Nat} {nx : Int} {q : Option Addr} {c : Nat} {l : List Oz} {i : Nat} {o' : Oz} {ρ : World} {L : List HP} {w : World} (h : St ρ ([RowO Kd.oz 33 q c (l.set i o'), NestF l] ++ ObL o' ++ pv b 24 (Sz.cells ⟨nx, q, c, l⟩) :: L) w) : St ρ (StO b ⟨nx, q, c, l.set i o'⟩ ++ L) w := by
  have h1 := row_put h
  have e : Sz.cells ⟨nx, q, c, l.set i o'⟩ = Sz.cells ⟨nx, q, c, l⟩ := by unfold Sz.cells; rw [List.length_set]
  dsimp only [StO]
  rw [e]
  exact h1.fitD
set_option maxHeartbeats 3200000 in
theorem st_inQueue (b : Nat) (s : Sz) (i : Nat) (o : Oz) (e : Eff) (ho : s.l[i]? = some o) (hl : s.l.length ≤ 1000000000) (hle : ∀ o ∈ s.l, o.le 1000000000) (hs0 : ∀ m ∈ o.x.msgs, -9223372036854775808 ≤ m.retry) : Fn Tryz.prog 55 [.pointer (some ⟨b, 0, none⟩), .pointer (some (elA s.q i 6 0)), .agg e.cells.toArray].toArray (StO b s)
    (fun r post => ∃ z, r = .int .i64 (queueO s.st o.x e).2 ∧ post = StO b ⟨s.next, s.q, s.c, s.l.set i ⟨(queueO s.st o.x e).1, z⟩⟩ ∧ (o.cap → Oz.cap ⟨(queueO s.st o.x e).1, z⟩)) := by
  obtain ⟨nx, q, c, l⟩ := s
  have ho : l[i]? = some o := ho
  have hol := hle o (List.mem_of_getElem? ho)
  have hol' := hol
  obtain ⟨hl1, hl2, hl3⟩ := hol
  have hself : l.set i o = l := by
    obtain ⟨hi, rfl⟩ := List.getElem?_eq_some_iff.1 ho
    exact List.set_getElem_self hi
  refine Fn.enter (N := 74) Tryz.func55 rfl Tryz.ntmps55 (by kernel_rfl) rfl (fun ρ L => ?_)
  refine K.seq ?_
  refine K.region ?_
  refine KO.loud rfl (l_box rfl rfl) ?_
  rintro _ _ ⟨b5, rfl, rfl⟩
  refine KO.q rfl (q_assign rfl) ?_
  refine KO.done ?_
  refine K.seq ?_
  refine K.region ?_
  refine KO.q rfl (q_assign rfl) ?_
  refine KO.done ?_
  refine K.seq <| K.seq ?_
  refine K.region ?_
  refine KO.q rfl (q_field fo_80_0 rfl) ?_
  refine KO.q rfl (q_load1D ck_3 rfl) ?_
  refine KO.done ?_
  refine K.block <| K.seq ?_
  refine K.region ?_
  refine KO.q rfl (q_eq rfl rfl) ?_
  refine KO.q rfl (q_assign rfl) ?_
  refine KO.done ?_
  refine K.dcond (s := 10) rfl (fun g10 => ?_) (fun g10 => ?_)
  · have hq2 : (queueO (Sz.st ⟨nx, q, c, l⟩) o.x e).2 = (if nx ≤ e.msg.id ∨ e.msg.claimed = true then 1 else if hasM (Sz.st ⟨nx, q, c, l⟩) e.msg.id = true then 4 else 0) := by
      unfold queueO
      rw [if_pos g10]
      show (if nx ≤ e.msg.id ∨ e.msg.claimed = true then (o.x, 1) else if hasM (Sz.st ⟨nx, q, c, l⟩) e.msg.id = true then (o.x, 4) else ({ o.x with msgs := addM o.x.msgs e.msg }, 0)).2 = _
      split
      · rfl
      · split <;> rfl
    have hq1 : (queueO (Sz.st ⟨nx, q, c, l⟩) o.x e).1 = (if nx ≤ e.msg.id ∨ e.msg.claimed = true then o.x else if hasM (Sz.st ⟨nx, q, c, l⟩) e.msg.id = true then o.x else { o.x with msgs := addM o.x.msgs e.msg }) := by
      unfold queueO
      rw [if_pos g10]
      show (if nx ≤ e.msg.id ∨ e.msg.claimed = true then (o.x, 1) else if hasM (Sz.st ⟨nx, q, c, l⟩) e.msg.id = true then (o.x, 4) else ({ o.x with msgs := addM o.x.msgs e.msg }, 0)).1 = _
      split
      · rfl
      · split <;> rfl
    refine K.seq ?_
    refine K.region ?_
    refine KO.q rfl (q_move rfl) ?_
    refine KO.q rfl (q_move rfl) ?_
    refine KO.q rfl (q_field fo_80_7 rfl) ?_
    refine KO.q rfl (q_ldPS sub_eff_msg msg_sz ck_39 rfl (by repeat (first | exact List.Mem.head _ | apply List.Mem.tail))) ?_
    refine KO.loud rfl (OpL.callD rfl (h := st_add b ⟨nx, q, c, l⟩ i o e.msg ho hl hle)) ?_
    rintro _ _ ⟨_, ⟨z, rfl, rfl, hz⟩, rfl⟩
    refine KO.q rfl (q_assign rfl) ?_
    refine KO.done ?_
    refine K.ret (fn := Tryz.f55) Tryz.func55 (fun a w hk hs => res1 Tryz.results55 hk rfl) (fun w hs => ?_)
    rw [hq2, hq1]
    exact ⟨_, _, rfl, ⟨z, rfl, rfl, hz⟩, hs.fitD⟩
  · refine K.seq ?_
    refine K.region ?_
    refine KO.q rfl (q_eq rfl rfl) ?_
    refine KO.q rfl (q_assign rfl) ?_
    refine KO.done ?_
    refine K.dcond (s := 17) rfl (fun g17 => ?_) (fun g17 => ?_)
    · have hr : queueO (Sz.st ⟨nx, q, c, l⟩) o.x e = ({ o.x with msgs := (cutM o.x.msgs e.n).1 }, if (cutM o.x.msgs e.n).2 = true then 0 else 7) := by unfold queueO; rw [if_neg g10, if_pos g17]
      refine K.st (fun w h => nestF_at (l := l) (by repeat (first | exact List.Mem.head _ | apply List.Mem.tail)) (List.mem_of_getElem? ho) h) ?_
      refine K.drawS [pv b5 80 e.cells, RowO Kd.oz 33 q c l] (fun _ h => h.subD) mixed ?_
      refine D.q 0 rfl (by kernel_rfl) (by kernel_rfl) (q_move rfl) (fun _ h => h.subD) ?_
      refine D.q 1 rfl (by kernel_rfl) (by kernel_rfl) (q_move rfl) (fun _ h => h.subD) ?_
      refine D.q 2 rfl (by kernel_rfl) (by kernel_rfl) (q_nilCheck rfl) (fun _ h => h.subD) ?_
      refine D.q 3 rfl (by kernel_rfl) (by kernel_rfl) (q_fieldE fo_33_4 rfl) (fun _ h => h.subD) ?_
      refine D.q 4 rfl (by kernel_rfl) (by kernel_rfl) (q_ldE (xs := l) ck_31 rfl isO (by repeat (first | exact List.Mem.head _ | apply List.Mem.tail)) ho rfl) (fun _ h => h.subD) ?_
      refine D.q 5 rfl (by kernel_rfl) (by kernel_rfl) (q_field fo_80_4 rfl) (fun _ h => h.subD) ?_
      refine D.q 6 rfl (by kernel_rfl) (by kernel_rfl) (q_load1D ck_3 rfl) (fun _ h => h.subD) ?_
      refine D.all (rs := [7]) (by kernel_rfl) rfl (DAll.cons rfl (by kernel_rfl) (OpL.callD rfl (h := qu_Cut o.z.q2 o.z.c2 o.x.msgs e.n hl2)) (.inr (by rintro _ _ ⟨_, ⟨qn, cn, rfl, rfl, hcn⟩, rfl⟩ w h; exact h.subD)) rfl ?_ DAll.nil)
      rintro _ _ ⟨_, ⟨qn, cn, rfl, rfl, hcn⟩, rfl⟩
      refine D.q 8 rfl (by kernel_rfl) (by kernel_rfl) (q_move rfl) (fun _ h => h.subD) ?_
      refine D.q 9 rfl (by kernel_rfl) (by kernel_rfl) (q_extract rfl rfl) (fun _ h => h.subD) ?_
      refine D.all (rs := [10, 11]) (by kernel_rfl) rfl (DAll.cons rfl (by kernel_rfl) (OpQ.loud (q_extract rfl rfl)) (.inr (by rintro _ _ ⟨rfl, rfl⟩ w h; exact h.subD)) rfl ?_ (DAll.cons rfl (by kernel_rfl) (OpQ.loud (q_nilCheck rfl)) (.inl (by kernel_rfl)) rfl ?_ DAll.nil))
      · rintro _ _ ⟨rfl, rfl⟩
        refine D.all (rs := [11]) (by kernel_rfl) rfl (DAll.cons rfl (by kernel_rfl) (OpQ.loud (q_nilCheck rfl)) (.inl (by kernel_rfl)) rfl ?_ DAll.nil)
        rintro _ _ ⟨rfl, rfl⟩
        refine D.q 12 rfl (by kernel_rfl) (by kernel_rfl) (q_fieldE fo_33_4 rfl) (fun _ h => h.subD) ?_
        refine D.all (rs := [13]) (by kernel_rfl) rfl (DAll.consN rfl (by kernel_rfl) (l_storeE (el := o) ⟨{ o.x with msgs := (cutM o.x.msgs e.n).1 }, { o.z with q2 := qn, c2 := cn }⟩ ck_31 rfl rfl rfl (by repeat (first | exact Pick.here | apply Pick.there)) ho (by decide) rfl) (.inl (by kernel_rfl)) rfl ?_ DAll.nil)
        rintro _ _ ⟨rfl, rfl⟩
        refine D.all (rs := [14]) (by kernel_rfl) rfl (DAll.cons rfl (by kernel_rfl) (OpQ.loud (q_assign rfl)) (.inl (by kernel_rfl)) rfl ?_ DAll.nil)
        rintro _ _ ⟨rfl, rfl⟩
        refine D.done (by kernel_rfl) ?_
        refine K.inBlock <| K.seq ?_
        refine K.region ?_
        refine KO.q rfl (q_move rfl) ?_
        refine KO.loud rfl (OpL.callD rfl (h := st_told _ _)) ?_
        rintro _ _ ⟨_, ⟨rfl, rfl⟩, rfl⟩
        refine KO.q rfl (q_assign rfl) ?_
        refine KO.done ?_
        refine K.ret (fn := Tryz.f55) Tryz.func55 (fun a w hk hs => res1 Tryz.results55 hk rfl) (fun w hs => ?_)
        rw [hr]
        exact ⟨_, StO b ⟨nx, q, c, l.set i ⟨{ o.x with msgs := (cutM o.x.msgs e.n).1 }, { o.z with q2 := qn, c2 := cn }⟩⟩, rfl, ⟨{ o.z with q2 := qn, c2 := cn }, rfl, rfl, fun h => ⟨h.1, hcn, h.2.2⟩⟩, stO_put (o' := ⟨{ o.x with msgs := (cutM o.x.msgs e.n).1 }, { o.z with q2 := qn, c2 := cn }⟩) ((rowO_freeze (e := 39) (cap := cn) (k := Kd.msg) (p := qn) (xs := (cutM o.x.msgs e.n).1) (hs.pick (by repeat (first | exact Pick.here | apply Pick.there)))).fit (M := [RowO Kd.oz 33 q c (l.set i ⟨{ o.x with msgs := (cutM o.x.msgs e.n).1 }, { o.z with q2 := qn, c2 := cn }⟩), NestF l] ++ ObL ⟨{ o.x with msgs := (cutM o.x.msgs e.n).1 }, { o.z with q2 := qn, c2 := cn }⟩ ++ [pv b 24 (Sz.cells ⟨nx, q, c, l⟩)]) (by repeat (first | exact Give.nil | (apply Give.perI; (repeat (first | exact List.Mem.head _ | apply List.Mem.tail))) | (apply Give.own; (repeat (first | exact Pick.here | apply Pick.there))))) (by repeat (first | exact Drop.refl | apply Drop.skip)))⟩
      · rintro _ _ ⟨rfl, rfl⟩
        refine D.q 12 rfl (by kernel_rfl) (by kernel_rfl) (q_fieldE fo_33_4 rfl) (fun _ h => h.subD) ?_
        refine D.all (rs := [10, 13]) (by kernel_rfl) rfl (DAll.cons rfl (by kernel_rfl) (OpQ.loud (q_extract rfl rfl)) (.inr (by rintro _ _ ⟨rfl, rfl⟩ w h; exact h.subD)) rfl ?_ (DAll.consN rfl (by kernel_rfl) (l_storeE (el := o) ⟨{ o.x with msgs := (cutM o.x.msgs e.n).1 }, { o.z with q2 := qn, c2 := cn }⟩ ck_31 rfl rfl rfl (by repeat (first | exact Pick.here | apply Pick.there)) ho (by decide) rfl) (.inl (by kernel_rfl)) rfl ?_ DAll.nil))
        · rintro _ _ ⟨rfl, rfl⟩
          refine D.all (rs := [13]) (by kernel_rfl) rfl (DAll.consN rfl (by kernel_rfl) (l_storeE (el := o) ⟨{ o.x with msgs := (cutM o.x.msgs e.n).1 }, { o.z with q2 := qn, c2 := cn }⟩ ck_31 rfl rfl rfl (by repeat (first | exact Pick.here | apply Pick.there)) ho (by decide) rfl) (.inl (by kernel_rfl)) rfl ?_ DAll.nil)
          rintro _ _ ⟨rfl, rfl⟩
          refine D.all (rs := [14]) (by kernel_rfl) rfl (DAll.cons rfl (by kernel_rfl) (OpQ.loud (q_assign rfl)) (.inl (by kernel_rfl)) rfl ?_ DAll.nil)
          rintro _ _ ⟨rfl, rfl⟩
          refine D.done (by kernel_rfl) ?_
          refine K.inBlock <| K.seq ?_
          refine K.region ?_
          refine KO.q rfl (q_move rfl) ?_
          refine KO.loud rfl (OpL.callD rfl (h := st_told _ _)) ?_
          rintro _ _ ⟨_, ⟨rfl, rfl⟩, rfl⟩
          refine KO.q rfl (q_assign rfl) ?_
          refine KO.done ?_
          refine K.ret (fn := Tryz.f55) Tryz.func55 (fun a w hk hs => res1 Tryz.results55 hk rfl) (fun w hs => ?_)
          rw [hr]
          exact ⟨_, StO b ⟨nx, q, c, l.set i ⟨{ o.x with msgs := (cutM o.x.msgs e.n).1 }, { o.z with q2 := qn, c2 := cn }⟩⟩, rfl, ⟨{ o.z with q2 := qn, c2 := cn }, rfl, rfl, fun h => ⟨h.1, hcn, h.2.2⟩⟩, stO_put (o' := ⟨{ o.x with msgs := (cutM o.x.msgs e.n).1 }, { o.z with q2 := qn, c2 := cn }⟩) ((rowO_freeze (e := 39) (cap := cn) (k := Kd.msg) (p := qn) (xs := (cutM o.x.msgs e.n).1) (hs.pick (by repeat (first | exact Pick.here | apply Pick.there)))).fit (M := [RowO Kd.oz 33 q c (l.set i ⟨{ o.x with msgs := (cutM o.x.msgs e.n).1 }, { o.z with q2 := qn, c2 := cn }⟩), NestF l] ++ ObL ⟨{ o.x with msgs := (cutM o.x.msgs e.n).1 }, { o.z with q2 := qn, c2 := cn }⟩ ++ [pv b 24 (Sz.cells ⟨nx, q, c, l⟩)]) (by repeat (first | exact Give.nil | (apply Give.perI; (repeat (first | exact List.Mem.head _ | apply List.Mem.tail))) | (apply Give.own; (repeat (first | exact Pick.here | apply Pick.there))))) (by repeat (first | exact Drop.refl | apply Drop.skip)))⟩
        · rintro _ _ ⟨rfl, rfl⟩
          refine D.all (rs := [10]) (by kernel_rfl) rfl (DAll.cons rfl (by kernel_rfl) (OpQ.loud (q_extract rfl rfl)) (.inl (by kernel_rfl)) rfl ?_ DAll.nil)
          rintro _ _ ⟨rfl, rfl⟩
          refine D.all (rs := [14]) (by kernel_rfl) rfl (DAll.cons rfl (by kernel_rfl) (OpQ.loud (q_assign rfl)) (.inl (by kernel_rfl)) rfl ?_ DAll.nil)
          rintro _ _ ⟨rfl, rfl⟩
          refine D.done (by kernel_rfl) ?_
          refine K.inBlock <| K.seq ?_
          refine K.region ?_
          refine KO.q rfl (q_move rfl) ?_
          refine KO.loud rfl (OpL.callD rfl (h := st_told _ _)) ?_
          rintro _ _ ⟨_, ⟨rfl, rfl⟩, rfl⟩
          refine KO.q rfl (q_assign rfl) ?_
          refine KO.done ?_
          refine K.ret (fn := Tryz.f55) Tryz.func55 (fun a w hk hs => res1 Tryz.results55 hk rfl) (fun w hs => ?_)
          rw [hr]
          exact ⟨_, StO b ⟨nx, q, c, l.set i ⟨{ o.x with msgs := (cutM o.x.msgs e.n).1 }, { o.z with q2 := qn, c2 := cn }⟩⟩, rfl, ⟨{ o.z with q2 := qn, c2 := cn }, rfl, rfl, fun h => ⟨h.1, hcn, h.2.2⟩⟩, stO_put (o' := ⟨{ o.x with msgs := (cutM o.x.msgs e.n).1 }, { o.z with q2 := qn, c2 := cn }⟩) ((rowO_freeze (e := 39) (cap := cn) (k := Kd.msg) (p := qn) (xs := (cutM o.x.msgs e.n).1) (hs.pick (by repeat (first | exact Pick.here | apply Pick.there)))).fit (M := [RowO Kd.oz 33 q c (l.set i ⟨{ o.x with msgs := (cutM o.x.msgs e.n).1 }, { o.z with q2 := qn, c2 := cn }⟩), NestF l] ++ ObL ⟨{ o.x with msgs := (cutM o.x.msgs e.n).1 }, { o.z with q2 := qn, c2 := cn }⟩ ++ [pv b 24 (Sz.cells ⟨nx, q, c, l⟩)]) (by repeat (first | exact Give.nil | (apply Give.perI; (repeat (first | exact List.Mem.head _ | apply List.Mem.tail))) | (apply Give.own; (repeat (first | exact Pick.here | apply Pick.there))))) (by repeat (first | exact Drop.refl | apply Drop.skip)))⟩
    · refine K.seq ?_
      refine K.region ?_
      refine KO.q rfl (q_eq rfl rfl) ?_
      refine KO.q rfl (q_assign rfl) ?_
      refine KO.done ?_
      refine K.dcond (s := 32) rfl (fun g32 => ?_) (fun g32 => ?_)
      · refine K.st (fun w h => nestF_at (l := l) (by repeat (first | exact List.Mem.head _ | apply List.Mem.tail)) (List.mem_of_getElem? ho) h) ?_
        refine K.seq <| K.seq ?_
        refine K.drawS [pv b5 80 e.cells, RowO Kd.oz 33 q c l] (fun _ h => h.subD) mixed ?_
        refine D.q 0 rfl (by kernel_rfl) (by kernel_rfl) (q_move rfl) (fun _ h => h.subD) ?_
        refine D.q 1 rfl (by kernel_rfl) (by kernel_rfl) (q_nilCheck rfl) (fun _ h => h.subD) ?_
        refine D.q 2 rfl (by kernel_rfl) (by kernel_rfl) (q_fieldE fo_33_4 rfl) (fun _ h => h.subD) ?_
        refine D.q 3 rfl (by kernel_rfl) (by kernel_rfl) (q_ldE (xs := l) ck_31 rfl isO (by repeat (first | exact List.Mem.head _ | apply List.Mem.tail)) ho rfl) (fun _ h => h.subD) ?_
        refine D.q 4 rfl (by kernel_rfl) (by kernel_rfl) (q_field fo_80_4 rfl) (fun _ h => h.subD) ?_
        refine D.q 5 rfl (by kernel_rfl) (by kernel_rfl) (q_load1D ck_3 rfl) (fun _ h => h.subD) ?_
        refine D.all (rs := [6]) (by kernel_rfl) rfl (DAll.cons rfl (by kernel_rfl) (OpL.callD rfl (h := qu_Find (RowF Kd.msg o.z.q2 o.x.msgs) o.z.q2 o.z.c2 o.x.msgs e.n isF hl2)) (.inr (by rintro _ _ ⟨_, ⟨rfl, rfl⟩, rfl⟩ w h; exact h.subD)) rfl ?_ DAll.nil)
        rintro _ _ ⟨_, ⟨rfl, rfl⟩, rfl⟩
        refine D.q 7 rfl (by kernel_rfl) (by kernel_rfl) (q_lt rfl rfl) (fun _ h => h.subD) ?_
        refine D.done (by kernel_rfl) ?_
        refine K.dcond (s := 41) rfl (fun g41 => ?_) (fun g41 => ?_)
        · have hr : queueO (Sz.st ⟨nx, q, c, l⟩) o.x e = (o.x, 7) := by unfold queueO; rw [if_neg g10, if_neg g17, if_pos g32, if_pos g41]
          refine K.seq ?_
          refine K.region ?_
          refine KO.q rfl (q_assign rfl) ?_
          refine KO.done ?_
          refine K.ret (fn := Tryz.f55) Tryz.func55 (fun a w hk hs => res1 Tryz.results55 hk rfl) (fun w hs => ?_)
          rw [hr]
          exact ⟨_, StO b ⟨nx, q, c, l⟩, rfl, ⟨o.z, rfl, by rw [show (⟨o.x, o.z⟩ : Oz) = o from rfl, hself], fun h => h⟩, hs.fitD⟩
        · have hr : queueO (Sz.st ⟨nx, q, c, l⟩) o.x e = ({ o.x with msgs := (claimM o.x.msgs e.n true).1 }, if (claimM o.x.msgs e.n true).2 = true then 0 else 2) := by unfold queueO; rw [if_neg g10, if_neg g17, if_pos g32, if_neg g41]
          refine K.skip <| K.seq ?_
          refine K.drawS [pv b5 80 e.cells, RowO Kd.oz 33 q c l] (fun _ h => h.subD) mixed ?_
          refine D.q 0 rfl (by kernel_rfl) (by kernel_rfl) (q_move rfl) (fun _ h => h.subD) ?_
          refine D.q 1 rfl (by kernel_rfl) (by kernel_rfl) (q_move rfl) (fun _ h => h.subD) ?_
          refine D.q 2 rfl (by kernel_rfl) (by kernel_rfl) (q_nilCheck rfl) (fun _ h => h.subD) ?_
          refine D.q 3 rfl (by kernel_rfl) (by kernel_rfl) (q_fieldE fo_33_4 rfl) (fun _ h => h.subD) ?_
          refine D.q 4 rfl (by kernel_rfl) (by kernel_rfl) (q_ldE (xs := l) ck_31 rfl isO (by repeat (first | exact List.Mem.head _ | apply List.Mem.tail)) ho rfl) (fun _ h => h.subD) ?_
          refine D.q 5 rfl (by kernel_rfl) (by kernel_rfl) (q_field fo_80_4 rfl) (fun _ h => h.subD) ?_
          refine D.q 6 rfl (by kernel_rfl) (by kernel_rfl) (q_load1D ck_3 rfl) (fun _ h => h.subD) ?_
          refine D.all (rs := [7]) (by kernel_rfl) rfl (DAll.cons rfl (by kernel_rfl) (OpL.callD rfl (h := qu_Claim o.z.q2 o.z.c2 o.x.msgs e.n true hl2)) (.inr (by rintro _ _ ⟨_, ⟨qn, cn, rfl, rfl, hcn⟩, rfl⟩ w h; exact h.subD)) rfl ?_ DAll.nil)
          rintro _ _ ⟨_, ⟨qn, cn, rfl, rfl, hcn⟩, rfl⟩
          refine D.q 8 rfl (by kernel_rfl) (by kernel_rfl) (q_move rfl) (fun _ h => h.subD) ?_
          refine D.q 9 rfl (by kernel_rfl) (by kernel_rfl) (q_extract rfl rfl) (fun _ h => h.subD) ?_
          refine D.all (rs := [10, 11]) (by kernel_rfl) rfl (DAll.cons rfl (by kernel_rfl) (OpQ.loud (q_extract rfl rfl)) (.inr (by rintro _ _ ⟨rfl, rfl⟩ w h; exact h.subD)) rfl ?_ (DAll.cons rfl (by kernel_rfl) (OpQ.loud (q_nilCheck rfl)) (.inl (by kernel_rfl)) rfl ?_ DAll.nil))
          · rintro _ _ ⟨rfl, rfl⟩
            refine D.all (rs := [11]) (by kernel_rfl) rfl (DAll.cons rfl (by kernel_rfl) (OpQ.loud (q_nilCheck rfl)) (.inl (by kernel_rfl)) rfl ?_ DAll.nil)
            rintro _ _ ⟨rfl, rfl⟩
            refine D.q 12 rfl (by kernel_rfl) (by kernel_rfl) (q_fieldE fo_33_4 rfl) (fun _ h => h.subD) ?_
            refine D.all (rs := [13]) (by kernel_rfl) rfl (DAll.consN rfl (by kernel_rfl) (l_storeE (el := o) ⟨{ o.x with msgs := (claimM o.x.msgs e.n true).1 }, { o.z with q2 := qn, c2 := cn }⟩ ck_31 rfl rfl rfl (by repeat (first | exact Pick.here | apply Pick.there)) ho (by decide) rfl) (.inl (by kernel_rfl)) rfl ?_ DAll.nil)
            rintro _ _ ⟨rfl, rfl⟩
            refine D.all (rs := [14]) (by kernel_rfl) rfl (DAll.cons rfl (by kernel_rfl) (OpQ.loud (q_assign rfl)) (.inl (by kernel_rfl)) rfl ?_ DAll.nil)
            rintro _ _ ⟨rfl, rfl⟩
            refine D.done (by kernel_rfl) ?_
            refine K.seq ?_
            refine K.region ?_
            refine KO.q rfl (q_move rfl) ?_
            refine KO.loud rfl (OpL.callD rfl (h := st_told _ _)) ?_
            rintro _ _ ⟨_, ⟨rfl, rfl⟩, rfl⟩
            refine KO.q rfl (q_assign rfl) ?_
            refine KO.done ?_
            refine K.ret (fn := Tryz.f55) Tryz.func55 (fun a w hk hs => res1 Tryz.results55 hk rfl) (fun w hs => ?_)
            rw [hr]
            exact ⟨_, StO b ⟨nx, q, c, l.set i ⟨{ o.x with msgs := (claimM o.x.msgs e.n true).1 }, { o.z with q2 := qn, c2 := cn }⟩⟩, rfl, ⟨{ o.z with q2 := qn, c2 := cn }, rfl, rfl, fun h => ⟨h.1, hcn, h.2.2⟩⟩, stO_put (o' := ⟨{ o.x with msgs := (claimM o.x.msgs e.n true).1 }, { o.z with q2 := qn, c2 := cn }⟩) ((rowO_freeze (e := 39) (cap := cn) (k := Kd.msg) (p := qn) (xs := (claimM o.x.msgs e.n true).1) (hs.pick (by repeat (first | exact Pick.here | apply Pick.there)))).fit (M := [RowO Kd.oz 33 q c (l.set i ⟨{ o.x with msgs := (claimM o.x.msgs e.n true).1 }, { o.z with q2 := qn, c2 := cn }⟩), NestF l] ++ ObL ⟨{ o.x with msgs := (claimM o.x.msgs e.n true).1 }, { o.z with q2 := qn, c2 := cn }⟩ ++ [pv b 24 (Sz.cells ⟨nx, q, c, l⟩)]) (by repeat (first | exact Give.nil | (apply Give.perI; (repeat (first | exact List.Mem.head _ | apply List.Mem.tail))) | (apply Give.own; (repeat (first | exact Pick.here | apply Pick.there))))) (by repeat (first | exact Drop.refl | apply Drop.skip)))⟩
          · rintro _ _ ⟨rfl, rfl⟩
            refine D.q 12 rfl (by kernel_rfl) (by kernel_rfl) (q_fieldE fo_33_4 rfl) (fun _ h => h.subD) ?_
            refine D.all (rs := [10, 13]) (by kernel_rfl) rfl (DAll.cons rfl (by kernel_rfl) (OpQ.loud (q_extract rfl rfl)) (.inr (by rintro _ _ ⟨rfl, rfl⟩ w h; exact h.subD)) rfl ?_ (DAll.consN rfl (by kernel_rfl) (l_storeE (el := o) ⟨{ o.x with msgs := (claimM o.x.msgs e.n true).1 }, { o.z with q2 := qn, c2 := cn }⟩ ck_31 rfl rfl rfl (by repeat (first | exact Pick.here | apply Pick.there)) ho (by decide) rfl) (.inl (by kernel_rfl)) rfl ?_ DAll.nil))
            · rintro _ _ ⟨rfl, rfl⟩
              refine D.all (rs := [13]) (by kernel_rfl) rfl (DAll.consN rfl (by kernel_rfl) (l_storeE (el := o) ⟨{ o.x with msgs := (claimM o.x.msgs e.n true).1 }, { o.z with q2 := qn, c2 := cn }⟩ ck_31 rfl rfl rfl (by repeat (first | exact Pick.here | apply Pick.there)) ho (by decide) rfl) (.inl (by kernel_rfl)) rfl ?_ DAll.nil)
              rintro _ _ ⟨rfl, rfl⟩
              refine D.all (rs := [14]) (by kernel_rfl) rfl (DAll.cons rfl (by kernel_rfl) (OpQ.loud (q_assign rfl)) (.inl (by kernel_rfl)) rfl ?_ DAll.nil)
              rintro _ _ ⟨rfl, rfl⟩
              refine D.done (by kernel_rfl) ?_
              refine K.seq ?_
              refine K.region ?_
              refine KO.q rfl (q_move rfl) ?_
              refine KO.loud rfl (OpL.callD rfl (h := st_told _ _)) ?_
              rintro _ _ ⟨_, ⟨rfl, rfl⟩, rfl⟩
              refine KO.q rfl (q_assign rfl) ?_
              refine KO.done ?_
              refine K.ret (fn := Tryz.f55) Tryz.func55 (fun a w hk hs => res1 Tryz.results55 hk rfl) (fun w hs => ?_)
              rw [hr]
              exact ⟨_, StO b ⟨nx, q, c, l.set i ⟨{ o.x with msgs := (claimM o.x.msgs e.n true).1 }, { o.z with q2 := qn, c2 := cn }⟩⟩, rfl, ⟨{ o.z with q2 := qn, c2 := cn }, rfl, rfl, fun h => ⟨h.1, hcn, h.2.2⟩⟩, stO_put (o' := ⟨{ o.x with msgs := (claimM o.x.msgs e.n true).1 }, { o.z with q2 := qn, c2 := cn }⟩) ((rowO_freeze (e := 39) (cap := cn) (k := Kd.msg) (p := qn) (xs := (claimM o.x.msgs e.n true).1) (hs.pick (by repeat (first | exact Pick.here | apply Pick.there)))).fit (M := [RowO Kd.oz 33 q c (l.set i ⟨{ o.x with msgs := (claimM o.x.msgs e.n true).1 }, { o.z with q2 := qn, c2 := cn }⟩), NestF l] ++ ObL ⟨{ o.x with msgs := (claimM o.x.msgs e.n true).1 }, { o.z with q2 := qn, c2 := cn }⟩ ++ [pv b 24 (Sz.cells ⟨nx, q, c, l⟩)]) (by repeat (first | exact Give.nil | (apply Give.perI; (repeat (first | exact List.Mem.head _ | apply List.Mem.tail))) | (apply Give.own; (repeat (first | exact Pick.here | apply Pick.there))))) (by repeat (first | exact Drop.refl | apply Drop.skip)))⟩
            · rintro _ _ ⟨rfl, rfl⟩
              refine D.all (rs := [10]) (by kernel_rfl) rfl (DAll.cons rfl (by kernel_rfl) (OpQ.loud (q_extract rfl rfl)) (.inl (by kernel_rfl)) rfl ?_ DAll.nil)
              rintro _ _ ⟨rfl, rfl⟩
              refine D.all (rs := [14]) (by kernel_rfl) rfl (DAll.cons rfl (by kernel_rfl) (OpQ.loud (q_assign rfl)) (.inl (by kernel_rfl)) rfl ?_ DAll.nil)
              rintro _ _ ⟨rfl, rfl⟩
              refine D.done (by kernel_rfl) ?_
              refine K.seq ?_
              refine K.region ?_
              refine KO.q rfl (q_move rfl) ?_
              refine KO.loud rfl (OpL.callD rfl (h := st_told _ _)) ?_
              rintro _ _ ⟨_, ⟨rfl, rfl⟩, rfl⟩
              refine KO.q rfl (q_assign rfl) ?_
              refine KO.done ?_
              refine K.ret (fn := Tryz.f55) Tryz.func55 (fun a w hk hs => res1 Tryz.results55 hk rfl) (fun w hs => ?_)
              rw [hr]
              exact ⟨_, StO b ⟨nx, q, c, l.set i ⟨{ o.x with msgs := (claimM o.x.msgs e.n true).1 }, { o.z with q2 := qn, c2 := cn }⟩⟩, rfl, ⟨{ o.z with q2 := qn, c2 := cn }, rfl, rfl, fun h => ⟨h.1, hcn, h.2.2⟩⟩, stO_put (o' := ⟨{ o.x with msgs := (claimM o.x.msgs e.n true).1 }, { o.z with q2 := qn, c2 := cn }⟩) ((rowO_freeze (e := 39) (cap := cn) (k := Kd.msg) (p := qn) (xs := (claimM o.x.msgs e.n true).1) (hs.pick (by repeat (first | exact Pick.here | apply Pick.there)))).fit (M := [RowO Kd.oz 33 q c (l.set i ⟨{ o.x with msgs := (claimM o.x.msgs e.n true).1 }, { o.z with q2 := qn, c2 := cn }⟩), NestF l] ++ ObL ⟨{ o.x with msgs := (claimM o.x.msgs e.n true).1 }, { o.z with q2 := qn, c2 := cn }⟩ ++ [pv b 24 (Sz.cells ⟨nx, q, c, l⟩)]) (by repeat (first | exact Give.nil | (apply Give.perI; (repeat (first | exact List.Mem.head _ | apply List.Mem.tail))) | (apply Give.own; (repeat (first | exact Pick.here | apply Pick.there))))) (by repeat (first | exact Drop.refl | apply Drop.skip)))⟩
      · refine K.seq ?_
        refine K.region ?_
        refine KO.q rfl (q_eq rfl rfl) ?_
        refine KO.q rfl (q_assign rfl) ?_
        refine KO.done ?_
        refine K.dcond (s := 57) rfl (fun g57 => ?_) (fun g57 => ?_)
        · have hr : queueO (Sz.st ⟨nx, q, c, l⟩) o.x e = ((freeO o.x e.n e.tried).1, if (freeO o.x e.n e.tried).2 = true then 0 else 7) := by unfold queueO; rw [if_neg g10, if_neg g17, if_neg g32, if_pos g57]
          refine K.st (fun w h => nestF_at (l := l) (by repeat (first | exact List.Mem.head _ | apply List.Mem.tail)) (List.mem_of_getElem? ho) h) ?_
          refine K.drawS [pv b5 80 e.cells, RowO Kd.oz 33 q c l] (fun _ h => h.subD) mixed ?_
          refine D.q 0 rfl (by kernel_rfl) (by kernel_rfl) (q_move rfl) (fun _ h => h.subD) ?_
          refine D.q 1 rfl (by kernel_rfl) (by kernel_rfl) (q_move rfl) (fun _ h => h.subD) ?_
          refine D.q 2 rfl (by kernel_rfl) (by kernel_rfl) (q_nilCheck rfl) (fun _ h => h.subD) ?_
          refine D.q 3 rfl (by kernel_rfl) (by kernel_rfl) (q_ldEN (xs := l) (enc := Oz.cells) ck_33 rfl isO (by repeat (first | exact List.Mem.head _ | apply List.Mem.tail)) ho) (fun _ h => h.subD) ?_
          refine D.q 4 rfl (by kernel_rfl) (by kernel_rfl) (q_field fo_80_4 rfl) (fun _ h => h.subD) ?_
          refine D.q 5 rfl (by kernel_rfl) (by kernel_rfl) (q_load1D ck_3 rfl) (fun _ h => h.subD) ?_
          refine D.q 6 rfl (by kernel_rfl) (by kernel_rfl) (q_field fo_80_6 rfl) (fun _ h => h.subD) ?_
          refine D.q 7 rfl (by kernel_rfl) (by kernel_rfl) (q_load1D ck_4 rfl) (fun _ h => h.subD) ?_
          refine D.all (rs := [8]) (by kernel_rfl) rfl (DAll.cons rfl (by kernel_rfl) (OpL.callD rfl (h := dd_Free o e.n e.tried hol' hs0)) (.inr (by rintro _ _ ⟨_, ⟨z, rfl, rfl, hz⟩, rfl⟩ w h; exact h.subD)) rfl ?_ DAll.nil)
          rintro _ _ ⟨_, ⟨z, rfl, rfl, hz⟩, rfl⟩
          refine D.q 9 rfl (by kernel_rfl) (by kernel_rfl) (q_move rfl) (fun _ h => h.subD) ?_
          refine D.q 10 rfl (by kernel_rfl) (by kernel_rfl) (q_extract rfl rfl) (fun _ h => h.subD) ?_
          refine D.all (rs := [11, 12]) (by kernel_rfl) rfl (DAll.cons rfl (by kernel_rfl) (OpQ.loud (q_extract rfl rfl)) (.inr (by rintro _ _ ⟨rfl, rfl⟩ w h; exact h.subD)) rfl ?_ (DAll.cons rfl (by kernel_rfl) (OpQ.loud (q_nilCheck rfl)) (.inl (by kernel_rfl)) rfl ?_ DAll.nil))
          · rintro _ _ ⟨rfl, rfl⟩
            refine D.all (rs := [12]) (by kernel_rfl) rfl (DAll.cons rfl (by kernel_rfl) (OpQ.loud (q_nilCheck rfl)) (.inl (by kernel_rfl)) rfl ?_ DAll.nil)
            rintro _ _ ⟨rfl, rfl⟩
            refine D.all (rs := [13]) (by kernel_rfl) rfl (DAll.consN rfl (by kernel_rfl) (l_storeEN ⟨(freeO o.x e.n e.tried).1, z⟩ ck_33 rfl rfl (by repeat (first | exact Pick.here | apply Pick.there)) (List.getElem?_eq_some_iff.1 ho).1) (.inl (by kernel_rfl)) rfl ?_ DAll.nil)
            rintro _ _ ⟨rfl, rfl⟩
            refine D.all (rs := [14]) (by kernel_rfl) rfl (DAll.cons rfl (by kernel_rfl) (OpQ.loud (q_assign rfl)) (.inl (by kernel_rfl)) rfl ?_ DAll.nil)
            rintro _ _ ⟨rfl, rfl⟩
            refine D.done (by kernel_rfl) ?_
            refine K.inBlock <| K.seq ?_
            refine K.region ?_
            refine KO.q rfl (q_move rfl) ?_
            refine KO.loud rfl (OpL.callD rfl (h := st_told _ _)) ?_
            rintro _ _ ⟨_, ⟨rfl, rfl⟩, rfl⟩
            refine KO.q rfl (q_assign rfl) ?_
            refine KO.done ?_
            refine K.ret (fn := Tryz.f55) Tryz.func55 (fun a w hk hs => res1 Tryz.results55 hk rfl) (fun w hs => ?_)
            rw [hr]
            exact ⟨_, StO b ⟨nx, q, c, l.set i ⟨(freeO o.x e.n e.tried).1, z⟩⟩, rfl, ⟨z, rfl, rfl, fun _ => hz⟩, stO_put (o' := ⟨(freeO o.x e.n e.tried).1, z⟩) (hs.fit (M := [RowO Kd.oz 33 q c (l.set i ⟨(freeO o.x e.n e.tried).1, z⟩), NestF l] ++ ObL ⟨(freeO o.x e.n e.tried).1, z⟩ ++ [pv b 24 (Sz.cells ⟨nx, q, c, l⟩)]) (by repeat (first | exact Give.nil | (apply Give.perI; (repeat (first | exact List.Mem.head _ | apply List.Mem.tail))) | (apply Give.own; (repeat (first | exact Pick.here | apply Pick.there))))) (by repeat (first | exact Drop.refl | apply Drop.skip)))⟩
          · rintro _ _ ⟨rfl, rfl⟩
            refine D.all (rs := [11, 13]) (by kernel_rfl) rfl (DAll.cons rfl (by kernel_rfl) (OpQ.loud (q_extract rfl rfl)) (.inl (by kernel_rfl)) rfl ?_ (DAll.consN rfl (by kernel_rfl) (l_storeEN ⟨(freeO o.x e.n e.tried).1, z⟩ ck_33 rfl rfl (by repeat (first | exact Pick.here | apply Pick.there)) (List.getElem?_eq_some_iff.1 ho).1) (.inl (by kernel_rfl)) rfl ?_ DAll.nil))
            · rintro _ _ ⟨rfl, rfl⟩
              refine D.all (rs := [13]) (by kernel_rfl) rfl (DAll.consN rfl (by kernel_rfl) (l_storeEN ⟨(freeO o.x e.n e.tried).1, z⟩ ck_33 rfl rfl (by repeat (first | exact Pick.here | apply Pick.there)) (List.getElem?_eq_some_iff.1 ho).1) (.inl (by kernel_rfl)) rfl ?_ DAll.nil)
              rintro _ _ ⟨rfl, rfl⟩
              refine D.all (rs := [14]) (by kernel_rfl) rfl (DAll.cons rfl (by kernel_rfl) (OpQ.loud (q_assign rfl)) (.inl (by kernel_rfl)) rfl ?_ DAll.nil)
              rintro _ _ ⟨rfl, rfl⟩
              refine D.done (by kernel_rfl) ?_
              refine K.inBlock <| K.seq ?_
              refine K.region ?_
              refine KO.q rfl (q_move rfl) ?_
              refine KO.loud rfl (OpL.callD rfl (h := st_told _ _)) ?_
              rintro _ _ ⟨_, ⟨rfl, rfl⟩, rfl⟩
              refine KO.q rfl (q_assign rfl) ?_
              refine KO.done ?_
              refine K.ret (fn := Tryz.f55) Tryz.func55 (fun a w hk hs => res1 Tryz.results55 hk rfl) (fun w hs => ?_)
              rw [hr]
              exact ⟨_, StO b ⟨nx, q, c, l.set i ⟨(freeO o.x e.n e.tried).1, z⟩⟩, rfl, ⟨z, rfl, rfl, fun _ => hz⟩, stO_put (o' := ⟨(freeO o.x e.n e.tried).1, z⟩) (hs.fit (M := [RowO Kd.oz 33 q c (l.set i ⟨(freeO o.x e.n e.tried).1, z⟩), NestF l] ++ ObL ⟨(freeO o.x e.n e.tried).1, z⟩ ++ [pv b 24 (Sz.cells ⟨nx, q, c, l⟩)]) (by repeat (first | exact Give.nil | (apply Give.perI; (repeat (first | exact List.Mem.head _ | apply List.Mem.tail))) | (apply Give.own; (repeat (first | exact Pick.here | apply Pick.there))))) (by repeat (first | exact Drop.refl | apply Drop.skip)))⟩
            · rintro _ _ ⟨rfl, rfl⟩
              refine D.all (rs := [11]) (by kernel_rfl) rfl (DAll.cons rfl (by kernel_rfl) (OpQ.loud (q_extract rfl rfl)) (.inl (by kernel_rfl)) rfl ?_ DAll.nil)
              rintro _ _ ⟨rfl, rfl⟩
              refine D.all (rs := [14]) (by kernel_rfl) rfl (DAll.cons rfl (by kernel_rfl) (OpQ.loud (q_assign rfl)) (.inl (by kernel_rfl)) rfl ?_ DAll.nil)
              rintro _ _ ⟨rfl, rfl⟩
              refine D.done (by kernel_rfl) ?_
              refine K.inBlock <| K.seq ?_
              refine K.region ?_
              refine KO.q rfl (q_move rfl) ?_
              refine KO.loud rfl (OpL.callD rfl (h := st_told _ _)) ?_
              rintro _ _ ⟨_, ⟨rfl, rfl⟩, rfl⟩
              refine KO.q rfl (q_assign rfl) ?_
              refine KO.done ?_
              refine K.ret (fn := Tryz.f55) Tryz.func55 (fun a w hk hs => res1 Tryz.results55 hk rfl) (fun w hs => ?_)
              rw [hr]
              exact ⟨_, StO b ⟨nx, q, c, l.set i ⟨(freeO o.x e.n e.tried).1, z⟩⟩, rfl, ⟨z, rfl, rfl, fun _ => hz⟩, stO_put (o' := ⟨(freeO o.x e.n e.tried).1, z⟩) (hs.fit (M := [RowO Kd.oz 33 q c (l.set i ⟨(freeO o.x e.n e.tried).1, z⟩), NestF l] ++ ObL ⟨(freeO o.x e.n e.tried).1, z⟩ ++ [pv b 24 (Sz.cells ⟨nx, q, c, l⟩)]) (by repeat (first | exact Give.nil | (apply Give.perI; (repeat (first | exact List.Mem.head _ | apply List.Mem.tail))) | (apply Give.own; (repeat (first | exact Pick.here | apply Pick.there))))) (by repeat (first | exact Drop.refl | apply Drop.skip)))⟩
        · have hr : queueO (Sz.st ⟨nx, q, c, l⟩) o.x e = (o.x, 7) := by unfold queueO; rw [if_neg g10, if_neg g17, if_neg g32, if_neg g57]
          refine K.skip <| K.inBlock <| K.seq ?_
          refine K.region ?_
          refine KO.q rfl (q_move rfl) ?_
          refine KO.loud rfl (OpL.callD rfl (h := st_told _ _)) ?_
          rintro _ _ ⟨_, ⟨rfl, rfl⟩, rfl⟩
          refine KO.q rfl (q_assign rfl) ?_
          refine KO.done ?_
          refine K.ret (fn := Tryz.f55) Tryz.func55 (fun a w hk hs => res1 Tryz.results55 hk rfl) (fun w hs => ?_)
          rw [hr]
          exact ⟨_, StO b ⟨nx, q, c, l⟩, rfl, ⟨o.z, rfl, by rw [show (⟨o.x, o.z⟩ : Oz) = o from rfl, hself], fun h => h⟩, hs.fitD⟩
theorem findO_nat {s : Sz} {name : ByteArray} (h : ¬ findO s.st name < 0) : ∃ (i : Nat) (o : Oz), s.l[i]? = some o ∧ findO s.st name = (i : Int) ∧ s.st.objs.getD (findO s.st name).toNat Ob.zero = o.x := by
  have hm : findO s.st name = idxP (fun o : Oz => decide (o.x.name = name)) s.l := idxP_map _ _ _
  rw [hm] at h
  obtain ⟨i, o, ho, hi, _⟩ := idxP_nat h
  refine ⟨i, o, ho, hm.trans hi, ?_⟩
  rw [hm, hi, Int.toNat_natCast]
  refine gd_at ?_
  show (s.l.map (·.x))[i]? = _
  rw [List.getElem?_map, ho]
  rfl
set_option maxHeartbeats 3200000 in
theorem st_do (b : Nat) (s : Sz) (e : Eff) (hc : s.l.length ≤ s.c) (hl : s.l.length ≤ 1000000000) (hle : ∀ o ∈ s.l, o.le 1000000000) (hcap : ∀ o ∈ s.l, o.cap) (hs0 : ∀ o ∈ s.l, ∀ m ∈ o.x.msgs, -9223372036854775808 ≤ m.retry) : Fn Tryz.prog 40 [.pointer (some ⟨b, 0, none⟩), .agg e.cells.toArray].toArray (StO b s)
    (fun r post => ∃ s' : Sz, r = .int .i64 (doS s.st e).2 ∧ s'.st = (doS s.st e).1 ∧ post = StO b s' ∧ s'.l.length ≤ s'.c ∧ ∀ o ∈ s'.l, o.cap) := by
  refine Fn.enter (N := 64) Tryz.func40 rfl Tryz.ntmps40 (by kernel_rfl) rfl (fun ρ L => ?_)
  refine K.seq ?_
  refine K.region ?_
  refine KO.loud rfl (l_box rfl rfl) ?_
  rintro _ _ ⟨b3, rfl, rfl⟩
  refine KO.q rfl (q_assign rfl) ?_
  refine KO.done ?_
  refine K.seq <| K.block <| K.seq ?_
  refine K.region ?_
  refine KO.q rfl (q_loadN ck_80 rfl rfl (by first | (apply cells_pv; (repeat (first | exact List.Mem.head _ | apply List.Mem.tail))) | (apply cells_fv; (repeat (first | exact List.Mem.head _ | apply List.Mem.tail))))) ?_
  refine KO.loud rfl (OpL.callD rfl (h := eff_Right e)) ?_
  rintro _ _ ⟨_, ⟨rfl, rfl⟩, rfl⟩
  refine KO.q rfl (q_not rfl) ?_
  refine KO.q rfl (q_assign rfl) ?_
  refine KO.done ?_
  refine K.bcond (s := 8) rfl (fun g8 => ?_) (fun g8 => ?_)
  · have her : e.right = false := by simpa using g8
    have hr : doS s.st e = (s.st, 1) := by unfold doS; rw [if_pos her]
    refine K.seq ?_
    refine K.region ?_
    refine KO.q rfl (q_assign rfl) ?_
    refine KO.done ?_
    refine K.ret (fn := Tryz.f40) Tryz.func40 (fun a w hk hs => res1 Tryz.results40 hk rfl) (fun w hs => ?_)
    rw [hr]
    exact ⟨_, StO b s, rfl, ⟨s, rfl, rfl, rfl, hc, hcap⟩, hs.fitD⟩
  · have her : ¬ e.right = false := by simpa using g8
    refine K.seq ?_
    refine K.region ?_
    refine KO.q rfl (q_field fo_80_0 rfl) ?_
    refine KO.q rfl (q_load1D ck_3 rfl) ?_
    refine KO.q rfl (q_eq rfl rfl) ?_
    refine KO.q rfl (q_assign rfl) ?_
    refine KO.done ?_
    refine K.dcond (s := 12) rfl (fun g12 => ?_) (fun g12 => ?_)
    · have hr : doS s.st e = makeS s.st e := by unfold doS; rw [if_neg her, if_pos g12]
      refine K.seq ?_
      refine K.region ?_
      refine KO.q rfl (q_move rfl) ?_
      refine KO.q rfl (q_loadN ck_80 rfl rfl (by first | (apply cells_pv; (repeat (first | exact List.Mem.head _ | apply List.Mem.tail))) | (apply cells_fv; (repeat (first | exact List.Mem.head _ | apply List.Mem.tail))))) ?_
      refine KO.loud rfl (OpL.callD rfl (h := st_make1 b s e hc hl hcap)) ?_
      rintro _ _ ⟨_, ⟨s', rfl, hs1, rfl, hs2, hs3⟩, rfl⟩
      refine KO.q rfl (q_assign rfl) ?_
      refine KO.done ?_
      refine K.ret (fn := Tryz.f40) Tryz.func40 (fun a w hk hs => res1 Tryz.results40 hk rfl) (fun w hs => ?_)
      rw [hr]
      exact ⟨_, StO b s', rfl, ⟨s', rfl, hs1, rfl, hs2, hs3⟩, hs.fitD⟩
    · refine K.seq ?_
      refine K.region ?_
      refine KO.q rfl (q_field fo_80_0 rfl) ?_
      refine KO.q rfl (q_load1D ck_3 rfl) ?_
      refine KO.q rfl (q_eq rfl rfl) ?_
      refine KO.q rfl (q_assign rfl) ?_
      refine KO.done ?_
      refine K.dcond (s := 19) rfl (fun g19 => ?_) (fun g19 => ?_)
      · have hr : doS s.st e = nextS s.st e.n := by unfold doS; rw [if_neg her, if_neg g12, if_pos g19]
        refine K.seq ?_
        refine K.region ?_
        refine KO.q rfl (q_move rfl) ?_
        refine KO.q rfl (q_field fo_80_4 rfl) ?_
        refine KO.q rfl (q_load1D ck_3 rfl) ?_
        refine KO.loud rfl (OpL.callD rfl (h := st_next b s e.n)) ?_
        rintro _ _ ⟨_, ⟨s', rfl, hs1, hq', hc', hl', rfl⟩, rfl⟩
        refine KO.q rfl (q_assign rfl) ?_
        refine KO.done ?_
        refine K.ret (fn := Tryz.f40) Tryz.func40 (fun a w hk hs => res1 Tryz.results40 hk rfl) (fun w hs => ?_)
        rw [hr]
        exact ⟨_, StO b s', rfl, ⟨s', rfl, hs1, rfl, by rw [hl', hc']; exact hc, by rw [hl']; exact hcap⟩, hs.fitD⟩
      · refine K.skip <| K.inBlock <| K.seq ?_
        refine K.drawS [pv b 24 s.cells, pv b3 80 e.cells] (fun _ h => h.subD) mixed ?_
        refine D.q 0 rfl (by kernel_rfl) (by kernel_rfl) (q_move rfl) (fun _ h => h.subD) ?_
        refine D.q 1 rfl (by kernel_rfl) (by kernel_rfl) (q_nilCheck rfl) (fun _ h => h.subD) ?_
        refine D.q 2 rfl (by kernel_rfl) (by kernel_rfl) (q_loadN ck_24 rfl rfl (by first | (apply cells_pv; (repeat (first | exact List.Mem.head _ | apply List.Mem.tail))) | (apply cells_fv; (repeat (first | exact List.Mem.head _ | apply List.Mem.tail))))) (fun _ h => h.subD) ?_
        refine D.q 3 rfl (by kernel_rfl) (by kernel_rfl) (q_field fo_80_1 rfl) (fun _ h => h.subD) ?_
        refine D.q 4 rfl (by kernel_rfl) (by kernel_rfl) (q_load1D ck_9 rfl) (fun _ h => h.subD) ?_
        refine D.all (rs := [5]) (by kernel_rfl) rfl (DAll.cons rfl (by kernel_rfl) (OpL.callD rfl (h := st_Find (RowO Kd.oz 33 s.q s.c s.l) s e.object isO hl)) (.inr (by rintro _ _ ⟨_, ⟨rfl, rfl⟩, rfl⟩ w h; exact h.subD)) rfl ?_ DAll.nil)
        rintro _ _ ⟨_, ⟨rfl, rfl⟩, rfl⟩
        refine D.q 6 rfl (by kernel_rfl) (by kernel_rfl) (q_assign rfl) (fun _ h => h.subD) ?_
        refine D.done (by kernel_rfl) ?_
        refine K.seq <| K.seq ?_
        refine K.region ?_
        refine KO.q rfl (q_move rfl) ?_
        refine KO.q rfl (q_lt rfl rfl) ?_
        refine KO.done ?_
        refine K.dcond (s := 34) rfl (fun g34 => ?_) (fun g34 => ?_)
        · have hr : doS s.st e = (s.st, 3) := by unfold doS; rw [if_neg her, if_neg g12, if_neg g19, if_pos g34]
          refine K.seq ?_
          refine K.region ?_
          refine KO.q rfl (q_assign rfl) ?_
          refine KO.done ?_
          refine K.ret (fn := Tryz.f40) Tryz.func40 (fun a w hk hs => res1 Tryz.results40 hk rfl) (fun w hs => ?_)
          rw [hr]
          exact ⟨_, StO b s, rfl, ⟨s, rfl, rfl, rfl, hc, hcap⟩, hs.fitD⟩
        · obtain ⟨i, o, ho, hi, hgd⟩ := findO_nat g34
          have hil := (List.getElem?_eq_some_iff.1 ho).1
          have hmo := List.mem_of_getElem? ho
          have hb := fun h5 => show doS s.st e = (s.st, 5) by unfold doS; rw [if_neg her, if_neg g12, if_neg g19, if_neg g34, hgd, if_pos h5]
          have ht := fun h5 h6 => show doS s.st e = (⟨s.st.next, s.st.objs.set i (tableO o.x e).1⟩, (tableO o.x e).2) by unfold doS; rw [if_neg her, if_neg g12, if_neg g19, if_neg g34, hgd, if_neg h5, if_pos h6, hi]; rfl
          have hqq := fun h5 h6 => show doS s.st e = (⟨s.st.next, s.st.objs.set i (queueO s.st o.x e).1⟩, (queueO s.st o.x e).2) by unfold doS; rw [if_neg her, if_neg g12, if_neg g19, if_neg g34, hgd, if_neg h5, if_neg h6, hi]; rfl
          have hset : ∀ o' : Oz, Sz.st ⟨s.next, s.q, s.c, s.l.set i o'⟩ = ⟨s.st.next, s.st.objs.set i o'.x⟩ := fun o' => by unfold Sz.st; dsimp only; rw [List.map_set]
          refine K.skip <| K.seq ?_
          refine K.region ?_
          refine KO.q rfl (q_move rfl) ?_
          refine KO.q rfl (q_nilCheck rfl) ?_
          refine KO.q rfl (q_field fo_24_1 rfl) ?_
          refine KO.q rfl (q_load1D ck_22 rfl) ?_
          refine KO.q rfl (q_move rfl) ?_
          refine KO.q rfl (q_ix (xs := s.l) i se_22 rfl rfl hi isO (by repeat (first | exact List.Mem.head _ | apply List.Mem.tail)) rfl hil) ?_
          refine KO.q rfl (q_assign rfl) ?_
          refine KO.done ?_
          refine K.seq ?_
          refine K.region ?_
          refine KO.q rfl (q_field fo_80_0 rfl) ?_
          refine KO.q rfl (q_load1D ck_3 rfl) ?_
          refine KO.q rfl (q_eq rfl rfl) ?_
          refine KO.q rfl (q_move rfl) ?_
          refine KO.dsplit 44 rfl (fun g44 => ?_) (fun g44 => ?_)
          · refine KO.skip rfl ?_
            refine KO.skip rfl ?_
            refine KO.skip rfl ?_
            refine KO.q rfl (q_pickT rfl rfl) ?_
            refine KO.q rfl (q_assign rfl) ?_
            refine KO.done ?_
            refine K.seq <| K.seq ?_
            refine K.region ?_
            refine KO.q rfl (q_move rfl) ?_
            refine KO.q rfl (q_move rfl) ?_
            refine KO.q rfl (q_nilCheck rfl) ?_
            refine KO.q rfl (q_fieldE fo_33_1 rfl) ?_
            refine KO.q rfl (q_ldE (xs := s.l) ck_3 rfl isO (by repeat (first | exact List.Mem.head _ | apply List.Mem.tail)) ho rfl) ?_
            refine KO.q rfl (q_eq rfl rfl) ?_
            refine KO.q rfl (q_bne Tryz.underlying4 rfl rfl) ?_
            refine KO.done ?_
            refine K.bcond (s := 55) rfl (fun g55 => ?_) (fun g55 => ?_)
            · have hr := hb (by rw [decide_eq_true (Or.inl g44)]; simpa using g55)
              refine K.seq ?_
              refine K.region ?_
              refine KO.q rfl (q_assign rfl) ?_
              refine KO.done ?_
              refine K.ret (fn := Tryz.f40) Tryz.func40 (fun a w hk hs => res1 Tryz.results40 hk rfl) (fun w hs => ?_)
              rw [hr]
              exact ⟨_, StO b s, rfl, ⟨s, rfl, rfl, rfl, hc, hcap⟩, hs.fitD⟩
            · have hr := ht (by rw [decide_eq_true (Or.inl g44)]; simpa using g55) (.inl g44)
              refine K.skip <| K.seq <| K.seq ?_
              refine K.region ?_
              refine KO.q rfl (q_move rfl) ?_
              refine KO.done ?_
              refine K.yes rfl ?_
              refine K.seq ?_
              refine K.region ?_
              refine KO.q rfl (q_move rfl) ?_
              refine KO.q rfl (q_loadN ck_80 rfl rfl (by first | (apply cells_pv; (repeat (first | exact List.Mem.head _ | apply List.Mem.tail))) | (apply cells_fv; (repeat (first | exact List.Mem.head _ | apply List.Mem.tail))))) ?_
              refine KO.loud rfl (OpL.callD rfl (h := st_inTable s.q s.c s.l i o e ho (hle o hmo) (by first | exact .inl g44 | exact hk))) ?_
              rintro _ _ ⟨_, ⟨z, rfl, rfl, hz⟩, rfl⟩
              refine KO.q rfl (q_assign rfl) ?_
              refine KO.done ?_
              refine K.ret (fn := Tryz.f40) Tryz.func40 (fun a w hk hs => res1 Tryz.results40 hk rfl) (fun w hs => ?_)
              rw [hr]
              exact ⟨_, StO b ⟨s.next, s.q, s.c, s.l.set i ⟨(tableO o.x e).1, z⟩⟩, rfl, ⟨⟨s.next, s.q, s.c, s.l.set i ⟨(tableO o.x e).1, z⟩⟩, rfl, hset _, rfl, by show (s.l.set i _).length ≤ s.c; rw [List.length_set]; exact hc, set_le hcap (hz (hcap o hmo))⟩, (by
                have e1 : Sz.cells ⟨s.next, s.q, s.c, s.l.set i ⟨(tableO o.x e).1, z⟩⟩ = s.cells := by unfold Sz.cells; rw [List.length_set]
                dsimp only [StO]
                rw [e1]
                exact hs.fitD)⟩
          · refine KO.q rfl (q_field fo_80_0 rfl) ?_
            refine KO.q rfl (q_load1D ck_3 rfl) ?_
            refine KO.q rfl (q_eq rfl rfl) ?_
            refine KO.q rfl (q_pickF rfl rfl) ?_
            refine KO.q rfl (q_assign rfl) ?_
            refine KO.done ?_
            refine K.seq <| K.seq ?_
            refine K.region ?_
            refine KO.q rfl (q_move rfl) ?_
            refine KO.q rfl (q_move rfl) ?_
            refine KO.q rfl (q_nilCheck rfl) ?_
            refine KO.q rfl (q_fieldE fo_33_1 rfl) ?_
            refine KO.q rfl (q_ldE (xs := s.l) ck_3 rfl isO (by repeat (first | exact List.Mem.head _ | apply List.Mem.tail)) ho rfl) ?_
            refine KO.q rfl (q_eq rfl rfl) ?_
            refine KO.q rfl (q_bne Tryz.underlying4 rfl rfl) ?_
            refine KO.done ?_
            refine K.bcond (s := 55) rfl (fun g55 => ?_) (fun g55 => ?_)
            · have hr := hb (by rw [show decide (e.kind = 2 ∨ e.kind = 3) = decide (e.kind = 3) by simp [g44]]; simpa using g55)
              refine K.seq ?_
              refine K.region ?_
              refine KO.q rfl (q_assign rfl) ?_
              refine KO.done ?_
              refine K.ret (fn := Tryz.f40) Tryz.func40 (fun a w hk hs => res1 Tryz.results40 hk rfl) (fun w hs => ?_)
              rw [hr]
              exact ⟨_, StO b s, rfl, ⟨s, rfl, rfl, rfl, hc, hcap⟩, hs.fitD⟩
            · refine K.skip <| K.seq <| K.seq ?_
              refine K.region ?_
              refine KO.q rfl (q_move rfl) ?_
              refine KO.done ?_
              refine K.dcond (s := 56) rfl (fun g56 => ?_) (fun g56 => ?_)
              · have hr := ht (by rw [show decide (e.kind = 2 ∨ e.kind = 3) = decide (e.kind = 3) by simp [g44]]; simpa using g55) (.inr g56)
                have hk : e.kind = 2 ∨ e.kind = 3 := .inr g56
                refine K.seq ?_
                refine K.region ?_
                refine KO.q rfl (q_move rfl) ?_
                refine KO.q rfl (q_loadN ck_80 rfl rfl (by first | (apply cells_pv; (repeat (first | exact List.Mem.head _ | apply List.Mem.tail))) | (apply cells_fv; (repeat (first | exact List.Mem.head _ | apply List.Mem.tail))))) ?_
                refine KO.loud rfl (OpL.callD rfl (h := st_inTable s.q s.c s.l i o e ho (hle o hmo) (by first | exact .inl g44 | exact hk))) ?_
                rintro _ _ ⟨_, ⟨z, rfl, rfl, hz⟩, rfl⟩
                refine KO.q rfl (q_assign rfl) ?_
                refine KO.done ?_
                refine K.ret (fn := Tryz.f40) Tryz.func40 (fun a w hk hs => res1 Tryz.results40 hk rfl) (fun w hs => ?_)
                rw [hr]
                exact ⟨_, StO b ⟨s.next, s.q, s.c, s.l.set i ⟨(tableO o.x e).1, z⟩⟩, rfl, ⟨⟨s.next, s.q, s.c, s.l.set i ⟨(tableO o.x e).1, z⟩⟩, rfl, hset _, rfl, by show (s.l.set i _).length ≤ s.c; rw [List.length_set]; exact hc, set_le hcap (hz (hcap o hmo))⟩, (by
                  have e1 : Sz.cells ⟨s.next, s.q, s.c, s.l.set i ⟨(tableO o.x e).1, z⟩⟩ = s.cells := by unfold Sz.cells; rw [List.length_set]
                  dsimp only [StO]
                  rw [e1]
                  exact hs.fitD)⟩
              · have hr := hqq (by rw [show decide (e.kind = 2 ∨ e.kind = 3) = decide (e.kind = 3) by simp [g44]]; simpa using g55) (by simp [g44, g56])
                refine K.skip <| K.seq ?_
                refine K.region ?_
                refine KO.q rfl (q_move rfl) ?_
                refine KO.q rfl (q_move rfl) ?_
                refine KO.q rfl (q_loadN ck_80 rfl rfl (by first | (apply cells_pv; (repeat (first | exact List.Mem.head _ | apply List.Mem.tail))) | (apply cells_fv; (repeat (first | exact List.Mem.head _ | apply List.Mem.tail))))) ?_
                refine KO.loud rfl (OpL.callD rfl (h := st_inQueue b s i o e ho hl hle (hs0 o hmo))) ?_
                rintro _ _ ⟨_, ⟨z, rfl, rfl, hz⟩, rfl⟩
                refine KO.q rfl (q_assign rfl) ?_
                refine KO.done ?_
                refine K.ret (fn := Tryz.f40) Tryz.func40 (fun a w hk hs => res1 Tryz.results40 hk rfl) (fun w hs => ?_)
                rw [hr]
                exact ⟨_, StO b ⟨s.next, s.q, s.c, s.l.set i ⟨(queueO s.st o.x e).1, z⟩⟩, rfl, ⟨⟨s.next, s.q, s.c, s.l.set i ⟨(queueO s.st o.x e).1, z⟩⟩, rfl, hset _, rfl, by show (s.l.set i _).length ≤ s.c; rw [List.length_set]; exact hc, set_le hcap (hz (hcap o hmo))⟩, hs.fitD⟩
end Go.Proofs.YthnmoiilaaoooaaGreat.L
