/- Walks: what one change makes of an object, and of a state. -/
import Derived.Test.YthnmoiilaaoooaaGreatE4
namespace Go.Proofs.YthnmoiilaaoooaaGreat.L
open Go Go.Proofs
attribute [local irreducible] pv fv pt fz RowF RowO rowP old pure_ elA
set_option maxRecDepth 100000
set_option linter.unusedSimpArgs false
set_option linter.unusedVariables false

/-- An object turned: its new rows are frozen, and it stands in the objects' row. -/
theorem row_put {q : Option Addr} {c : Nat} {l : List Oz} {i : Nat} {o' : Oz} {ρ : World} {L : List HP} {w : World} (h : St ρ ([RowO Kd.oz 33 q c (l.set i o'), NestF l] ++ ObL o' ++ L) w) : St ρ ([RowO Kd.oz 33 q c (l.set i o'), NestF (l.set i o')] ++ L) w :=
  (nestF_put (l := l) (l' := l.set i o') o' (fun p hp => List.mem_or_eq_of_mem_set hp) (by repeat (first | exact List.Mem.head _ | apply List.Mem.tail)) (by repeat (first | exact List.Mem.head _ | apply List.Mem.tail)) (by repeat (first | exact List.Mem.head _ | apply List.Mem.tail)) (by repeat (first | exact List.Mem.head _ | apply List.Mem.tail)) h).fitD
theorem set_le {l : List Oz} {i : Nat} {o' : Oz} {P : Oz → Prop} (h : ∀ o ∈ l, P o) (h' : P o') : ∀ o ∈ l.set i o', P o := fun o ho => (List.mem_or_eq_of_mem_set ho).elim (h o) (fun e => by rw [e]; exact h')
set_option maxHeartbeats 1600000 in
theorem st_add (b : Nat) (s : Sz) (i : Nat) (o : Oz) (m : Msg) (ho : s.l[i]? = some o) (hl : s.l.length ≤ 1000000000) (hle : ∀ o ∈ s.l, o.le 1000000000) : Fn Tryz.prog 81 [.pointer (some ⟨b, 0, none⟩), .pointer (some (elA s.q i 6 0)), .agg m.cells.toArray].toArray (StO b s)
    (fun r post => ∃ z, r = .int .i64 (if s.next ≤ m.id ∨ m.claimed = true then 1 else if hasM s.st m.id = true then 4 else 0) ∧ post = StO b ⟨s.next, s.q, s.c, s.l.set i ⟨(if s.next ≤ m.id ∨ m.claimed = true then o.x else if hasM s.st m.id = true then o.x else { o.x with msgs := addM o.x.msgs m }), z⟩⟩ ∧ (o.cap → Oz.cap ⟨(if s.next ≤ m.id ∨ m.claimed = true then o.x else if hasM s.st m.id = true then o.x else { o.x with msgs := addM o.x.msgs m }), z⟩)) := by
  obtain ⟨nx, q, c, l⟩ := s
  have ho : l[i]? = some o := ho
  have hol := hle o (List.mem_of_getElem? ho)
  obtain ⟨hl1, hl2, hl3⟩ := hol
  have hself : l.set i o = l := by
    obtain ⟨hi, rfl⟩ := List.getElem?_eq_some_iff.1 ho
    exact List.set_getElem_self hi
  refine Fn.enter (N := 35) Tryz.func81 rfl Tryz.ntmps81 (by kernel_rfl) rfl (fun ρ L => ?_)
  refine K.seq ?_
  refine K.region ?_
  refine KO.loud rfl (l_box rfl rfl) ?_
  rintro _ _ ⟨b5, rfl, rfl⟩
  refine KO.q rfl (q_assign rfl) ?_
  refine KO.done ?_
  refine K.seq <| K.block <| K.seq ?_
  refine K.drawS [pv b 24 (Sz.cells ⟨nx, q, c, l⟩), pv b5 39 m.cells] (fun _ h => h.subD) mixed ?_
  refine D.q 0 rfl (by kernel_rfl) (by kernel_rfl) (q_field fo_39_0 rfl) (fun _ h => h.subD) ?_
  refine D.q 1 rfl (by kernel_rfl) (by kernel_rfl) (q_load1D ck_3 rfl) (fun _ h => h.subD) ?_
  refine D.q 2 rfl (by kernel_rfl) (by kernel_rfl) (q_move rfl) (fun _ h => h.subD) ?_
  refine D.q 3 rfl (by kernel_rfl) (by kernel_rfl) (q_nilCheck rfl) (fun _ h => h.subD) ?_
  refine D.q 4 rfl (by kernel_rfl) (by kernel_rfl) (q_field fo_24_0 rfl) (fun _ h => h.subD) ?_
  refine D.q 5 rfl (by kernel_rfl) (by kernel_rfl) (q_load1D ck_3 rfl) (fun _ h => h.subD) ?_
  refine D.q 6 rfl (by kernel_rfl) (by kernel_rfl) (q_ge rfl rfl) (fun _ h => h.subD) ?_
  refine D.q 7 rfl (by kernel_rfl) (by kernel_rfl) (q_move rfl) (fun _ h => h.subD) ?_
  refine D.dsplit 15 rfl (fun g15 => ?_) (fun g15 => ?_)
  · have hr : (nx ≤ m.id ∨ m.claimed = true) := .inl g15
    refine D.skip 8 rfl (by kernel_rfl) (by kernel_rfl) (fun _ h => h.subD) ?_
    refine D.skip 9 rfl (by kernel_rfl) (by kernel_rfl) (fun _ h => h.subD) ?_
    refine D.q 10 rfl (by kernel_rfl) (by kernel_rfl) (q_pickT rfl rfl) (fun _ h => h.subD) ?_
    refine D.q 11 rfl (by kernel_rfl) (by kernel_rfl) (q_assign rfl) (fun _ h => h.subD) ?_
    refine D.done (by kernel_rfl) ?_
    refine K.yes rfl ?_
    refine K.seq ?_
    refine K.region ?_
    refine KO.q rfl (q_assign rfl) ?_
    refine KO.done ?_
    refine K.ret (fn := Tryz.f81) Tryz.func81 (fun a w hk hs => res1 Tryz.results81 hk rfl) (fun w hs => ?_)
    simp only [if_pos hr]
    exact ⟨_, StO b ⟨nx, q, c, l⟩, rfl, ⟨o.z, rfl, by rw [show (⟨o.x, o.z⟩ : Oz) = o from rfl, hself], fun h => h⟩, hs.fitD⟩
  · refine D.q 8 rfl (by kernel_rfl) (by kernel_rfl) (q_field fo_39_3 rfl) (fun _ h => h.subD) ?_
    refine D.q 9 rfl (by kernel_rfl) (by kernel_rfl) (q_load1D ck_4 rfl) (fun _ h => h.subD) ?_
    refine D.q 10 rfl (by kernel_rfl) (by kernel_rfl) (q_pickF rfl rfl) (fun _ h => h.subD) ?_
    refine D.q 11 rfl (by kernel_rfl) (by kernel_rfl) (q_assign rfl) (fun _ h => h.subD) ?_
    refine D.done (by kernel_rfl) ?_
    first | refine K.dcond (s := 7) rfl (fun g7 => ?_) (fun g7 => ?_) | refine K.bcond (s := 7) rfl (fun g7 => ?_) (fun g7 => ?_)
    · have hr : (nx ≤ m.id ∨ m.claimed = true) := .inr (by simpa using g7)
      refine K.seq ?_
      refine K.region ?_
      refine KO.q rfl (q_assign rfl) ?_
      refine KO.done ?_
      refine K.ret (fn := Tryz.f81) Tryz.func81 (fun a w hk hs => res1 Tryz.results81 hk rfl) (fun w hs => ?_)
      simp only [if_pos hr]
      exact ⟨_, StO b ⟨nx, q, c, l⟩, rfl, ⟨o.z, rfl, by rw [show (⟨o.x, o.z⟩ : Oz) = o from rfl, hself], fun h => h⟩, hs.fitD⟩
    · have hr : ¬ (nx ≤ m.id ∨ m.claimed = true) := fun h => h.elim (fun h => g15 h) (fun h => by simp [h] at g7)
      refine K.seq ?_
      refine K.drawS [pv b 24 (Sz.cells ⟨nx, q, c, l⟩), pv b5 39 m.cells] (fun _ h => h.subD) mixed ?_
      refine D.q 0 rfl (by kernel_rfl) (by kernel_rfl) (q_move rfl) (fun _ h => h.subD) ?_
      refine D.q 1 rfl (by kernel_rfl) (by kernel_rfl) (q_nilCheck rfl) (fun _ h => h.subD) ?_
      refine D.q 2 rfl (by kernel_rfl) (by kernel_rfl) (q_as_sz (q_loadN ck_24 rfl rfl (by first | (apply cells_pv; (repeat (first | exact List.Mem.head _ | apply List.Mem.tail))) | (apply cells_fv; (repeat (first | exact List.Mem.head _ | apply List.Mem.tail))))) (by rfl)) (fun _ h => h.subD) ?_
      refine D.q 3 rfl (by kernel_rfl) (by kernel_rfl) (q_field fo_39_0 rfl) (fun _ h => h.subD) ?_
      refine D.q 4 rfl (by kernel_rfl) (by kernel_rfl) (q_load1D ck_3 rfl) (fun _ h => h.subD) ?_
      refine D.all (rs := [5]) (by kernel_rfl) rfl (DAll.cons rfl (by kernel_rfl) (OpL.callD rfl (h := st_has (RowO Kd.oz 33 q c l) ⟨nx, q, c, l⟩ m.id isO hl hle)) (.inr (by rintro _ _ ⟨_, ⟨rfl, rfl⟩, rfl⟩ w h; exact h.subD)) rfl ?_ DAll.nil)
      rintro _ _ ⟨_, ⟨rfl, rfl⟩, rfl⟩
      refine D.q 6 rfl (by kernel_rfl) (by kernel_rfl) (q_assign rfl) (fun _ h => h.subD) ?_
      refine D.done (by kernel_rfl) ?_
      refine K.bcond (s := 19) rfl (fun g19 => ?_) (fun g19 => ?_)
      · have hh : hasM (Sz.st ⟨nx, q, c, l⟩) m.id = true := by simpa using g19
        refine K.seq ?_
        refine K.region ?_
        refine KO.q rfl (q_assign rfl) ?_
        refine KO.done ?_
        refine K.ret (fn := Tryz.f81) Tryz.func81 (fun a w hk hs => res1 Tryz.results81 hk rfl) (fun w hs => ?_)
        simp only [if_neg hr, if_pos hh]
        exact ⟨_, StO b ⟨nx, q, c, l⟩, rfl, ⟨o.z, rfl, by rw [show (⟨o.x, o.z⟩ : Oz) = o from rfl, hself], fun h => h⟩, hs.fitD⟩
      · have hh : ¬ hasM (Sz.st ⟨nx, q, c, l⟩) m.id = true := by simpa using g19
        refine K.st (fun w h => nestF_at (l := l) (by repeat (first | exact List.Mem.head _ | apply List.Mem.tail)) (List.mem_of_getElem? ho) h) ?_
        refine K.skip <| K.inBlock <| K.seq ?_
        refine K.drawS [pv b5 39 m.cells, RowO Kd.oz 33 q c l] (fun _ h => h.subD) mixed ?_
        refine D.q 0 rfl (by kernel_rfl) (by kernel_rfl) (q_move rfl) (fun _ h => h.subD) ?_
        refine D.q 1 rfl (by kernel_rfl) (by kernel_rfl) (q_move rfl) (fun _ h => h.subD) ?_
        refine D.q 2 rfl (by kernel_rfl) (by kernel_rfl) (q_nilCheck rfl) (fun _ h => h.subD) ?_
        refine D.q 3 rfl (by kernel_rfl) (by kernel_rfl) (q_fieldE fo_33_4 rfl) (fun _ h => h.subD) ?_
        refine D.q 4 rfl (by kernel_rfl) (by kernel_rfl) (q_ldE (xs := l) ck_31 rfl isO (by repeat (first | exact List.Mem.head _ | apply List.Mem.tail)) ho rfl) (fun _ h => h.subD) ?_
        refine D.q 5 rfl (by kernel_rfl) (by kernel_rfl) (q_loadN ck_39 rfl rfl (by first | (apply cells_pv; (repeat (first | exact List.Mem.head _ | apply List.Mem.tail))) | (apply cells_fv; (repeat (first | exact List.Mem.head _ | apply List.Mem.tail))))) (fun _ h => h.subD) ?_
        refine D.all (rs := [6]) (by kernel_rfl) rfl (DAll.cons rfl (by kernel_rfl) (OpL.callD rfl (h := qu_Add o.z.q2 o.z.c2 o.x.msgs m hl2)) (.inr (by rintro _ _ ⟨_, ⟨qn, cn, rfl, rfl, hcn⟩, rfl⟩ w h; exact h.subD)) rfl ?_ DAll.nil)
        rintro _ _ ⟨_, ⟨qn, cn, rfl, rfl, hcn⟩, rfl⟩
        refine D.all (rs := [7]) (by kernel_rfl) rfl (DAll.cons rfl (by kernel_rfl) (OpQ.loud (q_nilCheck rfl)) (.inl (by kernel_rfl)) rfl ?_ DAll.nil)
        rintro _ _ ⟨rfl, rfl⟩
        refine D.all (rs := [8]) (by kernel_rfl) rfl (DAll.cons rfl (by kernel_rfl) (OpQ.loud (q_fieldE fo_33_4 rfl)) (.inl (by kernel_rfl)) rfl ?_ DAll.nil)
        rintro _ _ ⟨rfl, rfl⟩
        refine D.all (rs := [9]) (by kernel_rfl) rfl (DAll.consN rfl (by kernel_rfl) (l_storeE (el := o) ⟨{ o.x with msgs := addM o.x.msgs m }, { o.z with q2 := qn, c2 := cn }⟩ ck_31 rfl rfl rfl (by repeat (first | exact Pick.here | apply Pick.there)) ho (by decide) rfl) (.inl (by kernel_rfl)) rfl ?_ DAll.nil)
        rintro _ _ ⟨rfl, rfl⟩
        refine D.done (by kernel_rfl) ?_
        refine K.seq ?_
        refine K.region ?_
        refine KO.q rfl (q_assign rfl) ?_
        refine KO.done ?_
        refine K.ret (fn := Tryz.f81) Tryz.func81 (fun a w hk hs => res1 Tryz.results81 hk rfl) (fun w hs => ?_)
        simp only [if_neg hr, if_neg hh]
        exact ⟨_, StO b ⟨nx, q, c, l.set i ⟨{ o.x with msgs := addM o.x.msgs m }, { o.z with q2 := qn, c2 := cn }⟩⟩, rfl, ⟨{ o.z with q2 := qn, c2 := cn }, rfl, rfl, fun h => ⟨h.1, hcn, h.2.2⟩⟩, (row_put (o' := ⟨{ o.x with msgs := addM o.x.msgs m }, { o.z with q2 := qn, c2 := cn }⟩) ((rowO_freeze (e := 39) (cap := cn) (k := Kd.msg) (p := qn) (xs := addM o.x.msgs m) (hs.pick (by repeat (first | exact Pick.here | apply Pick.there)))).fit (M := [RowO Kd.oz 33 q c (l.set i ⟨{ o.x with msgs := addM o.x.msgs m }, { o.z with q2 := qn, c2 := cn }⟩), NestF l] ++ ObL ⟨{ o.x with msgs := addM o.x.msgs m }, { o.z with q2 := qn, c2 := cn }⟩ ++ [pv b 24 (Sz.cells ⟨nx, q, c, l⟩)]) (by repeat (first | exact Give.nil | (apply Give.perI; (repeat (first | exact List.Mem.head _ | apply List.Mem.tail))) | (apply Give.own; (repeat (first | exact Pick.here | apply Pick.there))))) (by repeat (first | exact Drop.refl | apply Drop.skip)))).fit (M := StO b ⟨nx, q, c, l.set i ⟨{ o.x with msgs := addM o.x.msgs m }, { o.z with q2 := qn, c2 := cn }⟩⟩) (by dsimp only [StO, Sz.cells]; rw [List.length_set]; exact (by repeat (first | exact Give.nil | (apply Give.perI; (repeat (first | exact List.Mem.head _ | apply List.Mem.tail))) | (apply Give.own; (repeat (first | exact Pick.here | apply Pick.there)))))) (by repeat (first | exact Drop.refl | apply Drop.skip))⟩
set_option maxHeartbeats 1600000 in
theorem st_inTable (q : Option Addr) (c : Nat) (l : List Oz) (i : Nat) (o : Oz) (e : Eff) (ho : l[i]? = some o) (hol : o.le 1000000000) (hk : e.kind = 2 ∨ e.kind = 3) : Fn Tryz.prog 54 [.pointer (some (elA q i 6 0)), .agg e.cells.toArray].toArray [RowO Kd.oz 33 q c l, NestF l]
    (fun r post => ∃ z, r = .int .i64 (tableO o.x e).2 ∧ post = [RowO Kd.oz 33 q c (l.set i ⟨(tableO o.x e).1, z⟩), NestF (l.set i ⟨(tableO o.x e).1, z⟩)] ∧ (o.cap → Oz.cap ⟨(tableO o.x e).1, z⟩)) := by
  obtain ⟨hl1, hl2, hl3⟩ := hol
  refine Fn.enter (N := 37) Tryz.func54 rfl Tryz.ntmps54 (by kernel_rfl) rfl (fun ρ L => ?_)
  refine K.seq ?_
  refine K.region ?_
  refine KO.loud rfl (l_box rfl rfl) ?_
  rintro _ _ ⟨b3, rfl, rfl⟩
  refine KO.q rfl (q_assign rfl) ?_
  refine KO.done ?_
  refine K.seq <| K.seq ?_
  refine K.st (fun w h => nestF_at (l := l) (by repeat (first | exact List.Mem.head _ | apply List.Mem.tail)) (List.mem_of_getElem? ho) h) ?_
  refine K.region ?_
  refine KO.q rfl (q_field fo_80_0 rfl) ?_
  refine KO.q rfl (q_load1D ck_3 rfl) ?_
  refine KO.q rfl (q_eq rfl rfl) ?_
  refine KO.done ?_
  refine K.dcond (s := 8) rfl (fun g8 => ?_) (fun g8 => ?_)
  · have hr : tableO o.x e = ({ o.x with rows := putR o.x.rows ⟨e.key, e.value⟩ }, 0) := by unfold tableO; rw [if_pos g8]
    refine K.seq ?_
    refine K.drawS [pv b3 80 e.cells, RowO Kd.oz 33 q c l] (fun _ h => h.subD) mixed ?_
    refine D.q 0 rfl (by kernel_rfl) (by kernel_rfl) (q_move rfl) (fun _ h => h.subD) ?_
    refine D.q 1 rfl (by kernel_rfl) (by kernel_rfl) (q_move rfl) (fun _ h => h.subD) ?_
    refine D.q 2 rfl (by kernel_rfl) (by kernel_rfl) (q_nilCheck rfl) (fun _ h => h.subD) ?_
    refine D.q 3 rfl (by kernel_rfl) (by kernel_rfl) (q_fieldE fo_33_3 rfl) (fun _ h => h.subD) ?_
    refine D.q 4 rfl (by kernel_rfl) (by kernel_rfl) (q_ldE (xs := l) ck_30 rfl isO (by repeat (first | exact List.Mem.head _ | apply List.Mem.tail)) ho rfl) (fun _ h => h.subD) ?_
    refine D.q 5 rfl (by kernel_rfl) (by kernel_rfl) (q_field fo_80_2 rfl) (fun _ h => h.subD) ?_
    refine D.q 6 rfl (by kernel_rfl) (by kernel_rfl) (q_load1D ck_9 rfl) (fun _ h => h.subD) ?_
    refine D.q 7 rfl (by kernel_rfl) (by kernel_rfl) (q_field fo_80_3 rfl) (fun _ h => h.subD) ?_
    refine D.q 8 rfl (by kernel_rfl) (by kernel_rfl) (q_load1D ck_9 rfl) (fun _ h => h.subD) ?_
    refine D.q 9 rfl (by kernel_rfl) (by kernel_rfl) (q_as_rw (q_build st_29 rfl (by repeat (first | exact Fill.nil | (apply Fill.cons; rfl; rfl; rfl) | exact SetN.nil | apply SetN.cons | exact SetAt.here | apply SetAt.there))) (by rfl)) (fun _ h => h.subD) ?_
    refine D.all (rs := [10]) (by kernel_rfl) rfl (DAll.cons rfl (by kernel_rfl) (OpL.callD rfl (h := rw_Put o.z.q1 o.z.c1 o.x.rows ⟨e.key, e.value⟩ hl1)) (.inr (by rintro _ _ ⟨_, ⟨qn, cn, rfl, rfl, hcn⟩, rfl⟩ w h; exact h.subD)) rfl ?_ DAll.nil)
    rintro _ _ ⟨_, ⟨qn, cn, rfl, rfl, hcn⟩, rfl⟩
    refine D.all (rs := [11]) (by kernel_rfl) rfl (DAll.cons rfl (by kernel_rfl) (OpQ.loud (q_nilCheck rfl)) (.inl (by kernel_rfl)) rfl ?_ DAll.nil)
    rintro _ _ ⟨rfl, rfl⟩
    refine D.all (rs := [12]) (by kernel_rfl) rfl (DAll.cons rfl (by kernel_rfl) (OpQ.loud (q_fieldE fo_33_3 rfl)) (.inl (by kernel_rfl)) rfl ?_ DAll.nil)
    rintro _ _ ⟨rfl, rfl⟩
    refine D.all (rs := [13]) (by kernel_rfl) rfl (DAll.consN rfl (by kernel_rfl) (l_storeE (el := o) ⟨{ o.x with rows := putR o.x.rows ⟨e.key, e.value⟩ }, { o.z with q1 := qn, c1 := cn }⟩ ck_30 rfl rfl rfl (by repeat (first | exact Pick.here | apply Pick.there)) ho (by decide) rfl) (.inl (by kernel_rfl)) rfl ?_ DAll.nil)
    rintro _ _ ⟨rfl, rfl⟩
    refine D.done (by kernel_rfl) ?_
    refine K.seq ?_
    refine K.region ?_
    refine KO.q rfl (q_assign rfl) ?_
    refine KO.done ?_
    refine K.ret (fn := Tryz.f54) Tryz.func54 (fun a w hk hs => res1 Tryz.results54 hk rfl) (fun w hs => ?_)
    rw [hr]
    exact ⟨_, [RowO Kd.oz 33 q c (l.set i ⟨{ o.x with rows := putR o.x.rows ⟨e.key, e.value⟩ }, { o.z with q1 := qn, c1 := cn }⟩), NestF (l.set i ⟨{ o.x with rows := putR o.x.rows ⟨e.key, e.value⟩ }, { o.z with q1 := qn, c1 := cn }⟩)], rfl, ⟨{ o.z with q1 := qn, c1 := cn }, rfl, rfl, fun h => ⟨hcn, h.2⟩⟩, row_put (o' := ⟨{ o.x with rows := putR o.x.rows ⟨e.key, e.value⟩ }, { o.z with q1 := qn, c1 := cn }⟩) ((rowO_freeze (e := 29) (cap := cn) (k := Kd.rw) (p := qn) (xs := putR o.x.rows ⟨e.key, e.value⟩) (hs.pick (by repeat (first | exact Pick.here | apply Pick.there)))).fit (M := [RowO Kd.oz 33 q c (l.set i ⟨{ o.x with rows := putR o.x.rows ⟨e.key, e.value⟩ }, { o.z with q1 := qn, c1 := cn }⟩), NestF l] ++ ObL ⟨{ o.x with rows := putR o.x.rows ⟨e.key, e.value⟩ }, { o.z with q1 := qn, c1 := cn }⟩) (by repeat (first | exact Give.nil | (apply Give.perI; (repeat (first | exact List.Mem.head _ | apply List.Mem.tail))) | (apply Give.own; (repeat (first | exact Pick.here | apply Pick.there))))) (by repeat (first | exact Drop.refl | apply Drop.skip)))⟩
  · have hr : tableO o.x e = ({ o.x with rows := (cutR o.x.rows e.key).1 }, if (cutR o.x.rows e.key).2 = true then 0 else 7) := by unfold tableO; rw [if_neg g8]
    refine K.skip <| K.seq ?_
    refine K.region ?_
    refine KO.q rfl (q_assign rfl) ?_
    refine KO.done ?_
    refine K.seq ?_
    refine K.drawS [pv b3 80 e.cells, RowO Kd.oz 33 q c l] (fun _ h => h.subD) mixed ?_
    refine D.q 0 rfl (by kernel_rfl) (by kernel_rfl) (q_move rfl) (fun _ h => h.subD) ?_
    refine D.q 1 rfl (by kernel_rfl) (by kernel_rfl) (q_move rfl) (fun _ h => h.subD) ?_
    refine D.q 2 rfl (by kernel_rfl) (by kernel_rfl) (q_nilCheck rfl) (fun _ h => h.subD) ?_
    refine D.q 3 rfl (by kernel_rfl) (by kernel_rfl) (q_fieldE fo_33_3 rfl) (fun _ h => h.subD) ?_
    refine D.q 4 rfl (by kernel_rfl) (by kernel_rfl) (q_ldE (xs := l) ck_30 rfl isO (by repeat (first | exact List.Mem.head _ | apply List.Mem.tail)) ho rfl) (fun _ h => h.subD) ?_
    refine D.q 5 rfl (by kernel_rfl) (by kernel_rfl) (q_field fo_80_2 rfl) (fun _ h => h.subD) ?_
    refine D.q 6 rfl (by kernel_rfl) (by kernel_rfl) (q_load1D ck_9 rfl) (fun _ h => h.subD) ?_
    refine D.all (rs := [7]) (by kernel_rfl) rfl (DAll.cons rfl (by kernel_rfl) (OpL.callD rfl (h := rw_Cut o.z.q1 o.z.c1 o.x.rows e.key hl1)) (.inr (by rintro _ _ ⟨_, ⟨qn, cn, rfl, rfl, hcn⟩, rfl⟩ w h; exact h.subD)) rfl ?_ DAll.nil)
    rintro _ _ ⟨_, ⟨qn, cn, rfl, rfl, hcn⟩, rfl⟩
    refine D.q 8 rfl (by kernel_rfl) (by kernel_rfl) (q_move rfl) (fun _ h => h.subD) ?_
    refine D.q 9 rfl (by kernel_rfl) (by kernel_rfl) (q_extract rfl rfl) (fun _ h => h.subD) ?_
    refine D.all (rs := [10, 11]) (by kernel_rfl) rfl (DAll.cons rfl (by kernel_rfl) (OpQ.loud (q_extract rfl rfl)) (.inr (by rintro _ _ ⟨rfl, rfl⟩ w h; exact h.subD)) rfl ?_ (DAll.cons rfl (by kernel_rfl) (OpQ.loud (q_nilCheck rfl)) (.inl (by kernel_rfl)) rfl ?_ DAll.nil))
    · rintro _ _ ⟨rfl, rfl⟩
      refine D.all (rs := [11]) (by kernel_rfl) rfl (DAll.cons rfl (by kernel_rfl) (OpQ.loud (q_nilCheck rfl)) (.inl (by kernel_rfl)) rfl ?_ DAll.nil)
      rintro _ _ ⟨rfl, rfl⟩
      refine D.q 12 rfl (by kernel_rfl) (by kernel_rfl) (q_fieldE fo_33_3 rfl) (fun _ h => h.subD) ?_
      refine D.all (rs := [13]) (by kernel_rfl) rfl (DAll.consN rfl (by kernel_rfl) (l_storeE (el := o) ⟨{ o.x with rows := (cutR o.x.rows e.key).1 }, { o.z with q1 := qn, c1 := cn }⟩ ck_30 rfl rfl rfl (by repeat (first | exact Pick.here | apply Pick.there)) ho (by decide) rfl) (.inl (by kernel_rfl)) rfl ?_ DAll.nil)
      rintro _ _ ⟨rfl, rfl⟩
      refine D.all (rs := [14]) (by kernel_rfl) rfl (DAll.cons rfl (by kernel_rfl) (OpQ.loud (q_assign rfl)) (.inl (by kernel_rfl)) rfl ?_ DAll.nil)
      rintro _ _ ⟨rfl, rfl⟩
      refine D.done (by kernel_rfl) ?_
      refine K.seq ?_
      refine K.region ?_
      refine KO.q rfl (q_move rfl) ?_
      refine KO.loud rfl (OpL.callD rfl (h := st_told _ _)) ?_
      rintro _ _ ⟨_, ⟨rfl, rfl⟩, rfl⟩
      refine KO.q rfl (q_assign rfl) ?_
      refine KO.done ?_
      refine K.ret (fn := Tryz.f54) Tryz.func54 (fun a w hk hs => res1 Tryz.results54 hk rfl) (fun w hs => ?_)
      rw [hr]
      exact ⟨_, [RowO Kd.oz 33 q c (l.set i ⟨{ o.x with rows := (cutR o.x.rows e.key).1 }, { o.z with q1 := qn, c1 := cn }⟩), NestF (l.set i ⟨{ o.x with rows := (cutR o.x.rows e.key).1 }, { o.z with q1 := qn, c1 := cn }⟩)], rfl, ⟨{ o.z with q1 := qn, c1 := cn }, rfl, rfl, fun h => ⟨hcn, h.2⟩⟩, row_put (o' := ⟨{ o.x with rows := (cutR o.x.rows e.key).1 }, { o.z with q1 := qn, c1 := cn }⟩) ((rowO_freeze (e := 29) (cap := cn) (k := Kd.rw) (p := qn) (xs := (cutR o.x.rows e.key).1) (hs.pick (by repeat (first | exact Pick.here | apply Pick.there)))).fit (M := [RowO Kd.oz 33 q c (l.set i ⟨{ o.x with rows := (cutR o.x.rows e.key).1 }, { o.z with q1 := qn, c1 := cn }⟩), NestF l] ++ ObL ⟨{ o.x with rows := (cutR o.x.rows e.key).1 }, { o.z with q1 := qn, c1 := cn }⟩) (by repeat (first | exact Give.nil | (apply Give.perI; (repeat (first | exact List.Mem.head _ | apply List.Mem.tail))) | (apply Give.own; (repeat (first | exact Pick.here | apply Pick.there))))) (by repeat (first | exact Drop.refl | apply Drop.skip)))⟩
    · rintro _ _ ⟨rfl, rfl⟩
      refine D.q 12 rfl (by kernel_rfl) (by kernel_rfl) (q_fieldE fo_33_3 rfl) (fun _ h => h.subD) ?_
      refine D.all (rs := [10, 13]) (by kernel_rfl) rfl (DAll.cons rfl (by kernel_rfl) (OpQ.loud (q_extract rfl rfl)) (.inr (by rintro _ _ ⟨rfl, rfl⟩ w h; exact h.subD)) rfl ?_ (DAll.consN rfl (by kernel_rfl) (l_storeE (el := o) ⟨{ o.x with rows := (cutR o.x.rows e.key).1 }, { o.z with q1 := qn, c1 := cn }⟩ ck_30 rfl rfl rfl (by repeat (first | exact Pick.here | apply Pick.there)) ho (by decide) rfl) (.inl (by kernel_rfl)) rfl ?_ DAll.nil))
      · rintro _ _ ⟨rfl, rfl⟩
        refine D.all (rs := [13]) (by kernel_rfl) rfl (DAll.consN rfl (by kernel_rfl) (l_storeE (el := o) ⟨{ o.x with rows := (cutR o.x.rows e.key).1 }, { o.z with q1 := qn, c1 := cn }⟩ ck_30 rfl rfl rfl (by repeat (first | exact Pick.here | apply Pick.there)) ho (by decide) rfl) (.inl (by kernel_rfl)) rfl ?_ DAll.nil)
        rintro _ _ ⟨rfl, rfl⟩
        refine D.all (rs := [14]) (by kernel_rfl) rfl (DAll.cons rfl (by kernel_rfl) (OpQ.loud (q_assign rfl)) (.inl (by kernel_rfl)) rfl ?_ DAll.nil)
        rintro _ _ ⟨rfl, rfl⟩
        refine D.done (by kernel_rfl) ?_
        refine K.seq ?_
        refine K.region ?_
        refine KO.q rfl (q_move rfl) ?_
        refine KO.loud rfl (OpL.callD rfl (h := st_told _ _)) ?_
        rintro _ _ ⟨_, ⟨rfl, rfl⟩, rfl⟩
        refine KO.q rfl (q_assign rfl) ?_
        refine KO.done ?_
        refine K.ret (fn := Tryz.f54) Tryz.func54 (fun a w hk hs => res1 Tryz.results54 hk rfl) (fun w hs => ?_)
        rw [hr]
        exact ⟨_, [RowO Kd.oz 33 q c (l.set i ⟨{ o.x with rows := (cutR o.x.rows e.key).1 }, { o.z with q1 := qn, c1 := cn }⟩), NestF (l.set i ⟨{ o.x with rows := (cutR o.x.rows e.key).1 }, { o.z with q1 := qn, c1 := cn }⟩)], rfl, ⟨{ o.z with q1 := qn, c1 := cn }, rfl, rfl, fun h => ⟨hcn, h.2⟩⟩, row_put (o' := ⟨{ o.x with rows := (cutR o.x.rows e.key).1 }, { o.z with q1 := qn, c1 := cn }⟩) ((rowO_freeze (e := 29) (cap := cn) (k := Kd.rw) (p := qn) (xs := (cutR o.x.rows e.key).1) (hs.pick (by repeat (first | exact Pick.here | apply Pick.there)))).fit (M := [RowO Kd.oz 33 q c (l.set i ⟨{ o.x with rows := (cutR o.x.rows e.key).1 }, { o.z with q1 := qn, c1 := cn }⟩), NestF l] ++ ObL ⟨{ o.x with rows := (cutR o.x.rows e.key).1 }, { o.z with q1 := qn, c1 := cn }⟩) (by repeat (first | exact Give.nil | (apply Give.perI; (repeat (first | exact List.Mem.head _ | apply List.Mem.tail))) | (apply Give.own; (repeat (first | exact Pick.here | apply Pick.there))))) (by repeat (first | exact Drop.refl | apply Drop.skip)))⟩
      · rintro _ _ ⟨rfl, rfl⟩
        refine D.all (rs := [10]) (by kernel_rfl) rfl (DAll.cons rfl (by kernel_rfl) (OpQ.loud (q_extract rfl rfl)) (.inl (by kernel_rfl)) rfl ?_ DAll.nil)
        rintro _ _ ⟨rfl, rfl⟩
        refine D.all (rs := [14]) (by kernel_rfl) rfl (DAll.cons rfl (by kernel_rfl) (OpQ.loud (q_assign rfl)) (.inl (by kernel_rfl)) rfl ?_ DAll.nil)
        rintro _ _ ⟨rfl, rfl⟩
        refine D.done (by kernel_rfl) ?_
        refine K.seq ?_
        refine K.region ?_
        refine KO.q rfl (q_move rfl) ?_
        refine KO.loud rfl (OpL.callD rfl (h := st_told _ _)) ?_
        rintro _ _ ⟨_, ⟨rfl, rfl⟩, rfl⟩
        refine KO.q rfl (q_assign rfl) ?_
        refine KO.done ?_
        refine K.ret (fn := Tryz.f54) Tryz.func54 (fun a w hk hs => res1 Tryz.results54 hk rfl) (fun w hs => ?_)
        rw [hr]
        exact ⟨_, [RowO Kd.oz 33 q c (l.set i ⟨{ o.x with rows := (cutR o.x.rows e.key).1 }, { o.z with q1 := qn, c1 := cn }⟩), NestF (l.set i ⟨{ o.x with rows := (cutR o.x.rows e.key).1 }, { o.z with q1 := qn, c1 := cn }⟩)], rfl, ⟨{ o.z with q1 := qn, c1 := cn }, rfl, rfl, fun h => ⟨hcn, h.2⟩⟩, row_put (o' := ⟨{ o.x with rows := (cutR o.x.rows e.key).1 }, { o.z with q1 := qn, c1 := cn }⟩) ((rowO_freeze (e := 29) (cap := cn) (k := Kd.rw) (p := qn) (xs := (cutR o.x.rows e.key).1) (hs.pick (by repeat (first | exact Pick.here | apply Pick.there)))).fit (M := [RowO Kd.oz 33 q c (l.set i ⟨{ o.x with rows := (cutR o.x.rows e.key).1 }, { o.z with q1 := qn, c1 := cn }⟩), NestF l] ++ ObL ⟨{ o.x with rows := (cutR o.x.rows e.key).1 }, { o.z with q1 := qn, c1 := cn }⟩) (by repeat (first | exact Give.nil | (apply Give.perI; (repeat (first | exact List.Mem.head _ | apply List.Mem.tail))) | (apply Give.own; (repeat (first | exact Pick.here | apply Pick.there))))) (by repeat (first | exact Drop.refl | apply Drop.skip)))⟩
end Go.Proofs.YthnmoiilaaoooaaGreat.L
