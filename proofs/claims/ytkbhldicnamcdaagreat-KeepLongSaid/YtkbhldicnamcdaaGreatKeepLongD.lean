/- A store goes on over any number of changes, image by image, and is opened as it was; no condition. -/
import Derived.Test.YtkbhldicnamcdaaGreatKeepLongC
namespace Go.Proofs.YtkbhldicnamcdaaGreat.L
open Go Go.Proofs
attribute [local irreducible] pv fv pt fz RowF RowO rowP old pure_ elA Rd.int Rd.text Rd.flag Rd.msg Rd.rint Rd.rtext Rd.rflag Rd.rmsg
set_option maxRecDepth 100000
set_option linter.unusedSimpArgs false
set_option linter.unusedVariables false
theorem stO_put {b : Nat} {nx : Int} {q : Option Addr} {c : Nat} {l : List Oz} {i : Nat} {o' : Oz} {ρ : World} {L : List HP} {w : World} (h : St ρ ([RowO Kd.oz 62 q c (l.set i o'), NestF l] ++ ObL o' ++ pv b 47 (Sz.cells ⟨nx, q, c, l⟩) :: L) w) : St ρ (StO b ⟨nx, q, c, l.set i o'⟩ ++ L) w := by
  have h1 := row_put h
  have e : Sz.cells ⟨nx, q, c, l.set i o'⟩ = Sz.cells ⟨nx, q, c, l⟩ := by unfold Sz.cells; rw [List.length_set]
  dsimp only [StO]
  rw [e]
  exact h1.fitD
set_option maxHeartbeats 3200000 in
theorem st_inQueue (b : Nat) (s : Sz) (i : Nat) (o : Oz) (e : Eff) (ho : s.l[i]? = some o) (hl : s.l.length ≤ 1000000000) (hle : ∀ o ∈ s.l, o.le 1000000000) (hs0 : ∀ m ∈ o.x.msgs, -9223372036854775808 ≤ m.retry) : Fn Tryz.prog 140 [.pointer (some ⟨b, 0, none⟩), .pointer (some (elA s.q i 6 0)), .agg e.cells.toArray].toArray (StO b s)
    (fun r post => ∃ z, r = .int .i64 (queueO s.st o.x e).2 ∧ post = StO b ⟨s.next, s.q, s.c, s.l.set i ⟨(queueO s.st o.x e).1, z⟩⟩ ∧ (o.cap → Oz.cap ⟨(queueO s.st o.x e).1, z⟩)) := by
  obtain ⟨nx, q, c, l⟩ := s
  have ho : l[i]? = some o := ho
  have hol := hle o (List.mem_of_getElem? ho)
  have hol' := hol
  obtain ⟨hl1, hl2, hl3⟩ := hol
  have hself : l.set i o = l := by
    obtain ⟨hi, rfl⟩ := List.getElem?_eq_some_iff.1 ho
    exact List.set_getElem_self hi
  refine Fn.enter (N := 74) Tryz.func140 rfl Tryz.ntmps140 tK rfl (fun ρ L => ?_)
  refine K.seq <| K.region <| KO.loud rfl (l_box rfl rfl) ?_
  rintro _ _ ⟨b5, rfl, rfl⟩
  refine KO.q rfl (q_assign rfl) <| KO.done <| K.seq <| K.region <| KO.q rfl (q_assign rfl) <| KO.done <| K.seq <| K.seq <| K.region <| KO.q rfl (q_field fo_58_0 rfl) <| KO.q rfl (q_load1D ck_3 rfl) ?_
  refine KO.done <| K.block <| K.seq <| K.region <| KO.q rfl (q_eq rfl rfl) <| KO.q rfl (q_assign rfl) <| KO.done ?_
  refine K.dcond (s := 10) rfl (fun g10 => ?_) (fun g10 => ?_)
  · have hq2 : (queueO (Sz.st ⟨nx, q, c, l⟩) o.x e).2 = (if nx ≤ e.msg.id ∨ e.msg.claimed = true then 1 else if hasM (Sz.st ⟨nx, q, c, l⟩) e.msg.id = true then 4 else 0) := by
      unfold queueO
      rw [if_pos g10]
      show (if nx ≤ e.msg.id ∨ e.msg.claimed = true then (o.x, 1) else if hasM (Sz.st ⟨nx, q, c, l⟩) e.msg.id = true then (o.x, 4) else ({ o.x with msgs := addM o.x.msgs e.msg }, 0)).2 = _
      split
      · rfl
      · split <;> rfl
    have hq1 : (queueO (Sz.st ⟨nx, q, c, l⟩) o.x e).1 = (if nx ≤ e.msg.id ∨ e.msg.claimed = true then o.x else if hasM (Sz.st ⟨nx, q, c, l⟩) e.msg.id = true then o.x else { o.x with msgs := addM o.x.msgs e.msg }) := by
      unfold queueO
      rw [if_pos g10]
      show (if nx ≤ e.msg.id ∨ e.msg.claimed = true then (o.x, 1) else if hasM (Sz.st ⟨nx, q, c, l⟩) e.msg.id = true then (o.x, 4) else ({ o.x with msgs := addM o.x.msgs e.msg }, 0)).1 = _
      split
      · rfl
      · split <;> rfl
    refine K.seq <| K.region <| KO.q rfl (q_move rfl) <| KO.q rfl (q_move rfl) <| KO.q rfl (q_field fo_58_7 rfl) <| KO.q rfl (q_ldPS sub_eff_msg msg_sz ck_56 rfl tM) <| KO.loud rfl (OpL.callD rfl (h := st_add b ⟨nx, q, c, l⟩ i o e.msg ho hl hle)) ?_
    rintro _ _ ⟨_, ⟨z, rfl, rfl, hz⟩, rfl⟩
    refine KO.q rfl (q_assign rfl) <| KO.done ?_
    refine kr1 Tryz.func140 Tryz.results140 rfl (fun w hs => ?_)
    rw [hq2, hq1]
    exact ⟨_, _, rfl, ⟨z, rfl, rfl, hz⟩, hs.fitD⟩
  · refine K.seq <| K.region <| KO.q rfl (q_eq rfl rfl) <| KO.q rfl (q_assign rfl) <| KO.done ?_
    refine K.dcond (s := 17) rfl (fun g17 => ?_) (fun g17 => ?_)
    · have hr : queueO (Sz.st ⟨nx, q, c, l⟩) o.x e = ({ o.x with msgs := (cutM o.x.msgs e.n).1 }, if (cutM o.x.msgs e.n).2 = true then 0 else 7) := by unfold queueO; rw [if_neg g10, if_pos g17]
      refine K.st (fun w h => nestF_at (l := l) tM (List.mem_of_getElem? ho) h) ?_
      refine K.drawS [pv b5 58 e.cells, RowO Kd.oz 62 q c l] (fun _ h => h.subD) mixed <| dq 0 rfl (q_move rfl) <| dq 1 rfl (q_move rfl) <| dq 2 rfl (q_nilCheck rfl) <| dq 3 rfl (q_fieldE fo_62_4 rfl) <| dq 4 rfl (q_ldE (xs := l) ck_60 rfl isO tM ho rfl) <| dq 5 rfl (q_field fo_58_4 rfl) <| dq 6 rfl (q_load1D ck_3 rfl) <| dq1 7 rfl (OpL.callD rfl (h := qu_Cut o.z.q2 o.z.c2 o.x.msgs e.n hl2)) (.inr (by rintro _ _ ⟨_, ⟨qn, cn, rfl, rfl, hcn⟩, rfl⟩ w h; exact h.subD)) ?_
      rintro _ _ ⟨_, ⟨qn, cn, rfl, rfl, hcn⟩, rfl⟩
      refine dq 8 rfl (q_move rfl) <| dq 9 rfl (q_extract rfl rfl) ?_
      refine D.all (rs := [10, 11]) tK rfl (DAll.cons rfl tK (OpQ.loud (q_extract rfl rfl)) (.inr (by rintro _ _ ⟨rfl, rfl⟩ w h; exact h.subD)) rfl ?_ (DAll.cons rfl tK (OpQ.loud (q_nilCheck rfl)) (.inl tK) rfl ?_ DAll.nil))
      · rintro _ _ ⟨rfl, rfl⟩
        refine dq1 11 rfl (OpQ.loud (q_nilCheck rfl)) (.inl tK) ?_
        rintro _ _ ⟨rfl, rfl⟩
        refine dq 12 rfl (q_fieldE fo_62_4 rfl) <| dq1N 13 rfl (l_storeE (el := o) ⟨{ o.x with msgs := (cutM o.x.msgs e.n).1 }, { o.z with q2 := qn, c2 := cn }⟩ ck_60 rfl rfl rfl tP ho tD rfl) (.inl tK) ?_
        rintro _ _ ⟨rfl, rfl⟩
        refine dq1 14 rfl (OpQ.loud (q_assign rfl)) (.inl tK) ?_
        rintro _ _ ⟨rfl, rfl⟩
        refine D.done tK <| K.inBlock <| K.seq <| K.region <| KO.q rfl (q_move rfl) <| KO.loud rfl (OpL.callD rfl (h := st_told _ _)) ?_
        rintro _ _ ⟨_, ⟨rfl, rfl⟩, rfl⟩
        refine KO.q rfl (q_assign rfl) <| KO.done ?_
        refine kr1 Tryz.func140 Tryz.results140 rfl (fun w hs => ?_)
        rw [hr]
        exact ⟨_, StO b ⟨nx, q, c, l.set i ⟨{ o.x with msgs := (cutM o.x.msgs e.n).1 }, { o.z with q2 := qn, c2 := cn }⟩⟩, rfl, ⟨{ o.z with q2 := qn, c2 := cn }, rfl, rfl, fun h => ⟨h.1, hcn, h.2.2⟩⟩, stO_put (o' := ⟨{ o.x with msgs := (cutM o.x.msgs e.n).1 }, { o.z with q2 := qn, c2 := cn }⟩) ((rowO_freeze (e := 56) (cap := cn) (k := Kd.msg) (p := qn) (xs := (cutM o.x.msgs e.n).1) (hs.pick tP)).fit (M := [RowO Kd.oz 62 q c (l.set i ⟨{ o.x with msgs := (cutM o.x.msgs e.n).1 }, { o.z with q2 := qn, c2 := cn }⟩), NestF l] ++ ObL ⟨{ o.x with msgs := (cutM o.x.msgs e.n).1 }, { o.z with q2 := qn, c2 := cn }⟩ ++ [pv b 47 (Sz.cells ⟨nx, q, c, l⟩)]) tG (by repeat (first | exact Drop.refl | apply Drop.skip)))⟩
      · rintro _ _ ⟨rfl, rfl⟩
        refine dq 12 rfl (q_fieldE fo_62_4 rfl) ?_
        refine D.all (rs := [10, 13]) tK rfl (DAll.cons rfl tK (OpQ.loud (q_extract rfl rfl)) (.inr (by rintro _ _ ⟨rfl, rfl⟩ w h; exact h.subD)) rfl ?_ (DAll.consN rfl tK (l_storeE (el := o) ⟨{ o.x with msgs := (cutM o.x.msgs e.n).1 }, { o.z with q2 := qn, c2 := cn }⟩ ck_60 rfl rfl rfl tP ho tD rfl) (.inl tK) rfl ?_ DAll.nil))
        · rintro _ _ ⟨rfl, rfl⟩
          refine dq1N 13 rfl (l_storeE (el := o) ⟨{ o.x with msgs := (cutM o.x.msgs e.n).1 }, { o.z with q2 := qn, c2 := cn }⟩ ck_60 rfl rfl rfl tP ho tD rfl) (.inl tK) ?_
          rintro _ _ ⟨rfl, rfl⟩
          refine dq1 14 rfl (OpQ.loud (q_assign rfl)) (.inl tK) ?_
          rintro _ _ ⟨rfl, rfl⟩
          refine D.done tK <| K.inBlock <| K.seq <| K.region <| KO.q rfl (q_move rfl) <| KO.loud rfl (OpL.callD rfl (h := st_told _ _)) ?_
          rintro _ _ ⟨_, ⟨rfl, rfl⟩, rfl⟩
          refine KO.q rfl (q_assign rfl) <| KO.done ?_
          refine kr1 Tryz.func140 Tryz.results140 rfl (fun w hs => ?_)
          rw [hr]
          exact ⟨_, StO b ⟨nx, q, c, l.set i ⟨{ o.x with msgs := (cutM o.x.msgs e.n).1 }, { o.z with q2 := qn, c2 := cn }⟩⟩, rfl, ⟨{ o.z with q2 := qn, c2 := cn }, rfl, rfl, fun h => ⟨h.1, hcn, h.2.2⟩⟩, stO_put (o' := ⟨{ o.x with msgs := (cutM o.x.msgs e.n).1 }, { o.z with q2 := qn, c2 := cn }⟩) ((rowO_freeze (e := 56) (cap := cn) (k := Kd.msg) (p := qn) (xs := (cutM o.x.msgs e.n).1) (hs.pick tP)).fit (M := [RowO Kd.oz 62 q c (l.set i ⟨{ o.x with msgs := (cutM o.x.msgs e.n).1 }, { o.z with q2 := qn, c2 := cn }⟩), NestF l] ++ ObL ⟨{ o.x with msgs := (cutM o.x.msgs e.n).1 }, { o.z with q2 := qn, c2 := cn }⟩ ++ [pv b 47 (Sz.cells ⟨nx, q, c, l⟩)]) tG (by repeat (first | exact Drop.refl | apply Drop.skip)))⟩
        · rintro _ _ ⟨rfl, rfl⟩
          refine dq1 10 rfl (OpQ.loud (q_extract rfl rfl)) (.inl tK) ?_
          rintro _ _ ⟨rfl, rfl⟩
          refine dq1 14 rfl (OpQ.loud (q_assign rfl)) (.inl tK) ?_
          rintro _ _ ⟨rfl, rfl⟩
          refine D.done tK <| K.inBlock <| K.seq <| K.region <| KO.q rfl (q_move rfl) <| KO.loud rfl (OpL.callD rfl (h := st_told _ _)) ?_
          rintro _ _ ⟨_, ⟨rfl, rfl⟩, rfl⟩
          refine KO.q rfl (q_assign rfl) <| KO.done ?_
          refine kr1 Tryz.func140 Tryz.results140 rfl (fun w hs => ?_)
          rw [hr]
          exact ⟨_, StO b ⟨nx, q, c, l.set i ⟨{ o.x with msgs := (cutM o.x.msgs e.n).1 }, { o.z with q2 := qn, c2 := cn }⟩⟩, rfl, ⟨{ o.z with q2 := qn, c2 := cn }, rfl, rfl, fun h => ⟨h.1, hcn, h.2.2⟩⟩, stO_put (o' := ⟨{ o.x with msgs := (cutM o.x.msgs e.n).1 }, { o.z with q2 := qn, c2 := cn }⟩) ((rowO_freeze (e := 56) (cap := cn) (k := Kd.msg) (p := qn) (xs := (cutM o.x.msgs e.n).1) (hs.pick tP)).fit (M := [RowO Kd.oz 62 q c (l.set i ⟨{ o.x with msgs := (cutM o.x.msgs e.n).1 }, { o.z with q2 := qn, c2 := cn }⟩), NestF l] ++ ObL ⟨{ o.x with msgs := (cutM o.x.msgs e.n).1 }, { o.z with q2 := qn, c2 := cn }⟩ ++ [pv b 47 (Sz.cells ⟨nx, q, c, l⟩)]) tG (by repeat (first | exact Drop.refl | apply Drop.skip)))⟩
    · refine K.seq <| K.region <| KO.q rfl (q_eq rfl rfl) <| KO.q rfl (q_assign rfl) <| KO.done ?_
      refine K.dcond (s := 32) rfl (fun g32 => ?_) (fun g32 => ?_)
      · refine K.st (fun w h => nestF_at (l := l) tM (List.mem_of_getElem? ho) h) ?_
        refine K.seq <| K.seq <| K.drawS [pv b5 58 e.cells, RowO Kd.oz 62 q c l] (fun _ h => h.subD) mixed <| dq 0 rfl (q_move rfl) <| dq 1 rfl (q_nilCheck rfl) <| dq 2 rfl (q_fieldE fo_62_4 rfl) <| dq 3 rfl (q_ldE (xs := l) ck_60 rfl isO tM ho rfl) <| dq 4 rfl (q_field fo_58_4 rfl) <| dq 5 rfl (q_load1D ck_3 rfl) <| dq1 6 rfl (OpL.callD rfl (h := qu_Find (RowF Kd.msg o.z.q2 o.x.msgs) o.z.q2 o.z.c2 o.x.msgs e.n isF hl2)) (.inr (by rintro _ _ ⟨_, ⟨rfl, rfl⟩, rfl⟩ w h; exact h.subD)) ?_
        rintro _ _ ⟨_, ⟨rfl, rfl⟩, rfl⟩
        refine dq 7 rfl (q_lt rfl rfl) <| D.done tK ?_
        refine K.dcond (s := 41) rfl (fun g41 => ?_) (fun g41 => ?_)
        · have hr : queueO (Sz.st ⟨nx, q, c, l⟩) o.x e = (o.x, 7) := by unfold queueO; rw [if_neg g10, if_neg g17, if_pos g32, if_pos g41]
          refine K.seq <| K.region <| KO.q rfl (q_assign rfl) <| KO.done ?_
          refine kr1 Tryz.func140 Tryz.results140 rfl (fun w hs => ?_)
          rw [hr]
          exact ⟨_, StO b ⟨nx, q, c, l⟩, rfl, ⟨o.z, rfl, by rw [show (⟨o.x, o.z⟩ : Oz) = o from rfl, hself], fun h => h⟩, hs.fitD⟩
        · have hr : queueO (Sz.st ⟨nx, q, c, l⟩) o.x e = ({ o.x with msgs := (claimM o.x.msgs e.n true).1 }, if (claimM o.x.msgs e.n true).2 = true then 0 else 2) := by unfold queueO; rw [if_neg g10, if_neg g17, if_pos g32, if_neg g41]
          refine K.skip <| K.seq <| K.drawS [pv b5 58 e.cells, RowO Kd.oz 62 q c l] (fun _ h => h.subD) mixed <| dq 0 rfl (q_move rfl) <| dq 1 rfl (q_move rfl) <| dq 2 rfl (q_nilCheck rfl) <| dq 3 rfl (q_fieldE fo_62_4 rfl) <| dq 4 rfl (q_ldE (xs := l) ck_60 rfl isO tM ho rfl) <| dq 5 rfl (q_field fo_58_4 rfl) <| dq 6 rfl (q_load1D ck_3 rfl) <| dq1 7 rfl (OpL.callD rfl (h := qu_Claim o.z.q2 o.z.c2 o.x.msgs e.n true hl2)) (.inr (by rintro _ _ ⟨_, ⟨qn, cn, rfl, rfl, hcn⟩, rfl⟩ w h; exact h.subD)) ?_
          rintro _ _ ⟨_, ⟨qn, cn, rfl, rfl, hcn⟩, rfl⟩
          refine dq 8 rfl (q_move rfl) <| dq 9 rfl (q_extract rfl rfl) ?_
          refine D.all (rs := [10, 11]) tK rfl (DAll.cons rfl tK (OpQ.loud (q_extract rfl rfl)) (.inr (by rintro _ _ ⟨rfl, rfl⟩ w h; exact h.subD)) rfl ?_ (DAll.cons rfl tK (OpQ.loud (q_nilCheck rfl)) (.inl tK) rfl ?_ DAll.nil))
          · rintro _ _ ⟨rfl, rfl⟩
            refine dq1 11 rfl (OpQ.loud (q_nilCheck rfl)) (.inl tK) ?_
            rintro _ _ ⟨rfl, rfl⟩
            refine dq 12 rfl (q_fieldE fo_62_4 rfl) <| dq1N 13 rfl (l_storeE (el := o) ⟨{ o.x with msgs := (claimM o.x.msgs e.n true).1 }, { o.z with q2 := qn, c2 := cn }⟩ ck_60 rfl rfl rfl tP ho tD rfl) (.inl tK) ?_
            rintro _ _ ⟨rfl, rfl⟩
            refine dq1 14 rfl (OpQ.loud (q_assign rfl)) (.inl tK) ?_
            rintro _ _ ⟨rfl, rfl⟩
            refine D.done tK <| K.seq <| K.region <| KO.q rfl (q_move rfl) <| KO.loud rfl (OpL.callD rfl (h := st_told _ _)) ?_
            rintro _ _ ⟨_, ⟨rfl, rfl⟩, rfl⟩
            refine KO.q rfl (q_assign rfl) <| KO.done ?_
            refine kr1 Tryz.func140 Tryz.results140 rfl (fun w hs => ?_)
            rw [hr]
            exact ⟨_, StO b ⟨nx, q, c, l.set i ⟨{ o.x with msgs := (claimM o.x.msgs e.n true).1 }, { o.z with q2 := qn, c2 := cn }⟩⟩, rfl, ⟨{ o.z with q2 := qn, c2 := cn }, rfl, rfl, fun h => ⟨h.1, hcn, h.2.2⟩⟩, stO_put (o' := ⟨{ o.x with msgs := (claimM o.x.msgs e.n true).1 }, { o.z with q2 := qn, c2 := cn }⟩) ((rowO_freeze (e := 56) (cap := cn) (k := Kd.msg) (p := qn) (xs := (claimM o.x.msgs e.n true).1) (hs.pick tP)).fit (M := [RowO Kd.oz 62 q c (l.set i ⟨{ o.x with msgs := (claimM o.x.msgs e.n true).1 }, { o.z with q2 := qn, c2 := cn }⟩), NestF l] ++ ObL ⟨{ o.x with msgs := (claimM o.x.msgs e.n true).1 }, { o.z with q2 := qn, c2 := cn }⟩ ++ [pv b 47 (Sz.cells ⟨nx, q, c, l⟩)]) tG (by repeat (first | exact Drop.refl | apply Drop.skip)))⟩
          · rintro _ _ ⟨rfl, rfl⟩
            refine dq 12 rfl (q_fieldE fo_62_4 rfl) ?_
            refine D.all (rs := [10, 13]) tK rfl (DAll.cons rfl tK (OpQ.loud (q_extract rfl rfl)) (.inr (by rintro _ _ ⟨rfl, rfl⟩ w h; exact h.subD)) rfl ?_ (DAll.consN rfl tK (l_storeE (el := o) ⟨{ o.x with msgs := (claimM o.x.msgs e.n true).1 }, { o.z with q2 := qn, c2 := cn }⟩ ck_60 rfl rfl rfl tP ho tD rfl) (.inl tK) rfl ?_ DAll.nil))
            · rintro _ _ ⟨rfl, rfl⟩
              refine dq1N 13 rfl (l_storeE (el := o) ⟨{ o.x with msgs := (claimM o.x.msgs e.n true).1 }, { o.z with q2 := qn, c2 := cn }⟩ ck_60 rfl rfl rfl tP ho tD rfl) (.inl tK) ?_
              rintro _ _ ⟨rfl, rfl⟩
              refine dq1 14 rfl (OpQ.loud (q_assign rfl)) (.inl tK) ?_
              rintro _ _ ⟨rfl, rfl⟩
              refine D.done tK <| K.seq <| K.region <| KO.q rfl (q_move rfl) <| KO.loud rfl (OpL.callD rfl (h := st_told _ _)) ?_
              rintro _ _ ⟨_, ⟨rfl, rfl⟩, rfl⟩
              refine KO.q rfl (q_assign rfl) <| KO.done ?_
              refine kr1 Tryz.func140 Tryz.results140 rfl (fun w hs => ?_)
              rw [hr]
              exact ⟨_, StO b ⟨nx, q, c, l.set i ⟨{ o.x with msgs := (claimM o.x.msgs e.n true).1 }, { o.z with q2 := qn, c2 := cn }⟩⟩, rfl, ⟨{ o.z with q2 := qn, c2 := cn }, rfl, rfl, fun h => ⟨h.1, hcn, h.2.2⟩⟩, stO_put (o' := ⟨{ o.x with msgs := (claimM o.x.msgs e.n true).1 }, { o.z with q2 := qn, c2 := cn }⟩) ((rowO_freeze (e := 56) (cap := cn) (k := Kd.msg) (p := qn) (xs := (claimM o.x.msgs e.n true).1) (hs.pick tP)).fit (M := [RowO Kd.oz 62 q c (l.set i ⟨{ o.x with msgs := (claimM o.x.msgs e.n true).1 }, { o.z with q2 := qn, c2 := cn }⟩), NestF l] ++ ObL ⟨{ o.x with msgs := (claimM o.x.msgs e.n true).1 }, { o.z with q2 := qn, c2 := cn }⟩ ++ [pv b 47 (Sz.cells ⟨nx, q, c, l⟩)]) tG (by repeat (first | exact Drop.refl | apply Drop.skip)))⟩
            · rintro _ _ ⟨rfl, rfl⟩
              refine dq1 10 rfl (OpQ.loud (q_extract rfl rfl)) (.inl tK) ?_
              rintro _ _ ⟨rfl, rfl⟩
              refine dq1 14 rfl (OpQ.loud (q_assign rfl)) (.inl tK) ?_
              rintro _ _ ⟨rfl, rfl⟩
              refine D.done tK <| K.seq <| K.region <| KO.q rfl (q_move rfl) <| KO.loud rfl (OpL.callD rfl (h := st_told _ _)) ?_
              rintro _ _ ⟨_, ⟨rfl, rfl⟩, rfl⟩
              refine KO.q rfl (q_assign rfl) <| KO.done ?_
              refine kr1 Tryz.func140 Tryz.results140 rfl (fun w hs => ?_)
              rw [hr]
              exact ⟨_, StO b ⟨nx, q, c, l.set i ⟨{ o.x with msgs := (claimM o.x.msgs e.n true).1 }, { o.z with q2 := qn, c2 := cn }⟩⟩, rfl, ⟨{ o.z with q2 := qn, c2 := cn }, rfl, rfl, fun h => ⟨h.1, hcn, h.2.2⟩⟩, stO_put (o' := ⟨{ o.x with msgs := (claimM o.x.msgs e.n true).1 }, { o.z with q2 := qn, c2 := cn }⟩) ((rowO_freeze (e := 56) (cap := cn) (k := Kd.msg) (p := qn) (xs := (claimM o.x.msgs e.n true).1) (hs.pick tP)).fit (M := [RowO Kd.oz 62 q c (l.set i ⟨{ o.x with msgs := (claimM o.x.msgs e.n true).1 }, { o.z with q2 := qn, c2 := cn }⟩), NestF l] ++ ObL ⟨{ o.x with msgs := (claimM o.x.msgs e.n true).1 }, { o.z with q2 := qn, c2 := cn }⟩ ++ [pv b 47 (Sz.cells ⟨nx, q, c, l⟩)]) tG (by repeat (first | exact Drop.refl | apply Drop.skip)))⟩
      · refine K.seq <| K.region <| KO.q rfl (q_eq rfl rfl) <| KO.q rfl (q_assign rfl) <| KO.done ?_
        refine K.dcond (s := 57) rfl (fun g57 => ?_) (fun g57 => ?_)
        · have hr : queueO (Sz.st ⟨nx, q, c, l⟩) o.x e = ((freeO o.x e.n e.tried).1, if (freeO o.x e.n e.tried).2 = true then 0 else 7) := by unfold queueO; rw [if_neg g10, if_neg g17, if_neg g32, if_pos g57]
          refine K.st (fun w h => nestF_at (l := l) tM (List.mem_of_getElem? ho) h) ?_
          refine K.drawS [pv b5 58 e.cells, RowO Kd.oz 62 q c l] (fun _ h => h.subD) mixed <| dq 0 rfl (q_move rfl) <| dq 1 rfl (q_move rfl) <| dq 2 rfl (q_nilCheck rfl) <| dq 3 rfl (q_ldEN (xs := l) (enc := Oz.cells) ck_62 rfl isO tM ho) <| dq 4 rfl (q_field fo_58_4 rfl) <| dq 5 rfl (q_load1D ck_3 rfl) <| dq 6 rfl (q_field fo_58_6 rfl) <| dq 7 rfl (q_load1D ck_4 rfl) <| dq1 8 rfl (OpL.callD rfl (h := dd_Free o e.n e.tried hol' hs0)) (.inr (by rintro _ _ ⟨_, ⟨z, rfl, rfl, hz⟩, rfl⟩ w h; exact h.subD)) ?_
          rintro _ _ ⟨_, ⟨z, rfl, rfl, hz⟩, rfl⟩
          refine dq 9 rfl (q_move rfl) <| dq 10 rfl (q_extract rfl rfl) ?_
          refine D.all (rs := [11, 12]) tK rfl (DAll.cons rfl tK (OpQ.loud (q_extract rfl rfl)) (.inr (by rintro _ _ ⟨rfl, rfl⟩ w h; exact h.subD)) rfl ?_ (DAll.cons rfl tK (OpQ.loud (q_nilCheck rfl)) (.inl tK) rfl ?_ DAll.nil))
          · rintro _ _ ⟨rfl, rfl⟩
            refine dq1 12 rfl (OpQ.loud (q_nilCheck rfl)) (.inl tK) ?_
            rintro _ _ ⟨rfl, rfl⟩
            refine dq1N 13 rfl (l_storeEN ⟨(freeO o.x e.n e.tried).1, z⟩ ck_62 rfl rfl tP (List.getElem?_eq_some_iff.1 ho).1) (.inl tK) ?_
            rintro _ _ ⟨rfl, rfl⟩
            refine dq1 14 rfl (OpQ.loud (q_assign rfl)) (.inl tK) ?_
            rintro _ _ ⟨rfl, rfl⟩
            refine D.done tK <| K.inBlock <| K.seq <| K.region <| KO.q rfl (q_move rfl) <| KO.loud rfl (OpL.callD rfl (h := st_told _ _)) ?_
            rintro _ _ ⟨_, ⟨rfl, rfl⟩, rfl⟩
            refine KO.q rfl (q_assign rfl) <| KO.done ?_
            refine kr1 Tryz.func140 Tryz.results140 rfl (fun w hs => ?_)
            rw [hr]
            exact ⟨_, StO b ⟨nx, q, c, l.set i ⟨(freeO o.x e.n e.tried).1, z⟩⟩, rfl, ⟨z, rfl, rfl, fun _ => hz⟩, stO_put (o' := ⟨(freeO o.x e.n e.tried).1, z⟩) (hs.fit (M := [RowO Kd.oz 62 q c (l.set i ⟨(freeO o.x e.n e.tried).1, z⟩), NestF l] ++ ObL ⟨(freeO o.x e.n e.tried).1, z⟩ ++ [pv b 47 (Sz.cells ⟨nx, q, c, l⟩)]) tG (by repeat (first | exact Drop.refl | apply Drop.skip)))⟩
          · rintro _ _ ⟨rfl, rfl⟩
            refine D.all (rs := [11, 13]) tK rfl (DAll.cons rfl tK (OpQ.loud (q_extract rfl rfl)) (.inl tK) rfl ?_ (DAll.consN rfl tK (l_storeEN ⟨(freeO o.x e.n e.tried).1, z⟩ ck_62 rfl rfl tP (List.getElem?_eq_some_iff.1 ho).1) (.inl tK) rfl ?_ DAll.nil))
            · rintro _ _ ⟨rfl, rfl⟩
              refine dq1N 13 rfl (l_storeEN ⟨(freeO o.x e.n e.tried).1, z⟩ ck_62 rfl rfl tP (List.getElem?_eq_some_iff.1 ho).1) (.inl tK) ?_
              rintro _ _ ⟨rfl, rfl⟩
              refine dq1 14 rfl (OpQ.loud (q_assign rfl)) (.inl tK) ?_
              rintro _ _ ⟨rfl, rfl⟩
              refine D.done tK <| K.inBlock <| K.seq <| K.region <| KO.q rfl (q_move rfl) <| KO.loud rfl (OpL.callD rfl (h := st_told _ _)) ?_
              rintro _ _ ⟨_, ⟨rfl, rfl⟩, rfl⟩
              refine KO.q rfl (q_assign rfl) <| KO.done ?_
              refine kr1 Tryz.func140 Tryz.results140 rfl (fun w hs => ?_)
              rw [hr]
              exact ⟨_, StO b ⟨nx, q, c, l.set i ⟨(freeO o.x e.n e.tried).1, z⟩⟩, rfl, ⟨z, rfl, rfl, fun _ => hz⟩, stO_put (o' := ⟨(freeO o.x e.n e.tried).1, z⟩) (hs.fit (M := [RowO Kd.oz 62 q c (l.set i ⟨(freeO o.x e.n e.tried).1, z⟩), NestF l] ++ ObL ⟨(freeO o.x e.n e.tried).1, z⟩ ++ [pv b 47 (Sz.cells ⟨nx, q, c, l⟩)]) tG (by repeat (first | exact Drop.refl | apply Drop.skip)))⟩
            · rintro _ _ ⟨rfl, rfl⟩
              refine dq1 11 rfl (OpQ.loud (q_extract rfl rfl)) (.inl tK) ?_
              rintro _ _ ⟨rfl, rfl⟩
              refine dq1 14 rfl (OpQ.loud (q_assign rfl)) (.inl tK) ?_
              rintro _ _ ⟨rfl, rfl⟩
              refine D.done tK <| K.inBlock <| K.seq <| K.region <| KO.q rfl (q_move rfl) <| KO.loud rfl (OpL.callD rfl (h := st_told _ _)) ?_
              rintro _ _ ⟨_, ⟨rfl, rfl⟩, rfl⟩
              refine KO.q rfl (q_assign rfl) <| KO.done ?_
              refine kr1 Tryz.func140 Tryz.results140 rfl (fun w hs => ?_)
              rw [hr]
              exact ⟨_, StO b ⟨nx, q, c, l.set i ⟨(freeO o.x e.n e.tried).1, z⟩⟩, rfl, ⟨z, rfl, rfl, fun _ => hz⟩, stO_put (o' := ⟨(freeO o.x e.n e.tried).1, z⟩) (hs.fit (M := [RowO Kd.oz 62 q c (l.set i ⟨(freeO o.x e.n e.tried).1, z⟩), NestF l] ++ ObL ⟨(freeO o.x e.n e.tried).1, z⟩ ++ [pv b 47 (Sz.cells ⟨nx, q, c, l⟩)]) tG (by repeat (first | exact Drop.refl | apply Drop.skip)))⟩
        · have hr : queueO (Sz.st ⟨nx, q, c, l⟩) o.x e = (o.x, 7) := by unfold queueO; rw [if_neg g10, if_neg g17, if_neg g32, if_neg g57]
          refine K.skip <| K.inBlock <| K.seq <| K.region <| KO.q rfl (q_move rfl) <| KO.loud rfl (OpL.callD rfl (h := st_told _ _)) ?_
          rintro _ _ ⟨_, ⟨rfl, rfl⟩, rfl⟩
          refine KO.q rfl (q_assign rfl) <| KO.done ?_
          refine kr1 Tryz.func140 Tryz.results140 rfl (fun w hs => ?_)
          rw [hr]
          exact ⟨_, StO b ⟨nx, q, c, l⟩, rfl, ⟨o.z, rfl, by rw [show (⟨o.x, o.z⟩ : Oz) = o from rfl, hself], fun h => h⟩, hs.fitD⟩
theorem findO_nat {s : Sz} {name : ByteArray} (h : ¬ findO s.st name < 0) : ∃ (i : Nat) (o : Oz), s.l[i]? = some o ∧ findO s.st name = (i : Int) ∧ s.st.objs.getD (findO s.st name).toNat Ob.zero = o.x := by
  have hm : findO s.st name = idxP (fun o : Oz => decide (o.x.name = name)) s.l := idxP_map _ _ _
  rw [hm] at h
  obtain ⟨i, o, ho, hi, _⟩ := idxP_nat h
  refine ⟨i, o, ho, hm.trans hi, ?_⟩
  rw [hm, hi, Int.toNat_natCast]
  refine gd_at ?_
  show (s.l.map (·.x))[i]? = _
  rw [List.getElem?_map, ho]
  rfl
set_option maxHeartbeats 3200000 in
theorem st_do (b : Nat) (s : Sz) (e : Eff) (hc : s.l.length ≤ s.c) (hl : s.l.length ≤ 1000000000) (hle : ∀ o ∈ s.l, o.le 1000000000) (hcap : ∀ o ∈ s.l, o.cap) (hs0 : ∀ o ∈ s.l, ∀ m ∈ o.x.msgs, -9223372036854775808 ≤ m.retry) : Fn Tryz.prog 72 [.pointer (some ⟨b, 0, none⟩), .agg e.cells.toArray].toArray (StO b s)
    (fun r post => ∃ s' : Sz, r = .int .i64 (doS s.st e).2 ∧ s'.st = (doS s.st e).1 ∧ post = StO b s' ∧ s'.l.length ≤ s'.c ∧ ∀ o ∈ s'.l, o.cap) := by
  refine Fn.enter (N := 64) Tryz.func72 rfl Tryz.ntmps72 tK rfl (fun ρ L => ?_)
  refine K.seq <| K.region <| KO.loud rfl (l_box rfl rfl) ?_
  rintro _ _ ⟨b3, rfl, rfl⟩
  refine KO.q rfl (q_assign rfl) <| KO.done <| K.seq <| K.block <| K.seq <| K.region <| KO.q rfl (q_loadN ck_58 rfl rfl tC) <| KO.loud rfl (OpL.callD rfl (h := eff_Right e)) ?_
  rintro _ _ ⟨_, ⟨rfl, rfl⟩, rfl⟩
  refine KO.q rfl (q_not rfl) <| KO.q rfl (q_assign rfl) <| KO.done ?_
  refine K.bcond (s := 8) rfl (fun g8 => ?_) (fun g8 => ?_)
  · have her : e.right = false := by simpa using g8
    have hr : doS s.st e = (s.st, 1) := by unfold doS; rw [if_pos her]
    refine K.seq <| K.region <| KO.q rfl (q_assign rfl) <| KO.done ?_
    refine kr1 Tryz.func72 Tryz.results72 rfl (fun w hs => ?_)
    rw [hr]
    exact ⟨_, StO b s, rfl, ⟨s, rfl, rfl, rfl, hc, hcap⟩, hs.fitD⟩
  · have her : ¬ e.right = false := by simpa using g8
    refine K.seq <| K.region <| KO.q rfl (q_field fo_58_0 rfl) <| KO.q rfl (q_load1D ck_3 rfl) <| KO.q rfl (q_eq rfl rfl) <| KO.q rfl (q_assign rfl) <| KO.done ?_
    refine K.dcond (s := 12) rfl (fun g12 => ?_) (fun g12 => ?_)
    · have hr : doS s.st e = makeS s.st e := by unfold doS; rw [if_neg her, if_pos g12]
      refine K.seq <| K.region <| KO.q rfl (q_move rfl) <| KO.q rfl (q_loadN ck_58 rfl rfl tC) <| KO.loud rfl (OpL.callD rfl (h := st_make1 b s e hc hl hcap)) ?_
      rintro _ _ ⟨_, ⟨s', rfl, hs1, rfl, hs2, hs3⟩, rfl⟩
      refine KO.q rfl (q_assign rfl) <| KO.done ?_
      refine kr1 Tryz.func72 Tryz.results72 rfl (fun w hs => ?_)
      rw [hr]
      exact ⟨_, StO b s', rfl, ⟨s', rfl, hs1, rfl, hs2, hs3⟩, hs.fitD⟩
    · refine K.seq <| K.region <| KO.q rfl (q_field fo_58_0 rfl) <| KO.q rfl (q_load1D ck_3 rfl) <| KO.q rfl (q_eq rfl rfl) <| KO.q rfl (q_assign rfl) <| KO.done ?_
      refine K.dcond (s := 19) rfl (fun g19 => ?_) (fun g19 => ?_)
      · have hr : doS s.st e = nextS s.st e.n := by unfold doS; rw [if_neg her, if_neg g12, if_pos g19]
        refine K.seq <| K.region <| KO.q rfl (q_move rfl) <| KO.q rfl (q_field fo_58_4 rfl) <| KO.q rfl (q_load1D ck_3 rfl) <| KO.loud rfl (OpL.callD rfl (h := st_next b s e.n)) ?_
        rintro _ _ ⟨_, ⟨s', rfl, hs1, hq', hc', hl', rfl⟩, rfl⟩
        refine KO.q rfl (q_assign rfl) <| KO.done ?_
        refine kr1 Tryz.func72 Tryz.results72 rfl (fun w hs => ?_)
        rw [hr]
        exact ⟨_, StO b s', rfl, ⟨s', rfl, hs1, rfl, by rw [hl', hc']; exact hc, by rw [hl']; exact hcap⟩, hs.fitD⟩
      · refine K.skip <| K.inBlock <| K.seq <| K.drawS [pv b 47 s.cells, pv b3 58 e.cells] (fun _ h => h.subD) mixed <| dq 0 rfl (q_move rfl) <| dq 1 rfl (q_nilCheck rfl) <| dq 2 rfl (q_loadN ck_47 rfl rfl tC) <| dq 3 rfl (q_field fo_58_1 rfl) <| dq 4 rfl (q_load1D ck_9 rfl) <| dq1 5 rfl (OpL.callD rfl (h := st_Find (RowO Kd.oz 62 s.q s.c s.l) s e.object isO hl)) (.inr (by rintro _ _ ⟨_, ⟨rfl, rfl⟩, rfl⟩ w h; exact h.subD)) ?_
        rintro _ _ ⟨_, ⟨rfl, rfl⟩, rfl⟩
        refine dq 6 rfl (q_assign rfl) <| D.done tK <| K.seq <| K.seq <| K.region <| KO.q rfl (q_move rfl) <| KO.q rfl (q_lt rfl rfl) <| KO.done ?_
        refine K.dcond (s := 34) rfl (fun g34 => ?_) (fun g34 => ?_)
        · have hr : doS s.st e = (s.st, 3) := by unfold doS; rw [if_neg her, if_neg g12, if_neg g19, if_pos g34]
          refine K.seq <| K.region <| KO.q rfl (q_assign rfl) <| KO.done ?_
          refine kr1 Tryz.func72 Tryz.results72 rfl (fun w hs => ?_)
          rw [hr]
          exact ⟨_, StO b s, rfl, ⟨s, rfl, rfl, rfl, hc, hcap⟩, hs.fitD⟩
        · obtain ⟨i, o, ho, hi, hgd⟩ := findO_nat g34
          have hil := (List.getElem?_eq_some_iff.1 ho).1
          have hmo := List.mem_of_getElem? ho
          have hb := fun h5 => show doS s.st e = (s.st, 5) by unfold doS; rw [if_neg her, if_neg g12, if_neg g19, if_neg g34, hgd, if_pos h5]
          have ht := fun h5 h6 => show doS s.st e = (⟨s.st.next, s.st.objs.set i (tableO o.x e).1⟩, (tableO o.x e).2) by unfold doS; rw [if_neg her, if_neg g12, if_neg g19, if_neg g34, hgd, if_neg h5, if_pos h6, hi]; rfl
          have hqq := fun h5 h6 => show doS s.st e = (⟨s.st.next, s.st.objs.set i (queueO s.st o.x e).1⟩, (queueO s.st o.x e).2) by unfold doS; rw [if_neg her, if_neg g12, if_neg g19, if_neg g34, hgd, if_neg h5, if_neg h6, hi]; rfl
          have hset : ∀ o' : Oz, Sz.st ⟨s.next, s.q, s.c, s.l.set i o'⟩ = ⟨s.st.next, s.st.objs.set i o'.x⟩ := fun o' => by unfold Sz.st; dsimp only; rw [List.map_set]
          refine K.skip <| K.seq <| K.region <| KO.q rfl (q_move rfl) <| KO.q rfl (q_nilCheck rfl) <| KO.q rfl (q_field fo_47_1 rfl) <| KO.q rfl (q_load1D ck_45 rfl) <| KO.q rfl (q_move rfl) <| KO.q rfl (q_ix (xs := s.l) i se_45 rfl rfl hi isO tM rfl hil) <| KO.q rfl (q_assign rfl) <| KO.done ?_
          refine K.seq <| K.region <| KO.q rfl (q_field fo_58_0 rfl) <| KO.q rfl (q_load1D ck_3 rfl) <| KO.q rfl (q_eq rfl rfl) <| KO.q rfl (q_move rfl) ?_
          refine KO.dsplit 44 rfl (fun g44 => ?_) (fun g44 => ?_)
          · refine KO.skip rfl <| KO.skip rfl <| KO.skip rfl <| KO.q rfl (q_pickT rfl rfl) <| KO.q rfl (q_assign rfl) <| KO.done <| K.seq <| K.seq <| K.region <| KO.q rfl (q_move rfl) <| KO.q rfl (q_move rfl) ?_
            refine KO.q rfl (q_nilCheck rfl) <| KO.q rfl (q_fieldE fo_62_1 rfl) <| KO.q rfl (q_ldE (xs := s.l) ck_3 rfl isO tM ho rfl) <| KO.q rfl (q_eq rfl rfl) <| KO.q rfl (q_bne Tryz.underlying4 rfl rfl) <| KO.done ?_
            refine K.bcond (s := 55) rfl (fun g55 => ?_) (fun g55 => ?_)
            · have hr := hb (by rw [decide_eq_true (Or.inl g44)]; simpa using g55)
              refine K.seq <| K.region <| KO.q rfl (q_assign rfl) <| KO.done ?_
              refine kr1 Tryz.func72 Tryz.results72 rfl (fun w hs => ?_)
              rw [hr]
              exact ⟨_, StO b s, rfl, ⟨s, rfl, rfl, rfl, hc, hcap⟩, hs.fitD⟩
            · have hr := ht (by rw [decide_eq_true (Or.inl g44)]; simpa using g55) (.inl g44)
              refine K.skip <| K.seq <| K.seq <| K.region <| KO.q rfl (q_move rfl) <| KO.done <| K.yes rfl <| K.seq <| K.region <| KO.q rfl (q_move rfl) <| KO.q rfl (q_loadN ck_58 rfl rfl tC) ?_
              refine KO.loud rfl (OpL.callD rfl (h := st_inTable s.q s.c s.l i o e ho (hle o hmo) (by first | exact .inl g44 | exact hk))) ?_
              rintro _ _ ⟨_, ⟨z, rfl, rfl, hz⟩, rfl⟩
              refine KO.q rfl (q_assign rfl) <| KO.done ?_
              refine kr1 Tryz.func72 Tryz.results72 rfl (fun w hs => ?_)
              rw [hr]
              exact ⟨_, StO b ⟨s.next, s.q, s.c, s.l.set i ⟨(tableO o.x e).1, z⟩⟩, rfl, ⟨⟨s.next, s.q, s.c, s.l.set i ⟨(tableO o.x e).1, z⟩⟩, rfl, hset _, rfl, by show (s.l.set i _).length ≤ s.c; rw [List.length_set]; exact hc, set_le hcap (hz (hcap o hmo))⟩, (by
                have e1 : Sz.cells ⟨s.next, s.q, s.c, s.l.set i ⟨(tableO o.x e).1, z⟩⟩ = s.cells := by unfold Sz.cells; rw [List.length_set]
                dsimp only [StO]
                rw [e1]
                exact hs.fitD)⟩
          · refine KO.q rfl (q_field fo_58_0 rfl) <| KO.q rfl (q_load1D ck_3 rfl) <| KO.q rfl (q_eq rfl rfl) <| KO.q rfl (q_pickF rfl rfl) <| KO.q rfl (q_assign rfl) <| KO.done <| K.seq <| K.seq <| K.region <| KO.q rfl (q_move rfl) <| KO.q rfl (q_move rfl) ?_
            refine KO.q rfl (q_nilCheck rfl) <| KO.q rfl (q_fieldE fo_62_1 rfl) <| KO.q rfl (q_ldE (xs := s.l) ck_3 rfl isO tM ho rfl) <| KO.q rfl (q_eq rfl rfl) <| KO.q rfl (q_bne Tryz.underlying4 rfl rfl) <| KO.done ?_
            refine K.bcond (s := 55) rfl (fun g55 => ?_) (fun g55 => ?_)
            · have hr := hb (by rw [show decide (e.kind = 2 ∨ e.kind = 3) = decide (e.kind = 3) by simp [g44]]; simpa using g55)
              refine K.seq <| K.region <| KO.q rfl (q_assign rfl) <| KO.done ?_
              refine kr1 Tryz.func72 Tryz.results72 rfl (fun w hs => ?_)
              rw [hr]
              exact ⟨_, StO b s, rfl, ⟨s, rfl, rfl, rfl, hc, hcap⟩, hs.fitD⟩
            · refine K.skip <| K.seq <| K.seq <| K.region <| KO.q rfl (q_move rfl) <| KO.done ?_
              refine K.dcond (s := 56) rfl (fun g56 => ?_) (fun g56 => ?_)
              · have hr := ht (by rw [show decide (e.kind = 2 ∨ e.kind = 3) = decide (e.kind = 3) by simp [g44]]; simpa using g55) (.inr g56)
                have hk : e.kind = 2 ∨ e.kind = 3 := .inr g56
                refine K.seq <| K.region <| KO.q rfl (q_move rfl) <| KO.q rfl (q_loadN ck_58 rfl rfl tC) ?_
                refine KO.loud rfl (OpL.callD rfl (h := st_inTable s.q s.c s.l i o e ho (hle o hmo) (by first | exact .inl g44 | exact hk))) ?_
                rintro _ _ ⟨_, ⟨z, rfl, rfl, hz⟩, rfl⟩
                refine KO.q rfl (q_assign rfl) <| KO.done ?_
                refine kr1 Tryz.func72 Tryz.results72 rfl (fun w hs => ?_)
                rw [hr]
                exact ⟨_, StO b ⟨s.next, s.q, s.c, s.l.set i ⟨(tableO o.x e).1, z⟩⟩, rfl, ⟨⟨s.next, s.q, s.c, s.l.set i ⟨(tableO o.x e).1, z⟩⟩, rfl, hset _, rfl, by show (s.l.set i _).length ≤ s.c; rw [List.length_set]; exact hc, set_le hcap (hz (hcap o hmo))⟩, (by
                  have e1 : Sz.cells ⟨s.next, s.q, s.c, s.l.set i ⟨(tableO o.x e).1, z⟩⟩ = s.cells := by unfold Sz.cells; rw [List.length_set]
                  dsimp only [StO]
                  rw [e1]
                  exact hs.fitD)⟩
              · have hr := hqq (by rw [show decide (e.kind = 2 ∨ e.kind = 3) = decide (e.kind = 3) by simp [g44]]; simpa using g55) (by simp [g44, g56])
                refine K.skip <| K.seq <| K.region <| KO.q rfl (q_move rfl) <| KO.q rfl (q_move rfl) <| KO.q rfl (q_loadN ck_58 rfl rfl tC) <| KO.loud rfl (OpL.callD rfl (h := st_inQueue b s i o e ho hl hle (hs0 o hmo))) ?_
                rintro _ _ ⟨_, ⟨z, rfl, rfl, hz⟩, rfl⟩
                refine KO.q rfl (q_assign rfl) <| KO.done ?_
                refine kr1 Tryz.func72 Tryz.results72 rfl (fun w hs => ?_)
                rw [hr]
                exact ⟨_, StO b ⟨s.next, s.q, s.c, s.l.set i ⟨(queueO s.st o.x e).1, z⟩⟩, rfl, ⟨⟨s.next, s.q, s.c, s.l.set i ⟨(queueO s.st o.x e).1, z⟩⟩, rfl, hset _, rfl, by show (s.l.set i _).length ≤ s.c; rw [List.length_set]; exact hc, set_le hcap (hz (hcap o hmo))⟩, hs.fitD⟩
end Go.Proofs.YtkbhldicnamcdaaGreat.L
namespace Go.Proofs.YtkbhldicnamcdaaGreat.L
open Go Go.Proofs
attribute [local irreducible] pv fv pt fz RowF RowO rowP old pure_ elA Rd.int Rd.text Rd.flag Rd.msg Rd.rint Rd.rtext Rd.rflag Rd.rmsg
set_option maxRecDepth 100000
set_option linter.unusedSimpArgs false
set_option linter.unusedVariables false
theorem list_ne_at {α : Type} {a b : List α} {i : Nat} {x y : α} (h1 : a[i]? = some x) (h2 : b[i]? = some y) (h : ¬ x = y) : ¬ a = b := by
  rintro rfl
  rw [h1] at h2
  exact h (Option.some.inj h2)
theorem take_step {α : Type} {a b : List α} {i : Nat} {x y : α} (h1 : a[i]? = some x) (h2 : b[i]? = some y) (h : x = y) (ht : a.take i = b.take i) : a.take (i + 1) = b.take (i + 1) := by
  rw [List.take_add_one, List.take_add_one, h1, h2, ht, h]
theorem ids_snoc {l : List Msg} {i : Nat} {e : Msg} (h : l[i]? = some e) : (l.take (i + 1)).map (·.id) = (l.take i).map (·.id) ++ [e.id] := by rw [List.take_add_one, h]; simp
theorem nodup_snoc {l : List Int} {n : Int} : (l ++ [n]).Nodup ↔ l.Nodup ∧ ¬ n ∈ l := by
  rw [List.nodup_append]
  constructor
  · rintro ⟨h1, _, h3⟩
    exact ⟨h1, fun hn => h3 n hn n (List.mem_singleton.2 rfl) rfl⟩
  · rintro ⟨h1, h2⟩
    exact ⟨h1, by simp, fun a ha b hb e => by rw [List.mem_singleton.1 hb] at e; subst e; exact h2 ha⟩
theorem nodup_take {l : List Int} (h : l.Nodup) (i : Nat) : (l.take i).Nodup := h.sublist (List.take_sublist i l)
theorem risesM_false_nodup {l : List Msg} {i : Nat} (h : ¬ ((l.take i).map (·.id)).Nodup) : risesM l = false := by
  unfold risesM
  rw [decide_eq_false (fun hn => h (by rw [List.map_take]; exact nodup_take hn i)), Bool.and_false]
theorem risesM_false_adj {l : List Msg} {i : Nat} (h : adj (fun a b => decide (cmpM a b < 0)) (l.take i) = false) : risesM l = false := by
  unfold risesM
  rw [adj_false_take h, Bool.false_and]
theorem adj2_true {α : Type} {f : α → α → Bool} {l : List α} {i : Nat} {x y : α} (hi : 0 < i) (hx : l[i - 1]? = some x) (hy : l[i]? = some y) (h : adj f (l.take i) = true) (hf : f x y = true) : adj f (l.take (i + 1)) = true := by
  obtain ⟨m, rfl⟩ : ∃ m, i = m + 1 := ⟨i - 1, by omega⟩
  rw [Nat.add_sub_cancel] at hx
  rw [adj_take_succ hx hy, h, hf]; rfl
theorem adj2_false {α : Type} {f : α → α → Bool} {l : List α} {i : Nat} {x y : α} (hi : 0 < i) (hx : l[i - 1]? = some x) (hy : l[i]? = some y) (hf : f x y = false) : adj f (l.take (i + 1)) = false := by
  obtain ⟨m, rfl⟩ : ∃ m, i = m + 1 := ⟨i - 1, by omega⟩
  rw [Nat.add_sub_cancel] at hx
  rw [adj_take_succ hx hy, hf, Bool.and_false]
theorem nd_Rises (q : Option Addr) (cap : Nat) (l : List Rw) (hl : (l.length : Int) ≤ 9223372036854775807) (hz : ∀ r ∈ l, (r.key.size : Int) ≤ 9223372036854775807) : Fn Tryz.prog 177 [.slice q l.length cap].toArray [RowF Kd.rw q l] (fun r post => r = .bool (risesR l) ∧ post = []) := by
  refine Fn.enter (N := 23) Tryz.func177 rfl Tryz.ntmps177 tK rfl (fun ρ L => ?_)
  refine K.seq <| K.region <| KO.q rfl (q_assign rfl) <| KO.done <| K.seq <| K.seq <| K.region <| KO.q rfl (q_assign rfl) <| KO.done <| K.block ?_
  refine K.rloop (ι := { i : Nat // 1 ≤ i ∧ (i ≤ l.length ∨ i = 1) ∧ adj (fun a b => decide (cmpB a.key b.key < 0)) (l.take i) = true }) (fun x => [(3, .int .i64 x.1), (0, .slice q l.length cap)]) (fun x => l.length - x.1) ⟨1, Nat.le_refl _, .inr rfl, adj_take_one _ _⟩ tS (fun x ih => ?_)
  obtain ⟨i, h1, hi, ha⟩ := x
  dsimp only at h1 hi ha ⊢
  refine K.seq <| K.seq <| K.region <| KO.q rfl (q_move rfl) <| KO.q rfl (q_move rfl) <| KO.q rfl (q_len Tryz.underlying59 rfl) <| KO.q rfl (q_lt rfl rfl) <| KO.done ?_
  refine K.dcond (s := 7) rfl (fun g7 => ?_) (fun g7 => ?_)
  · obtain ⟨x, hx⟩ : ∃ e, l[i - 1]? = some e := ⟨_, List.getElem?_eq_getElem tO⟩
    obtain ⟨y, hy⟩ : ∃ e, l[i]? = some e := ⟨_, List.getElem?_eq_getElem tO⟩
    have z1 := hz x (List.mem_of_getElem? hx)
    have z2 := hz y (List.mem_of_getElem? hy)
    have hsub : (i : Int) - 1 = ((i - 1 : Nat) : Int) := by omega
    refine K.skip <| K.seq <| K.block <| K.seq ?_
    refine K.drawU (by repeat (first | apply SubL.pers | apply SubL.drop | exact SubL.none)) mixed ?_
    refine dq 0 rfl (q_move rfl) <| dq 1 rfl (q_move rfl) <| dq 2 rfl (q_sub rfl rfl tN tN) <| dq 3 rfl (q_ix (i - 1) se_59 rfl rfl hsub isF tM rfl tO) <| dq 4 rfl (q_fieldE fo_136_0 rfl) ?_
    first | refine dq 5 rfl (q_ldE ck_9 rfl isF tM tE rfl) ?_ | refine dq 5 rfl (q_ldE ck_9 rfl isO tM tE rfl) ?_
    refine dq 6 rfl (q_move rfl) <| dq 7 rfl (q_move rfl) ?_
    first | refine dq 8 rfl (q_ix _ se_59 rfl rfl rfl isF tM rfl tL) ?_ | refine dq 8 rfl (q_ix _ se_59 rfl rfl rfl isO tM rfl tL) ?_
    refine dq 9 rfl (q_fieldE fo_136_0 rfl) ?_
    first | refine dq 10 rfl (q_ldE ck_9 rfl isF tM tE rfl) ?_ | refine dq 10 rfl (q_ldE ck_9 rfl isO tM tE rfl) ?_
    refine dq1 11 rfl (OpL.callD rfl (h := ord_Keys _ _)) (.inr (by rintro _ _ ⟨_, ⟨rfl, rfl⟩, rfl⟩ w h; exact h.subD)) ?_
    rintro _ _ ⟨_, ⟨rfl, rfl⟩, rfl⟩
    refine dq 12 rfl (q_ge rfl rfl) <| D.done tK ?_
    refine K.dcond (s := 22) rfl (fun g22 => ?_) (fun g22 => ?_)
    · refine K.seq ?_
      have hr : risesR l = false := adj_false_take (adj2_false h1 hx hy (decide_eq_false tO))
      refine K.region <| KO.q rfl (q_assign rfl) <| KO.done ?_
      refine kr1 Tryz.func177 Tryz.results177 rfl (fun w hs => ?_)
      rw [hr]
      exact ⟨_, [], rfl, ⟨rfl, rfl⟩, hs.fitD⟩
    · refine K.skip <| K.inBlock <| K.region <| KO.q rfl (q_move rfl) <| KO.q rfl (q_add rfl rfl tN tN) <| KO.q rfl (q_assign rfl) <| KO.done ?_
      exact K.weak tS (fun w h => h.fitD) (ih ⟨i + 1, by omega, .inl tO, adj2_true h1 hx hy ha (decide_eq_true tO)⟩ (by show l.length - (i + 1) < l.length - i; omega))
  · refine K.exit rfl <| K.seq ?_
    have hr : risesR l = true := by rw [List.take_of_length_le tO] at ha; exact ha
    refine K.region <| KO.q rfl (q_assign rfl) <| KO.done ?_
    refine kr1 Tryz.func177 Tryz.results177 rfl (fun w hs => ?_)
    rw [hr]
    exact ⟨_, [], rfl, ⟨rfl, rfl⟩, hs.fitD⟩
theorem ref_SameMsgs (q1 q2 : Option Addr) (c1 c2 : Nat) (a b : List Msg) (hl : (a.length : Int) ≤ 9223372036854775807) : Fn Tryz.prog 91 [.slice q1 a.length c1, .slice q2 b.length c2].toArray [RowF Kd.msg q1 a, RowF Kd.msg q2 b] (fun r post => r = .bool (decide (a = b)) ∧ post = []) := by
  refine Fn.enter (N := 26) Tryz.func91 rfl Tryz.ntmps91 tK rfl (fun ρ L => ?_)
  refine K.seq <| K.region <| KO.q rfl (q_assign rfl) <| KO.done <| K.seq <| K.seq <| K.region <| KO.q rfl (q_move rfl) <| KO.q rfl (q_len Tryz.underlying60 rfl) <| KO.q rfl (q_move rfl) <| KO.q rfl (q_len Tryz.underlying60 rfl) ?_
  refine KO.q rfl (q_ne rfl rfl) <| KO.done ?_
  refine K.dcond (s := 10) rfl (fun g10 => ?_) (fun g10 => ?_)
  · refine K.seq ?_
    have hr : decide (a = b) = false := decide_eq_false (by rintro rfl; exact g10 rfl)
    refine K.region <| KO.q rfl (q_assign rfl) <| KO.done ?_
    refine kr1 Tryz.func91 Tryz.results91 rfl (fun w hs => ?_)
    rw [hr]
    exact ⟨_, [], rfl, ⟨rfl, rfl⟩, hs.fitD⟩
  · refine K.skip <| K.seq <| K.seq <| K.region <| KO.q rfl (q_assign rfl) <| KO.done <| K.block ?_
    refine K.rloop (ι := { i : Nat // i ≤ a.length ∧ a.take i = b.take i }) (fun x => [(5, .int .i64 x.1), (0, .slice q1 a.length c1), (1, .slice q2 b.length c2)]) (fun x => a.length - x.1) ⟨0, Nat.zero_le _, rfl⟩ tS (fun x ih => ?_)
    obtain ⟨i, hi, ht⟩ := x
    dsimp only at hi ht ⊢
    refine K.seq <| K.seq <| K.region <| KO.q rfl (q_move rfl) <| KO.q rfl (q_move rfl) <| KO.q rfl (q_len Tryz.underlying60 rfl) <| KO.q rfl (q_lt rfl rfl) <| KO.done ?_
    refine K.dcond (s := 14) rfl (fun g14 => ?_) (fun g14 => ?_)
    · obtain ⟨e1, he1⟩ : ∃ e, a[i]? = some e := ⟨_, List.getElem?_eq_getElem tO⟩
      obtain ⟨e2, he2⟩ : ∃ e, b[i]? = some e := ⟨_, List.getElem?_eq_getElem tO⟩
      refine K.skip <| K.seq <| K.block <| K.seq ?_
      refine K.drawU (by repeat (first | apply SubL.pers | apply SubL.drop | exact SubL.none)) mixed ?_
      refine dq 0 rfl (q_move rfl) <| dq 1 rfl (q_move rfl) ?_
      first | refine dq 2 rfl (q_ix _ se_60 rfl rfl rfl isF tM rfl tL) ?_ | refine dq 2 rfl (q_ix _ se_60 rfl rfl rfl isO tM rfl tL) ?_
      first | refine dq 3 rfl (q_ldEN ck_56 rfl isF tM tE) ?_ | refine dq 3 rfl (q_ldEN ck_56 rfl isO tM tE) ?_
      refine dq 4 rfl (q_move rfl) <| dq 5 rfl (q_move rfl) ?_
      first | refine dq 6 rfl (q_ix _ se_60 rfl rfl rfl isF tM rfl tL) ?_ | refine dq 6 rfl (q_ix _ se_60 rfl rfl rfl isO tM rfl tL) ?_
      first | refine dq 7 rfl (q_ldEN ck_56 rfl isF tM tE) ?_ | refine dq 7 rfl (q_ldEN ck_56 rfl isO tM tE) ?_
      refine dq 8 rfl (q_recNG Tryz.underlying56 msg_hp msg_hg rfl rfl (msg_eqD _ _ Tryz.underlying56)) <| D.done tK ?_
      refine K.dcond (s := 25) rfl (fun g25 => ?_) (fun g25 => ?_)
      · refine K.seq ?_
        have hr : decide (a = b) = false := decide_eq_false (list_ne_at he1 he2 g25)
        refine K.region <| KO.q rfl (q_assign rfl) <| KO.done ?_
        refine kr1 Tryz.func91 Tryz.results91 rfl (fun w hs => ?_)
        rw [hr]
        exact ⟨_, [], rfl, ⟨rfl, rfl⟩, hs.fitD⟩
      · refine K.skip <| K.inBlock <| K.region <| KO.q rfl (q_move rfl) <| KO.q rfl (q_add rfl rfl tN tN) <| KO.q rfl (q_assign rfl) <| KO.done ?_
        exact K.subE tS (ih ⟨i + 1, by omega, take_step he1 he2 (Decidable.not_not.1 g25) ht⟩ (by show a.length - (i + 1) < a.length - i; omega))
    · refine K.exit rfl <| K.seq ?_
      have hr : decide (a = b) = true := decide_eq_true (by
        rw [List.take_of_length_le tO, List.take_of_length_le tO] at ht
        exact ht)
      refine K.region <| KO.q rfl (q_assign rfl) <| KO.done ?_
      refine kr1 Tryz.func91 Tryz.results91 rfl (fun w hs => ?_)
      rw [hr]
      exact ⟨_, [], rfl, ⟨rfl, rfl⟩, hs.fitD⟩
theorem ref_SameRows (q1 q2 : Option Addr) (c1 c2 : Nat) (a b : List Rw) (hl : (a.length : Int) ≤ 9223372036854775807) : Fn Tryz.prog 90 [.slice q1 a.length c1, .slice q2 b.length c2].toArray [RowF Kd.rw q1 a, RowF Kd.rw q2 b] (fun r post => r = .bool (decide (a = b)) ∧ post = []) := by
  refine Fn.enter (N := 26) Tryz.func90 rfl Tryz.ntmps90 tK rfl (fun ρ L => ?_)
  refine K.seq <| K.region <| KO.q rfl (q_assign rfl) <| KO.done <| K.seq <| K.seq <| K.region <| KO.q rfl (q_move rfl) <| KO.q rfl (q_len Tryz.underlying59 rfl) <| KO.q rfl (q_move rfl) <| KO.q rfl (q_len Tryz.underlying59 rfl) ?_
  refine KO.q rfl (q_ne rfl rfl) <| KO.done ?_
  refine K.dcond (s := 10) rfl (fun g10 => ?_) (fun g10 => ?_)
  · refine K.seq ?_
    have hr : decide (a = b) = false := decide_eq_false (by rintro rfl; exact g10 rfl)
    refine K.region <| KO.q rfl (q_assign rfl) <| KO.done ?_
    refine kr1 Tryz.func90 Tryz.results90 rfl (fun w hs => ?_)
    rw [hr]
    exact ⟨_, [], rfl, ⟨rfl, rfl⟩, hs.fitD⟩
  · refine K.skip <| K.seq <| K.seq <| K.region <| KO.q rfl (q_assign rfl) <| KO.done <| K.block ?_
    refine K.rloop (ι := { i : Nat // i ≤ a.length ∧ a.take i = b.take i }) (fun x => [(5, .int .i64 x.1), (0, .slice q1 a.length c1), (1, .slice q2 b.length c2)]) (fun x => a.length - x.1) ⟨0, Nat.zero_le _, rfl⟩ tS (fun x ih => ?_)
    obtain ⟨i, hi, ht⟩ := x
    dsimp only at hi ht ⊢
    refine K.seq <| K.seq <| K.region <| KO.q rfl (q_move rfl) <| KO.q rfl (q_move rfl) <| KO.q rfl (q_len Tryz.underlying59 rfl) <| KO.q rfl (q_lt rfl rfl) <| KO.done ?_
    refine K.dcond (s := 14) rfl (fun g14 => ?_) (fun g14 => ?_)
    · obtain ⟨e1, he1⟩ : ∃ e, a[i]? = some e := ⟨_, List.getElem?_eq_getElem tO⟩
      obtain ⟨e2, he2⟩ : ∃ e, b[i]? = some e := ⟨_, List.getElem?_eq_getElem tO⟩
      refine K.skip <| K.seq <| K.block <| K.seq ?_
      refine K.drawU (by repeat (first | apply SubL.pers | apply SubL.drop | exact SubL.none)) mixed ?_
      refine dq 0 rfl (q_move rfl) <| dq 1 rfl (q_move rfl) ?_
      first | refine dq 2 rfl (q_ix _ se_59 rfl rfl rfl isF tM rfl tL) ?_ | refine dq 2 rfl (q_ix _ se_59 rfl rfl rfl isO tM rfl tL) ?_
      first | refine dq 3 rfl (q_ldEN ck_136 rfl isF tM tE) ?_ | refine dq 3 rfl (q_ldEN ck_136 rfl isO tM tE) ?_
      refine dq 4 rfl (q_move rfl) <| dq 5 rfl (q_move rfl) ?_
      first | refine dq 6 rfl (q_ix _ se_59 rfl rfl rfl isF tM rfl tL) ?_ | refine dq 6 rfl (q_ix _ se_59 rfl rfl rfl isO tM rfl tL) ?_
      first | refine dq 7 rfl (q_ldEN ck_136 rfl isF tM tE) ?_ | refine dq 7 rfl (q_ldEN ck_136 rfl isO tM tE) ?_
      refine dq 8 rfl (q_recNG Tryz.underlying136 rw_hp rw_hg rfl rfl (rw_eqD _ _ Tryz.underlying136)) <| D.done tK ?_
      refine K.dcond (s := 25) rfl (fun g25 => ?_) (fun g25 => ?_)
      · refine K.seq ?_
        have hr : decide (a = b) = false := decide_eq_false (list_ne_at he1 he2 g25)
        refine K.region <| KO.q rfl (q_assign rfl) <| KO.done ?_
        refine kr1 Tryz.func90 Tryz.results90 rfl (fun w hs => ?_)
        rw [hr]
        exact ⟨_, [], rfl, ⟨rfl, rfl⟩, hs.fitD⟩
      · refine K.skip <| K.inBlock <| K.region <| KO.q rfl (q_move rfl) <| KO.q rfl (q_add rfl rfl tN tN) <| KO.q rfl (q_assign rfl) <| KO.done ?_
        exact K.subE tS (ih ⟨i + 1, by omega, take_step he1 he2 (Decidable.not_not.1 g25) ht⟩ (by show a.length - (i + 1) < a.length - i; omega))
    · refine K.exit rfl <| K.seq ?_
      have hr : decide (a = b) = true := decide_eq_true (by
        rw [List.take_of_length_le tO, List.take_of_length_le tO] at ht
        exact ht)
      refine K.region <| KO.q rfl (q_assign rfl) <| KO.done ?_
      refine kr1 Tryz.func90 Tryz.results90 rfl (fun w hs => ?_)
      rw [hr]
      exact ⟨_, [], rfl, ⟨rfl, rfl⟩, hs.fitD⟩
theorem idxP_lt {l : List Msg} {i : Nat} {y : Msg} (hy : l[i]? = some y) : idxP (fun m => decide (m.id = y.id)) l < (i : Int) ↔ y.id ∈ (l.take i).map (·.id) := by
  cases hany : (l.take i).any (fun m => decide (m.id = y.id)) with
  | false =>
    rw [idxP_some hy (by simp) hany]
    rw [List.any_eq_false] at hany
    refine ⟨fun h => by omega, fun h => ?_⟩
    obtain ⟨m, hm, e⟩ := List.mem_map.1 h
    exact absurd (decide_eq_true e) (hany m hm)
  | true =>
    obtain ⟨m, hm, e⟩ := List.any_eq_true.1 hany
    refine ⟨fun _ => List.mem_map.2 ⟨m, hm, of_decide_eq_true e⟩, fun _ => ?_⟩
    obtain ⟨j, hj, rfl⟩ := List.mem_take_iff_getElem.1 hm
    unfold idxP
    cases hf : l.findIdx? (fun m => decide (m.id = y.id)) with
    | none => rw [List.findIdx?_eq_none_iff] at hf; exact absurd e (by rw [hf _ (List.getElem_mem _)]; simp)
    | some k =>
      rw [List.findIdx?_eq_some_iff_getElem] at hf
      obtain ⟨hk, _, hmin⟩ := hf
      show (k : Int) < i
      by_cases hkj : j < k
      · exact absurd e (by simpa using hmin j hkj)
      · omega
set_option maxHeartbeats 800000 in
theorem ref_RisesMsgs (q : Option Addr) (cap : Nat) (l : List Msg) (hl : (l.length : Int) ≤ 9223372036854775807) : Fn Tryz.prog 113 [.slice q l.length cap].toArray [RowF Kd.msg q l] (fun r post => r = .bool (risesM l) ∧ post = []) := by
  refine Fn.enter (N := 36) Tryz.func113 rfl Tryz.ntmps113 tK rfl (fun ρ L => ?_)
  refine K.seq <| K.region <| KO.q rfl (q_assign rfl) <| KO.done <| K.seq <| K.seq <| K.region <| KO.q rfl (q_assign rfl) <| KO.done <| K.block ?_
  refine K.rloop (ι := { i : Nat // i ≤ l.length ∧ adj (fun a b => decide (cmpM a b < 0)) (l.take i) = true ∧ ((l.take i).map (·.id)).Nodup }) (fun x => [(3, .int .i64 x.1), (0, .slice q l.length cap)]) (fun x => l.length - x.1) ⟨0, Nat.zero_le _, by simp [adj], by simp⟩ tS (fun x ih => ?_)
  obtain ⟨i, hi, ha, hn⟩ := x
  dsimp only at hi ha hn ⊢
  refine K.seq <| K.seq <| K.region <| KO.q rfl (q_move rfl) <| KO.q rfl (q_move rfl) <| KO.q rfl (q_len Tryz.underlying60 rfl) <| KO.q rfl (q_lt rfl rfl) <| KO.done ?_
  refine K.dcond (s := 7) rfl (fun g7 => ?_) (fun g7 => ?_)
  · obtain ⟨y, hy⟩ : ∃ e, l[i]? = some e := ⟨_, List.getElem?_eq_getElem tO⟩
    refine K.skip <| K.seq <| K.block <| K.seq ?_
    refine K.drawU (by repeat (first | apply SubL.pers | apply SubL.drop | exact SubL.none)) mixed ?_
    refine dq 0 rfl (q_move rfl) <| dq 1 rfl (q_gt rfl rfl) <| dq 2 rfl (q_move rfl) ?_
    refine D.dsplit 12 rfl (fun g12 => ?_) (fun g12 => ?_)
    · obtain ⟨x, hx⟩ : ∃ e, l[i - 1]? = some e := ⟨_, List.getElem?_eq_getElem tO⟩
      have hsub : (i : Int) - 1 = ((i - 1 : Nat) : Int) := by omega
      refine dq 3 rfl (q_move rfl) <| dq 4 rfl (q_move rfl) <| dq 5 rfl (q_sub rfl rfl tN tN) <| dq 6 rfl (q_ix (i - 1) se_60 rfl rfl hsub isF tM rfl tO) ?_
      first | refine dq 7 rfl (q_ldEN ck_56 rfl isF tM tE) ?_ | refine dq 7 rfl (q_ldEN ck_56 rfl isO tM tE) ?_
      refine dq 8 rfl (q_move rfl) <| dq 9 rfl (q_move rfl) ?_
      first | refine dq 10 rfl (q_ix _ se_60 rfl rfl rfl isF tM rfl tL) ?_ | refine dq 10 rfl (q_ix _ se_60 rfl rfl rfl isO tM rfl tL) ?_
      first | refine dq 11 rfl (q_ldEN ck_56 rfl isF tM tE) ?_ | refine dq 11 rfl (q_ldEN ck_56 rfl isO tM tE) ?_
      refine dq1 12 rfl (OpL.callD rfl (h := ref_Msgs _ _)) (.inr (by rintro _ _ ⟨_, ⟨rfl, rfl⟩, rfl⟩ w h; exact h.subD)) ?_
      rintro _ _ ⟨_, ⟨rfl, rfl⟩, rfl⟩
      refine dq 13 rfl (q_ge rfl rfl) <| dq 14 rfl (q_pickT rfl rfl) <| dq 15 rfl (q_move rfl) ?_
      refine D.dsplit 25 rfl (fun g25 => ?_) (fun g25 => ?_)
      · refine D.skip 16 rfl tK tK (fun _ h => h.subD) <| D.skip 17 rfl tK tK (fun _ h => h.subD) <| D.skip 18 rfl tK tK (fun _ h => h.subD) <| D.skip 19 rfl tK tK (fun _ h => h.subD) <| D.skip 20 rfl tK tK (fun _ h => h.subD) <| D.skip 21 rfl tK tK (fun _ h => h.subD) <| D.skip 22 rfl tK tK (fun _ h => h.subD) <| D.skip 23 rfl tK tK (fun _ h => h.subD) <| D.skip 24 rfl tK tK (fun _ h => h.subD) <| dq 25 rfl (q_pickT rfl rfl) ?_
        refine D.done tK <| K.yes rfl <| K.seq ?_
        have hr : risesM l = false := by
          first
            | exact risesM_false_adj (adj2_false tO hx hy (decide_eq_false tO))
            | exact risesM_false_nodup (i := i + 1) (by rw [ids_snoc hy, nodup_snoc]; exact fun h => h.2 ((idxP_lt hy).1 g35))
        refine K.region <| KO.q rfl (q_assign rfl) <| KO.done ?_
        refine kr1 Tryz.func113 Tryz.results113 rfl (fun w hs => ?_)
        rw [hr]
        exact ⟨_, [], rfl, ⟨rfl, rfl⟩, hs.fitD⟩
      · refine dq 16 rfl (q_move rfl) <| dq 17 rfl (q_move rfl) <| dq 18 rfl (q_move rfl) ?_
        first | refine dq 19 rfl (q_ix _ se_60 rfl rfl rfl isF tM rfl tL) ?_ | refine dq 19 rfl (q_ix _ se_60 rfl rfl rfl isO tM rfl tL) ?_
        refine dq 20 rfl (q_fieldE fo_56_0 rfl) ?_
        first | refine dq 21 rfl (q_ldE ck_3 rfl isF tM tE rfl) ?_ | refine dq 21 rfl (q_ldE ck_3 rfl isO tM tE rfl) ?_
        refine dq 23 rfl (q_move rfl) <| dq1 22 rfl (OpL.callD rfl (h := ref_FindMsg _ _ _ _ tN)) (.inr (by rintro _ _ ⟨_, ⟨rfl, rfl⟩, rfl⟩ w h; exact h.subD)) ?_
        rintro _ _ ⟨_, ⟨rfl, rfl⟩, rfl⟩
        refine dq 24 rfl (q_lt rfl rfl) <| dq 25 rfl (q_pickF rfl rfl) <| D.done tK ?_
        refine K.dcond (s := 35) rfl (fun g35 => ?_) (fun g35 => ?_)
        · refine K.seq ?_
          have hr : risesM l = false := by
            first
              | exact risesM_false_adj (adj2_false tO hx hy (decide_eq_false tO))
              | exact risesM_false_nodup (i := i + 1) (by rw [ids_snoc hy, nodup_snoc]; exact fun h => h.2 ((idxP_lt hy).1 g35))
          refine K.region <| KO.q rfl (q_assign rfl) <| KO.done ?_
          refine kr1 Tryz.func113 Tryz.results113 rfl (fun w hs => ?_)
          rw [hr]
          exact ⟨_, [], rfl, ⟨rfl, rfl⟩, hs.fitD⟩
        · refine K.skip <| K.inBlock <| K.region <| KO.q rfl (q_move rfl) <| KO.q rfl (q_add rfl rfl tN tN) <| KO.q rfl (q_assign rfl) <| KO.done ?_
          exact K.weak tS (fun w h => h.fitD) (ih ⟨i + 1, by omega, by
            first
              | exact adj2_true tO hx hy ha (decide_eq_true tO)
              | (obtain rfl : i = 0 := by omega
                 exact adj_take_one _ _), by rw [ids_snoc hy, nodup_snoc]; exact ⟨hn, fun h => g35 ((idxP_lt hy).2 h)⟩⟩ (by show l.length - (i + 1) < l.length - i; omega))
    · refine D.skip 3 rfl tK tK (fun _ h => h.subD) <| D.skip 4 rfl tK tK (fun _ h => h.subD) <| D.skip 5 rfl tK tK (fun _ h => h.subD) <| D.skip 6 rfl tK tK (fun _ h => h.subD) <| D.skip 7 rfl tK tK (fun _ h => h.subD) <| D.skip 8 rfl tK tK (fun _ h => h.subD) <| D.skip 9 rfl tK tK (fun _ h => h.subD) <| D.skip 10 rfl tK tK (fun _ h => h.subD) <| D.skip 11 rfl tK tK (fun _ h => h.subD) <| D.skip 12 rfl tK tK (fun _ h => h.subD) ?_
      refine D.skip 13 rfl tK tK (fun _ h => h.subD) <| dq 14 rfl (q_pickF rfl rfl) <| dq 15 rfl (q_move rfl) <| dq 16 rfl (q_move rfl) <| dq 17 rfl (q_move rfl) <| dq 18 rfl (q_move rfl) ?_
      first | refine dq 19 rfl (q_ix _ se_60 rfl rfl rfl isF tM rfl tL) ?_ | refine dq 19 rfl (q_ix _ se_60 rfl rfl rfl isO tM rfl tL) ?_
      refine dq 20 rfl (q_fieldE fo_56_0 rfl) ?_
      first | refine dq 21 rfl (q_ldE ck_3 rfl isF tM tE rfl) ?_ | refine dq 21 rfl (q_ldE ck_3 rfl isO tM tE rfl) ?_
      refine dq 23 rfl (q_move rfl) <| dq1 22 rfl (OpL.callD rfl (h := ref_FindMsg _ _ _ _ tN)) (.inr (by rintro _ _ ⟨_, ⟨rfl, rfl⟩, rfl⟩ w h; exact h.subD)) ?_
      rintro _ _ ⟨_, ⟨rfl, rfl⟩, rfl⟩
      refine dq 24 rfl (q_lt rfl rfl) <| dq 25 rfl (q_pickF rfl rfl) <| D.done tK ?_
      refine K.dcond (s := 35) rfl (fun g35 => ?_) (fun g35 => ?_)
      · refine K.seq ?_
        have hr : risesM l = false := by
          first
            | exact risesM_false_adj (adj2_false tO hx hy (decide_eq_false tO))
            | exact risesM_false_nodup (i := i + 1) (by rw [ids_snoc hy, nodup_snoc]; exact fun h => h.2 ((idxP_lt hy).1 g35))
        refine K.region <| KO.q rfl (q_assign rfl) <| KO.done ?_
        refine kr1 Tryz.func113 Tryz.results113 rfl (fun w hs => ?_)
        rw [hr]
        exact ⟨_, [], rfl, ⟨rfl, rfl⟩, hs.fitD⟩
      · refine K.skip <| K.inBlock <| K.region <| KO.q rfl (q_move rfl) <| KO.q rfl (q_add rfl rfl tN tN) <| KO.q rfl (q_assign rfl) <| KO.done ?_
        exact K.weak tS (fun w h => h.fitD) (ih ⟨i + 1, by omega, by
          first
            | exact adj2_true tO hx hy ha (decide_eq_true tO)
            | (obtain rfl : i = 0 := by omega
               exact adj_take_one _ _), by rw [ids_snoc hy, nodup_snoc]; exact ⟨hn, fun h => g35 ((idxP_lt hy).2 h)⟩⟩ (by show l.length - (i + 1) < l.length - i; omega))
  · refine K.exit rfl <| K.seq ?_
    have hr : risesM l = true := by
      rw [List.take_of_length_le tO] at ha hn
      unfold risesM
      rw [ha, decide_eq_true hn]; rfl
    refine K.region <| KO.q rfl (q_assign rfl) <| KO.done ?_
    refine kr1 Tryz.func113 Tryz.results113 rfl (fun w hs => ?_)
    rw [hr]
    exact ⟨_, [], rfl, ⟨rfl, rfl⟩, hs.fitD⟩
theorem zv_bool : zeroV Tryz.prog 4 = some (.bool false) := by kernel_rfl
def Seen (ids : List Int) (es : List (Int × Value)) : Prop := ∀ n, mapGet es n = if n ∈ ids then some (.bool true) else none
theorem Seen.nil : Seen [] [] := fun n => by simp [mapGet]
theorem Seen.get {ids : List Int} {es : List (Int × Value)} (h : Seen ids es) (n : Int) : (mapGet es n).getD (.bool false) = .bool (decide (n ∈ ids)) := by
  rw [h n]
  by_cases hn : n ∈ ids
  · simp [hn]
  · simp [hn]
theorem Seen.put {ids : List Int} {es : List (Int × Value)} (h : Seen ids es) (k : Int) : Seen (ids ++ [k]) (mapPut es k (.bool true)) := fun n => by
  rw [mapGet_put, h n]
  by_cases hn : n = k
  · simp [hn]
  · simp [hn]
set_option maxHeartbeats 800000 in
theorem qu_Rises (q : Option Addr) (cap : Nat) (l : List Msg) (hl : (l.length : Int) ≤ 9223372036854775807) : Fn Tryz.prog 181 [.slice q l.length cap].toArray [RowF Kd.msg q l] (fun r post => r = .bool (risesM l) ∧ post = []) := by
  refine Fn.enter (N := 36) Tryz.func181 rfl Tryz.ntmps181 tK rfl (fun ρ L => ?_)
  refine K.seq <| K.region <| KO.q rfl (q_assign rfl) <| KO.done <| K.seq <| K.region <| KO.loud rfl (l_makeMap (fun n : Int => Value.int .i64 n)) ?_
  rintro _ _ ⟨b6, rfl, rfl⟩
  refine KO.q rfl (q_assign rfl) <| KO.done <| K.seq <| K.seq <| K.region <| KO.q rfl (q_move rfl) <| KO.q rfl (q_len Tryz.underlying60 rfl) <| KO.q rfl (q_move rfl) <| KO.done <| K.block ?_
  refine K.rounds2 (ι := { x : Nat × List (Int × Value) // x.1 ≤ l.length ∧ adj (fun a b => decide (cmpM a b < 0)) (l.take x.1) = true ∧ ((l.take x.1).map (·.id)).Nodup ∧ Seen ((l.take x.1).map (·.id)) x.2 }) (fun x => [(9, .int .i64 x.1.1), (8, .int .i64 l.length), (7, .slice q l.length cap), (3, .map (some b6)), (0, .slice q l.length cap)]) (fun x => [mpO (fun n : Int => Value.int .i64 n) b6 x.1.2, RowF Kd.msg q l] ++ L) (fun x => l.length - x.1.1) ⟨(0, []), Nat.zero_le _, by simp [adj], by simp, Seen.nil⟩ tS (fun w h => h.fitD) (fun x ih => ?_)
  obtain ⟨⟨i, es⟩, hi, ha, hn, hse⟩ := x
  dsimp only at hi ha hn hse ⊢
  refine K.seq <| K.region <| KO.q rfl (q_lt rfl rfl) <| KO.done <| K.seq ?_
  refine K.dcond (s := 10) rfl (fun g10 => ?_) (fun g10 => ?_)
  · obtain ⟨y, hy⟩ : ∃ e, l[i]? = some e := ⟨_, List.getElem?_eq_getElem tO⟩
    have hlk := hse.get y.id
    refine K.skip <| K.seq <| K.block <| K.seq <| K.region <| KO.q rfl (q_move rfl) ?_
    first | refine KO.q rfl (q_ix _ se_60 rfl rfl rfl isF tM rfl tL) ?_ | refine KO.q rfl (q_ix _ se_60 rfl rfl rfl isO tM rfl tL) ?_
    first | refine KO.q rfl (q_ldEN ck_56 rfl isF tM tE) ?_ | refine KO.q rfl (q_ldEN ck_56 rfl isO tM tE) ?_
    refine KO.loud rfl (l_alloc zo_56) ?_
    rintro _ _ ⟨b5, rfl, rfl⟩
    refine KO.q rfl (q_assign rfl) <| KO.loudN rfl (l_storeAll ck_56 rfl rfl ⟨rfl, rfl⟩ (msg_one _) tP) ?_
    rintro _ _ ⟨rfl, rfl⟩
    refine KO.done <| K.seq <| K.seq ?_
    refine K.drawU (by repeat (first | apply SubL.pers | apply SubL.own (b := b5) | apply SubL.drop | exact SubL.none)) mixed ?_
    refine dq 0 rfl (q_move rfl) <| dq 1 rfl (q_field fo_56_0 rfl) <| dq 2 rfl (q_load1D ck_3 rfl) <| dq1 3 rfl (OpQ.loud (q_is (q_lookup Tryz.underlying215 (mkey_int Tryz.underlying3) zv_bool rfl rfl tM) hlk)) (.inr (by rintro _ _ ⟨rfl, rfl⟩ w h; exact h.subD)) ?_
    rintro _ _ ⟨rfl, rfl⟩
    refine dq 4 rfl (q_move rfl) ?_
    first | refine D.dsplit 18 rfl (fun g18 => ?_) (fun g18 => ?_) | refine D.split 18 rfl (fun g18 => ?_) (fun g18 => ?_)
    · refine D.skip 5 rfl tK tK (fun _ h => h.subD) <| D.skip 6 rfl tK tK (fun _ h => h.subD) <| D.skip 7 rfl tK tK (fun _ h => h.subD) <| D.gone 8 rfl tK tK (fun _ h => h.subD) <| D.gone 9 rfl tK tK (fun _ h => h.subD) <| D.gone 10 rfl tK tK (fun _ h => h.subD) <| D.gone 11 rfl tK tK (fun _ h => h.subD) <| D.gone 12 rfl tK tK (fun _ h => h.subD) <| D.gone 13 rfl tK tK (fun _ h => h.subD) <| D.gone 14 rfl tK tK (fun _ h => h.subD) ?_
      refine D.gone 15 rfl tK tK (fun _ h => h.subD) <| D.skip 16 rfl tK tK (fun _ h => h.subD) <| dq 17 rfl (q_pickT rfl rfl) <| D.done tK <| K.yes rfl <| K.seq ?_
      have hr : risesM l = false := by
        first
          | exact risesM_false_nodup (i := i + 1) (by rw [ids_snoc hy, nodup_snoc]; exact fun h => h.2 g18)
          | exact risesM_false_adj (adj2_false tO hx hy (decide_eq_false tO))
      refine K.region <| KO.q rfl (q_assign rfl) <| KO.done ?_
      refine kr1 Tryz.func181 Tryz.results181 rfl (fun w hs => ?_)
      rw [hr]
      exact ⟨_, [], rfl, ⟨rfl, rfl⟩, hs.fitD⟩
    · refine dq 5 rfl (q_move rfl) <| dq 6 rfl (q_gt rfl rfl) <| dq 7 rfl (q_move rfl) ?_
      refine D.dsplit 21 rfl (fun g21 => ?_) (fun g21 => ?_)
      · obtain ⟨x, hx⟩ : ∃ e, l[i - 1]? = some e := ⟨_, List.getElem?_eq_getElem tO⟩
        have hsub : (i : Int) - 1 = ((i - 1 : Nat) : Int) := by omega
        refine dq 8 rfl (q_move rfl) <| dq 9 rfl (q_move rfl) <| dq 10 rfl (q_sub rfl rfl tN tN) <| dq 11 rfl (q_ix (i - 1) se_60 rfl rfl hsub isF tM rfl tO) ?_
        first | refine dq 12 rfl (q_ldEN ck_56 rfl isF tM tE) ?_ | refine dq 12 rfl (q_ldEN ck_56 rfl isO tM tE) ?_
        refine dq 13 rfl (q_loadN ck_56 rfl rfl tC) <| dq1 14 rfl (OpL.callD rfl (h := ord_Msgs _ _)) (.inr (by rintro _ _ ⟨_, ⟨rfl, rfl⟩, rfl⟩ w h; exact h.subD)) ?_
        rintro _ _ ⟨_, ⟨rfl, rfl⟩, rfl⟩
        refine dq 15 rfl (q_ge rfl rfl) <| dq 16 rfl (q_pickT rfl rfl) <| dq 17 rfl (q_pickF rfl rfl) <| D.done tK ?_
        refine K.dcond (s := 31) rfl (fun g31 => ?_) (fun g31 => ?_)
        · refine K.seq ?_
          have hr : risesM l = false := by
            first
              | exact risesM_false_nodup (i := i + 1) (by rw [ids_snoc hy, nodup_snoc]; exact fun h => h.2 g18)
              | exact risesM_false_adj (adj2_false tO hx hy (decide_eq_false tO))
          refine K.region <| KO.q rfl (q_assign rfl) <| KO.done ?_
          refine kr1 Tryz.func181 Tryz.results181 rfl (fun w hs => ?_)
          rw [hr]
          exact ⟨_, [], rfl, ⟨rfl, rfl⟩, hs.fitD⟩
        · refine K.skip <| K.region <| KO.q rfl (q_move rfl) <| KO.q rfl (q_field fo_56_0 rfl) <| KO.q rfl (q_load1D ck_3 rfl) <| KO.loudN rfl (l_mapUpdate Tryz.underlying215 (mkey_int Tryz.underlying3) rfl rfl rfl tP) ?_
          rintro _ _ ⟨rfl, rfl⟩
          refine KO.done <| K.inBlock <| K.region <| KO.q rfl (q_add rfl rfl tN tN) <| KO.q rfl (q_move rfl) <| KO.done ?_
          refine K.weak tS (fun w h => ?_) (ih ⟨(i + 1, mapPut es y.id (.bool true)), by show i + 1 ≤ l.length; omega, ?_, by show ((l.take (i + 1)).map (·.id)).Nodup; rw [ids_snoc hy, nodup_snoc]; exact ⟨hn, g18⟩, by show Seen ((l.take (i + 1)).map (·.id)) _; rw [ids_snoc hy]; exact hse.put y.id⟩ (by show l.length - (i + 1) < l.length - i; omega))
          · dsimp only
            exact h.fitD
          · first
              | exact adj2_true tO hx hy ha (decide_eq_true tO)
              | (obtain rfl : i = 0 := by omega
                 exact adj_take_one _ _)
      · refine D.skip 8 rfl tK tK (fun _ h => h.subD) <| D.skip 9 rfl tK tK (fun _ h => h.subD) <| D.skip 10 rfl tK tK (fun _ h => h.subD) <| D.skip 11 rfl tK tK (fun _ h => h.subD) <| D.skip 12 rfl tK tK (fun _ h => h.subD) <| D.skip 13 rfl tK tK (fun _ h => h.subD) <| D.skip 14 rfl tK tK (fun _ h => h.subD) <| D.skip 15 rfl tK tK (fun _ h => h.subD) <| dq 16 rfl (q_pickF rfl rfl) <| dq 17 rfl (q_pickF rfl rfl) ?_
        refine D.done tK <| K.no rfl <| K.skip <| K.region <| KO.q rfl (q_move rfl) <| KO.q rfl (q_field fo_56_0 rfl) <| KO.q rfl (q_load1D ck_3 rfl) <| KO.loudN rfl (l_mapUpdate Tryz.underlying215 (mkey_int Tryz.underlying3) rfl rfl rfl tP) ?_
        rintro _ _ ⟨rfl, rfl⟩
        refine KO.done <| K.inBlock <| K.region <| KO.q rfl (q_add rfl rfl tN tN) <| KO.q rfl (q_move rfl) <| KO.done ?_
        refine K.weak tS (fun w h => ?_) (ih ⟨(i + 1, mapPut es y.id (.bool true)), by show i + 1 ≤ l.length; omega, ?_, by show ((l.take (i + 1)).map (·.id)).Nodup; rw [ids_snoc hy, nodup_snoc]; exact ⟨hn, g18⟩, by show Seen ((l.take (i + 1)).map (·.id)) _; rw [ids_snoc hy]; exact hse.put y.id⟩ (by show l.length - (i + 1) < l.length - i; omega))
        · dsimp only
          exact h.fitD
        · first
            | exact adj2_true tO hx hy ha (decide_eq_true tO)
            | (obtain rfl : i = 0 := by omega
               exact adj_take_one _ _)
  · refine K.exit rfl <| K.seq ?_
    have hr : risesM l = true := by
      rw [List.take_of_length_le tO] at ha hn
      unfold risesM
      rw [ha, decide_eq_true hn]; rfl
    refine K.region <| KO.q rfl (q_assign rfl) <| KO.done ?_
    refine kr1 Tryz.func181 Tryz.results181 rfl (fun w hs => ?_)
    rw [hr]
    exact ⟨_, [], rfl, ⟨rfl, rfl⟩, hs.fitD⟩
end Go.Proofs.YtkbhldicnamcdaaGreat.L
namespace Go.Proofs.YtkbhldicnamcdaaGreat.L
open Go Go.Proofs
attribute [local irreducible] pv fv pt fz RowF RowO rowP old pure_ elA Rd.int Rd.text Rd.flag Rd.msg Rd.rint Rd.rtext Rd.rflag Rd.rmsg
set_option maxRecDepth 100000
set_option linter.unusedSimpArgs false
set_option linter.unusedVariables false
theorem gr_msg (n : Nat) (hn : n ≤ 1099511627776) : Fn Tryz.prog 147 [.slice none 0 0, .int .i64 n].toArray [] (fun r post => ∃ p cap, r = .slice p 0 cap ∧ post = [RowO Kd.msg 56 p cap []]) := by
  refine Fn.enter (N := 27) Tryz.func147 rfl Tryz.ntmps147 tK rfl (fun ρ L => ?_)
  refine K.seq <| K.region <| KO.q rfl (q_assign rfl) <| KO.done <| K.seq <| K.seq <| K.region <| KO.q rfl (q_move rfl) <| KO.q rfl (q_lt rfl rfl) <| KO.done ?_
  refine K.dcond (s := 6) rfl (fun g6 => ?_) (fun g6 => ?_)
  · exact absurd g6 tO
  · refine K.skip <| K.seq <| K.seq <| K.region <| KO.q rfl (q_move rfl) <| KO.q rfl (q_move rfl) <| KO.q rfl (q_cap Tryz.underlying60 rfl) <| KO.q rfl (q_move rfl) <| KO.q rfl (q_len Tryz.underlying60 rfl) <| KO.q rfl (q_sub rfl rfl tN tN) <| KO.q rfl (q_is (q_sub rfl rfl tN tN) (show Value.int .i64 ((n : Int) - (((0 : Nat) : Int) - ((0 : Nat) : Int))) = .int .i64 (n : Int) by simp)) <| KO.q rfl (q_assign rfl) ?_
    refine KO.done <| K.seq <| K.region <| KO.q rfl (q_move rfl) <| KO.q rfl (q_gt rfl rfl) <| KO.done ?_
    refine K.dcond (s := 16) rfl (fun g16 => ?_) (fun g16 => ?_)
    · refine K.region <| KO.q rfl (q_move rfl) <| KO.q rfl (q_move rfl) <| KO.q rfl (q_cap Tryz.underlying60 rfl) <| KO.q rfl (q_cutH se_60 rfl rfl tN tN) <| KO.q rfl (q_move rfl) <| KO.loud rfl (l_growNil Kd.msg se_60 Tryz.underlying3 ⟨_, ze_56, rfl⟩ rfl rfl tO tO tO) ?_
      rintro _ _ ⟨b22, cap22, rfl, rfl⟩
      refine KO.q rfl (q_move rfl) <| KO.q rfl (q_len Tryz.underlying60 rfl) <| KO.q rfl (q_cutH se_60 rfl rfl tN tN) <| KO.q rfl (q_assign rfl) <| KO.done <| K.seq <| K.region <| KO.q rfl (q_move rfl) <| KO.q rfl (q_assign rfl) <| KO.done ?_
      refine kr1 Tryz.func147 Tryz.results147 rfl (fun w hs => ?_)
      first
        | exact ⟨_, [RowO Kd.msg 56 (some ⟨b22, 0, none⟩) cap22 []], rfl, ⟨some ⟨b22, 0, none⟩, cap22, rfl, rfl⟩, hs.fitD⟩
        | exact ⟨_, [RowO Kd.msg 56 none 0 []], rfl, ⟨none, 0, rfl, rfl⟩, hs.fitD⟩
    · refine K.st (fun w h => rowO_nil (k := Kd.msg) 56 h) <| K.skip <| K.seq <| K.region <| KO.q rfl (q_move rfl) <| KO.q rfl (q_assign rfl) <| KO.done ?_
      refine kr1 Tryz.func147 Tryz.results147 rfl (fun w hs => ?_)
      first
        | exact ⟨_, [RowO Kd.msg 56 (some ⟨b22, 0, none⟩) cap22 []], rfl, ⟨some ⟨b22, 0, none⟩, cap22, rfl, rfl⟩, hs.fitD⟩
        | exact ⟨_, [RowO Kd.msg 56 none 0 []], rfl, ⟨none, 0, rfl, rfl⟩, hs.fitD⟩
theorem flat_take_succ {l : List (Sl Msg)} {i : Nat} {e : Sl Msg} (h : l[i]? = some e) : (l.take (i + 1)).flatMap (·.l) = (l.take i).flatMap (·.l) ++ e.l := by
  rw [List.take_add_one, h]; simp
theorem flat_le {l : List (Sl Msg)} (i : Nat) : ((l.take i).flatMap (·.l)).length ≤ (l.flatMap (·.l)).length := by
  have : l.flatMap (·.l) = (l.take i).flatMap (·.l) ++ (l.drop i).flatMap (·.l) := by rw [← List.flatMap_append, List.take_append_drop]
  rw [this, List.length_append]; omega
set_option maxHeartbeats 800000 in
theorem cc_msg (q : Option Addr) (cap : Nat) (l : List (Sl Msg)) (hl : l.length ≤ 1000) (hb : (l.flatMap (·.l)).length ≤ 1099511627776) : Fn Tryz.prog 96 [.slice q l.length cap].toArray [RowF Kd.sl q l, NestSl Kd.msg l] (fun r post => ∃ q' c', r = .slice q' (l.flatMap (·.l)).length c' ∧ post = [RowF Kd.msg q' (l.flatMap (·.l))]) := by
  refine Fn.enter (N := 36) Tryz.func96 rfl Tryz.ntmps96 tK rfl (fun ρ L => ?_)
  refine K.seq <| K.region <| KO.q rfl (q_assign rfl) <| KO.done <| K.seq <| K.region <| KO.q rfl (q_assign rfl) <| KO.done <| K.seq <| K.seq <| K.region ?_
  refine KO.q rfl (q_move rfl) <| KO.q rfl (q_len Tryz.underlying188 rfl) <| KO.q rfl (q_move rfl) <| KO.done <| K.block ?_
  refine K.rloop (ι := { i : Nat // i ≤ l.length }) (fun x => [(11, .int .i64 x.1), (10, .int .i64 l.length), (9, .slice q l.length cap), (3, .int .i64 ((l.take x.1).flatMap (·.l)).length), (0, .slice q l.length cap)]) (fun x => l.length - x.1) ⟨0, Nat.zero_le _⟩ tS (fun x ih => ?_)
  obtain ⟨i, hi⟩ := x
  have hfl := flat_le (l := l) i
  dsimp only at hi ⊢
  refine K.seq <| K.region <| KO.q rfl (q_lt rfl rfl) <| KO.done <| K.seq ?_
  refine K.dcond (s := 12) rfl (fun g12 => ?_) (fun g12 => ?_)
  · obtain ⟨e, he⟩ : ∃ e, l[i]? = some e := ⟨_, List.getElem?_eq_getElem tO⟩
    have hf2 := flat_le (l := l) (i + 1)
    have hs2 := congrArg List.length (flat_take_succ he)
    rw [List.length_append] at hs2
    refine K.skip <| K.seq <| K.block <| K.seq <| K.region ?_
    first | refine KO.q rfl (q_ix _ se_188 rfl rfl rfl isF tM rfl tL) ?_ | refine KO.q rfl (q_ix _ se_188 rfl rfl rfl isO tM rfl tL) ?_
    first | refine KO.q rfl (q_ldE ck_60 rfl isF tM tE rfl) ?_ | refine KO.q rfl (q_ldE ck_60 rfl isO tM tE rfl) ?_
    refine KO.q rfl (q_assign rfl) <| KO.done <| K.seq <| K.region <| KO.q rfl (q_move rfl) <| KO.q rfl (q_move rfl) <| KO.q rfl (q_len Tryz.underlying60 rfl) <| KO.q rfl (q_add rfl rfl tN tN) <| KO.q rfl (q_assign rfl) <| KO.done ?_
    refine K.seq <| K.region <| KO.q rfl (q_move rfl) <| KO.q rfl (q_lt rfl rfl) <| KO.done ?_
    refine K.dcond (s := 20) rfl (fun g20 => ?_) (fun g20 => ?_)
    · exact absurd g20 tO
    · refine K.skip <| K.inBlock <| K.region <| KO.q rfl (q_add rfl rfl tN tN) <| KO.q rfl (q_move rfl) <| KO.done ?_
      refine K.subE (Env.sub_cons rfl (Env.sub_cons rfl (Env.sub_cons rfl (Env.sub_cons ?_ (Env.sub_cons rfl (Env.sub_nil _)))))) (ih ⟨i + 1, by omega⟩ (by show l.length - (i + 1) < l.length - i; omega))
      show _ = some (Value.int .i64 (((l.take (i + 1)).flatMap (·.l)).length : Int))
      rw [hs2]
      rfl
  · obtain rfl : i = l.length := by omega
    rw [List.take_length]
    refine K.exit rfl <| K.seq <| K.region <| KO.q rfl (q_move rfl) <| KO.loud rfl (OpL.callE rfl (gr_msg _ hb)) ?_
    rintro _ _ ⟨_, ⟨p1, cap1, rfl, rfl⟩, rfl⟩
    refine KO.q rfl (q_assign rfl) <| KO.done <| K.seq <| K.seq <| K.region <| KO.q rfl (q_move rfl) <| KO.q rfl (q_len Tryz.underlying188 rfl) <| KO.q rfl (q_move rfl) <| KO.done <| K.block ?_
    refine K.rounds2 (ι := { x : Nat × Option Addr × Nat // x.1 ≤ l.length }) (fun x => [(27, .int .i64 x.1.1), (26, .int .i64 l.length), (25, .slice q l.length cap), (6, .slice x.1.2.1 ((l.take x.1.1).flatMap (·.l)).length x.1.2.2)]) (fun x => [RowO Kd.msg 56 x.1.2.1 x.1.2.2 ((l.take x.1.1).flatMap (·.l)), RowF Kd.sl q l, NestSl Kd.msg l] ++ L) (fun x => l.length - x.1.1) ⟨(0, p1, cap1), Nat.zero_le _⟩ tS (fun w h => h.fitD) (fun x ih => ?_)
    obtain ⟨⟨i, p', cap'⟩, hi⟩ := x
    have hfl := flat_le (l := l) i
    dsimp only at hi ⊢
    refine K.seq <| K.region <| KO.q rfl (q_lt rfl rfl) <| KO.done <| K.seq ?_
    refine K.dcond (s := 28) rfl (fun g28 => ?_) (fun g28 => ?_)
    · obtain ⟨e, he⟩ : ∃ e, l[i]? = some e := ⟨_, List.getElem?_eq_getElem tO⟩
      have hf2 := flat_le (l := l) (i + 1)
      have hs2 := congrArg List.length (flat_take_succ he)
      rw [List.length_append] at hs2
      refine K.st (fun w h => nestSl_at (k := Kd.msg) (l := l) tM (List.mem_of_getElem? he) h) ?_
      refine K.skip <| K.seq <| K.block <| K.seq <| K.region ?_
      first | refine KO.q rfl (q_ix _ se_188 rfl rfl rfl isF tM rfl tL) ?_ | refine KO.q rfl (q_ix _ se_188 rfl rfl rfl isO tM rfl tL) ?_
      first | refine KO.q rfl (q_ldE ck_60 rfl isF tM tE rfl) ?_ | refine KO.q rfl (q_ldE ck_60 rfl isO tM tE rfl) ?_
      refine KO.q rfl (q_assign rfl) <| KO.done <| K.region <| KO.q rfl (q_move rfl) <| KO.q rfl (q_move rfl) <| KO.loud rfl (l_append Kd.msg se_60 Tryz.underlying60 ⟨_, ze_56, rfl⟩ tD rfl rfl tP (isF (p := e.q) (xs := e.l)) tM rfl rfl tO) ?_
      rintro _ _ ⟨p2, cap2, rfl, rfl⟩
      refine KO.q rfl (q_assign rfl) <| KO.done <| K.inBlock <| K.region <| KO.q rfl (q_add rfl rfl tN tN) <| KO.q rfl (q_move rfl) <| KO.done ?_
      rw [← flat_take_succ he]
      refine K.weak tS (fun w h => ?_) (ih ⟨(i + 1, p2, cap2), by show i + 1 ≤ l.length; omega⟩ (by show l.length - (i + 1) < l.length - i; omega))
      dsimp only
      exact h.fitD
    · obtain rfl : i = l.length := by omega
      rw [List.take_length]
      refine K.st (fun w h => rowO_freeze (h.pick tP)) <| K.exit rfl <| K.seq <| K.region <| KO.q rfl (q_move rfl) <| KO.q rfl (q_assign rfl) <| KO.done ?_
      refine kr1 Tryz.func96 Tryz.results96 rfl (fun w hs => ?_)
      exact ⟨_, [RowF Kd.msg p' (l.flatMap (·.l))], rfl, ⟨p', cap', rfl, rfl⟩, hs.fitD⟩
theorem all_any {α : Type} (l : List α) (p : α → Bool) : l.all p = !(l.any (fun x => !p x)) := by rw [List.not_any_eq_all_not]; simp
theorem so1 (r : Rw) : Fn Tryz.prog 179 [.agg r.cells.toArray].toArray [] (fun v post => v = .bool (!r.right) ∧ post = []) := by
  refine Fn.enter (N := 6) Tryz.func179 rfl Tryz.ntmps179 tK rfl (fun ρ L => ?_)
  refine K.seq <| K.region <| KO.loud rfl (l_box rfl rfl) ?_
  rintro _ _ ⟨b1, rfl, rfl⟩
  refine KO.q rfl (q_assign rfl) <| KO.done <| K.seq <| K.region <| KO.q rfl (q_loadN ck_136 rfl rfl tC) <| KO.loud rfl (OpL.callD rfl (h := rw_Right _)) ?_
  rintro _ _ ⟨_, ⟨rfl, rfl⟩, rfl⟩
  refine KO.q rfl (q_not rfl) <| KO.q rfl (q_assign rfl) <| KO.done ?_
  refine kr1 Tryz.func179 Tryz.results179 rfl (fun w hs => ?_)
  exact ⟨_, [], rfl, ⟨rfl, rfl⟩, hs.fitD⟩
theorem so2 (m : Msg) : Fn Tryz.prog 180 [.agg m.cells.toArray].toArray [] (fun v post => v = .bool (!m.right) ∧ post = []) := by
  refine Fn.enter (N := 6) Tryz.func180 rfl Tryz.ntmps180 tK rfl (fun ρ L => ?_)
  refine K.seq <| K.region <| KO.loud rfl (l_box rfl rfl) ?_
  rintro _ _ ⟨b1, rfl, rfl⟩
  refine KO.q rfl (q_assign rfl) <| KO.done <| K.seq <| K.region <| KO.q rfl (q_loadN ck_56 rfl rfl tC) <| KO.loud rfl (OpL.callD rfl (h := msg_Right _)) ?_
  rintro _ _ ⟨_, ⟨rfl, rfl⟩, rfl⟩
  refine KO.q rfl (q_not rfl) <| KO.q rfl (q_assign rfl) <| KO.done ?_
  refine kr1 Tryz.func180 Tryz.results180 rfl (fun w hs => ?_)
  exact ⟨_, [], rfl, ⟨rfl, rfl⟩, hs.fitD⟩
abbrev wrongV : Value := .func (.func 180) #[] #[]
theorem so3 (b : Nat) (m : Msg) : Fn Tryz.prog 183 [.agg m.cells.toArray, .pointer (some ⟨b, 0, none⟩)].toArray [pv b 165 [wrongV]] (fun v post => v = .bool (m.claimed || !m.right) ∧ post = [pv b 165 [wrongV]]) := by
  refine Fn.enter (N := 11) Tryz.func183 rfl Tryz.ntmps183 tK rfl (fun ρ L => ?_)
  refine K.seq <| K.region <| KO.loud rfl (l_box rfl rfl) ?_
  rintro _ _ ⟨b2, rfl, rfl⟩
  refine KO.q rfl (q_assign rfl) <| KO.done <| K.seq <| K.region <| KO.q rfl (q_field fo_56_3 rfl) <| KO.q rfl (q_load1D ck_4 rfl) <| KO.q rfl (q_move rfl) ?_
  first | refine KO.dsplit 6 rfl (fun g6 => ?_) (fun g6 => ?_) | refine KO.split 6 rfl (fun g6 => ?_) (fun g6 => ?_)
  · refine KO.skip rfl <| KO.skip rfl <| KO.skip rfl <| KO.q rfl (q_pickT rfl rfl) <| KO.q rfl (q_assign rfl) <| KO.done ?_
    refine kr1 Tryz.func183 Tryz.results183 rfl (fun w hs => ?_)
    exact ⟨_, [pv b 165 [wrongV]], rfl, ⟨by rw [g6]; rfl, rfl⟩, hs.fitD⟩
  · refine KO.q rfl (q_load1D ck_165 rfl) <| KO.q rfl (q_loadN ck_56 rfl rfl tC) <| KO.loud rfl (OpL.callCG (first := []) (captured := []) rfl rfl tG (so2 m)) ?_
    rintro _ _ ⟨_, ⟨rfl, rfl⟩, rfl⟩
    refine KO.q rfl (q_pickF rfl rfl) <| KO.q rfl (q_assign rfl) <| KO.done ?_
    refine kr1 Tryz.func183 Tryz.results183 rfl (fun w hs => ?_)
    exact ⟨_, [pv b 165 [wrongV]], rfl, ⟨by rw [g6]; rfl, rfl⟩, hs.fitD⟩
set_option maxHeartbeats 1600000 in
theorem st_object (o : Oz) (hok : o.ok) : Fn Tryz.prog 133 [.agg o.cells.toArray].toArray (ObL o) (fun v post => v = .bool o.x.right ∧ post = []) := by
  obtain ⟨⟨hs1, hs2, hs3, hs4, hs5, hs6, hs7, hs8, hs9⟩, hc1, hc2, hc3⟩ := hok
  have hz : ∀ r ∈ o.x.rows, (r.key.size : Int) ≤ 9223372036854775807 := fun r hr => by have := (hs4 r hr).1; omega
  refine Fn.enter (N := 59) Tryz.func133 rfl Tryz.ntmps133 tK rfl (fun ρ L => ?_)
  refine K.seq <| K.region <| KO.loud rfl (l_box rfl rfl) ?_
  rintro _ _ ⟨b1, rfl, rfl⟩
  refine KO.q rfl (q_assign rfl) <| KO.done <| K.seq <| K.seq <| K.region <| KO.q rfl (q_field fo_62_0 rfl) <| KO.q rfl (q_load1D ck_9 rfl) <| KO.q rfl (q_field fo_62_1 rfl) <| KO.q rfl (q_load1D ck_3 rfl) <| KO.q rfl (q_field fo_62_2 rfl) <| KO.q rfl (q_load1D ck_3 rfl) ?_
  refine KO.loud rfl (OpL.callD rfl (h := eff_Object _ _ _)) ?_
  rintro _ _ ⟨_, ⟨rfl, rfl⟩, rfl⟩
  refine KO.q rfl (q_not rfl) <| KO.done ?_
  refine K.bcond (s := 11) rfl (fun g11 => ?_) (fun g11 => ?_)
  · have hr : o.x.right = false := by
      unfold Ob.right
      rw [show (effName o.x.name && effKind o.x.kind o.x.limit) = false by simpa only [Bool.not_eq_true'] using g11]
      exact Bool.false_and _
    refine K.seq <| K.region <| KO.q rfl (q_assign rfl) <| KO.done ?_
    refine kr1 Tryz.func133 Tryz.results133 rfl (fun w hs => ?_)
    exact ⟨_, [], rfl, ⟨by
      refine congrArg Value.bool (Eq.trans ?_ hr.symm)
      clear hr hs hs1 hs2 hs3 hs4 hs5 hs6 hs7 hs8 hs9 hc1 hc2 hc3 hz
      generalize o.x.rows.any (fun r => !r.right) = A1 at *
      generalize o.x.msgs.any (fun m => !m.right) = A2 at *
      generalize o.x.dead.any (fun m => m.claimed || !m.right) = A3 at *
      clear g11
      simp_all, rfl⟩, hs.fitD⟩
  · have hr : o.x.right = (if o.x.kind = 1 then decide ((o.x.msgs.length : Int) = 0) && decide ((o.x.dead.length : Int) = 0) && risesR o.x.rows && !(o.x.rows.any (fun r => !r.right)) else decide ((o.x.rows.length : Int) = 0) && risesM o.x.msgs && !(o.x.msgs.any (fun m => !m.right)) && !(o.x.dead.any (fun m => m.claimed || !m.right))) := by
      unfold Ob.right
      rw [show (effName o.x.name && effKind o.x.kind o.x.limit) = true by simpa only [Bool.not_eq_false'] using g11, all_any o.x.rows, all_any o.x.msgs, all_any o.x.dead, Bool.true_and]
      simp only [Bool.not_and, Bool.not_not]
    refine K.skip <| K.seq <| K.seq <| K.region <| KO.q rfl (q_field fo_62_1 rfl) <| KO.q rfl (q_load1D ck_3 rfl) <| KO.q rfl (q_eq rfl rfl) <| KO.done ?_
    refine K.dcond (s := 14) rfl (fun g14 => ?_) (fun g14 => ?_)
    · refine K.seq <| K.region <| KO.q rfl (q_field fo_62_4 rfl) <| KO.q rfl (q_load1D ck_60 rfl) <| KO.q rfl (q_len Tryz.underlying60 rfl) <| KO.q rfl (q_eq rfl rfl) <| KO.q rfl (q_move rfl) ?_
      refine KO.dsplit 19 rfl (fun g19 => ?_) (fun g19 => ?_)
      · refine KO.q rfl (q_field fo_62_5 rfl) <| KO.q rfl (q_load1D ck_60 rfl) <| KO.q rfl (q_len Tryz.underlying60 rfl) <| KO.q rfl (q_eq rfl rfl) <| KO.q rfl (q_pickT rfl rfl) <| KO.q rfl (q_move rfl) ?_
        refine KO.dsplit 25 rfl (fun g25 => ?_) (fun g25 => ?_)
        · refine KO.q rfl (q_field fo_62_3 rfl) <| KO.q rfl (q_load1D ck_59 rfl) <| KO.loud rfl (OpL.callD rfl (h := nd_Rises _ _ _ tN (by assumption))) ?_
          rintro _ _ ⟨_, ⟨rfl, rfl⟩, rfl⟩
          refine KO.q rfl (q_pickT rfl rfl) <| KO.q rfl (q_move rfl) ?_
          refine KO.split 30 rfl (fun g30 => ?_) (fun g30 => ?_)
          · refine KO.q rfl (q_field fo_62_3 rfl) <| KO.q rfl (q_load1D ck_59 rfl) <| KO.st (fun w h => St.emp h) <| KO.loud rfl (OpL.callD rfl (h := cof_rw emp o.z.q1 o.z.c1 o.x.rows 179 [] (fun r => !r.right) tO (fun x _ => (so1 x).frame1 emp))) ?_
            rintro _ _ ⟨_, ⟨rfl, rfl⟩, rfl⟩
            refine KO.q rfl (q_not rfl) <| KO.q rfl (q_pickT rfl rfl) <| KO.q rfl (q_assign rfl) <| KO.done ?_
            refine kr1 Tryz.func133 Tryz.results133 rfl (fun w hs => ?_)
            exact ⟨_, [], rfl, ⟨by
              refine congrArg Value.bool (Eq.trans ?_ hr.symm)
              clear hr hs hs1 hs2 hs3 hs4 hs5 hs6 hs7 hs8 hs9 hc1 hc2 hc3 hz
              generalize o.x.rows.any (fun r => !r.right) = A1 at *
              generalize o.x.msgs.any (fun m => !m.right) = A2 at *
              generalize o.x.dead.any (fun m => m.claimed || !m.right) = A3 at *
              clear g11
              simp_all, rfl⟩, hs.fitD⟩
          · refine KO.skip rfl <| KO.skip rfl <| KO.skip rfl <| KO.skip rfl <| KO.q rfl (q_pickF rfl rfl) <| KO.q rfl (q_assign rfl) <| KO.done ?_
            refine kr1 Tryz.func133 Tryz.results133 rfl (fun w hs => ?_)
            exact ⟨_, [], rfl, ⟨by
              refine congrArg Value.bool (Eq.trans ?_ hr.symm)
              clear hr hs hs1 hs2 hs3 hs4 hs5 hs6 hs7 hs8 hs9 hc1 hc2 hc3 hz
              generalize o.x.rows.any (fun r => !r.right) = A1 at *
              generalize o.x.msgs.any (fun m => !m.right) = A2 at *
              generalize o.x.dead.any (fun m => m.claimed || !m.right) = A3 at *
              clear g11
              simp_all, rfl⟩, hs.fitD⟩
        · refine KO.skip rfl <| KO.skip rfl <| KO.skip rfl <| KO.q rfl (q_pickF rfl rfl) <| KO.q rfl (q_move rfl) <| KO.skip rfl <| KO.skip rfl <| KO.skip rfl <| KO.skip rfl <| KO.q rfl (q_pickF rfl rfl) ?_
          refine KO.q rfl (q_assign rfl) <| KO.done ?_
          refine kr1 Tryz.func133 Tryz.results133 rfl (fun w hs => ?_)
          exact ⟨_, [], rfl, ⟨by
            refine congrArg Value.bool (Eq.trans ?_ hr.symm)
            clear hr hs hs1 hs2 hs3 hs4 hs5 hs6 hs7 hs8 hs9 hc1 hc2 hc3 hz
            generalize o.x.rows.any (fun r => !r.right) = A1 at *
            generalize o.x.msgs.any (fun m => !m.right) = A2 at *
            generalize o.x.dead.any (fun m => m.claimed || !m.right) = A3 at *
            clear g11
            simp_all, rfl⟩, hs.fitD⟩
      · refine KO.skip rfl <| KO.skip rfl <| KO.skip rfl <| KO.skip rfl <| KO.q rfl (q_pickF rfl rfl) <| KO.q rfl (q_move rfl) <| KO.skip rfl <| KO.skip rfl <| KO.skip rfl <| KO.q rfl (q_pickF rfl rfl) ?_
        refine KO.q rfl (q_move rfl) <| KO.skip rfl <| KO.skip rfl <| KO.skip rfl <| KO.skip rfl <| KO.q rfl (q_pickF rfl rfl) <| KO.q rfl (q_assign rfl) <| KO.done ?_
        refine kr1 Tryz.func133 Tryz.results133 rfl (fun w hs => ?_)
        exact ⟨_, [], rfl, ⟨by
          refine congrArg Value.bool (Eq.trans ?_ hr.symm)
          clear hr hs hs1 hs2 hs3 hs4 hs5 hs6 hs7 hs8 hs9 hc1 hc2 hc3 hz
          generalize o.x.rows.any (fun r => !r.right) = A1 at *
          generalize o.x.msgs.any (fun m => !m.right) = A2 at *
          generalize o.x.dead.any (fun m => m.claimed || !m.right) = A3 at *
          clear g11
          simp_all, rfl⟩, hs.fitD⟩
    · refine K.skip <| K.seq <| K.region <| KO.loud rfl (l_alloc zo_165) ?_
      rintro _ _ ⟨b3, rfl, rfl⟩
      refine KO.loudN rfl (l_store1 ck_165 rfl rfl rfl tP tA) ?_
      rintro _ _ ⟨rfl, rfl⟩
      refine KO.done <| K.seq <| K.region <| KO.q rfl (q_field fo_62_3 rfl) <| KO.q rfl (q_load1D ck_59 rfl) <| KO.q rfl (q_len Tryz.underlying59 rfl) <| KO.q rfl (q_eq rfl rfl) <| KO.q rfl (q_move rfl) ?_
      refine KO.dsplit 40 rfl (fun g40 => ?_) (fun g40 => ?_)
      · refine KO.q rfl (q_field fo_62_4 rfl) <| KO.q rfl (q_load1D ck_60 rfl) <| KO.loud rfl (OpL.callD rfl (h := qu_Rises _ _ _ tN)) ?_
        rintro _ _ ⟨_, ⟨rfl, rfl⟩, rfl⟩
        refine KO.q rfl (q_pickT rfl rfl) <| KO.q rfl (q_move rfl) ?_
        refine KO.split 45 rfl (fun g45 => ?_) (fun g45 => ?_)
        · refine KO.q rfl (q_field fo_62_4 rfl) <| KO.q rfl (q_load1D ck_60 rfl) <| KO.q rfl (q_load1D ck_165 rfl) <| KO.st (fun w h => St.emp h) <| KO.loud rfl (OpL.callD rfl (h := cof_msg emp o.z.q2 o.z.c2 o.x.msgs 180 [] (fun m => !m.right) tO (fun x _ => (so2 x).frame1 emp))) ?_
          rintro _ _ ⟨_, ⟨rfl, rfl⟩, rfl⟩
          refine KO.q rfl (q_not rfl) <| KO.q rfl (q_pickT rfl rfl) <| KO.q rfl (q_move rfl) ?_
          refine KO.split 52 rfl (fun g52 => ?_) (fun g52 => ?_)
          · refine KO.q rfl (q_field fo_62_5 rfl) <| KO.q rfl (q_load1D ck_60 rfl) <| KO.q rfl (q_func rfl rfl) <| KO.loud rfl (OpL.callD rfl (h := cof_msg (pv b3 165 [wrongV]) o.z.q3 o.z.c3 o.x.dead 183 [.pointer (some ⟨b3, 0, none⟩)] (fun m => m.claimed || !m.right) tO (fun x _ => so3 b3 x))) ?_
            rintro _ _ ⟨_, ⟨rfl, rfl⟩, rfl⟩
            refine KO.q rfl (q_not rfl) <| KO.q rfl (q_pickT rfl rfl) <| KO.q rfl (q_assign rfl) <| KO.done ?_
            refine kr1 Tryz.func133 Tryz.results133 rfl (fun w hs => ?_)
            exact ⟨_, [], rfl, ⟨by
              refine congrArg Value.bool (Eq.trans ?_ hr.symm)
              clear hr hs hs1 hs2 hs3 hs4 hs5 hs6 hs7 hs8 hs9 hc1 hc2 hc3 hz
              generalize o.x.rows.any (fun r => !r.right) = A1 at *
              generalize o.x.msgs.any (fun m => !m.right) = A2 at *
              generalize o.x.dead.any (fun m => m.claimed || !m.right) = A3 at *
              clear g11
              simp_all, rfl⟩, hs.fitD⟩
          · refine KO.skip rfl <| KO.skip rfl <| KO.skip rfl <| KO.skip rfl <| KO.skip rfl <| KO.q rfl (q_pickF rfl rfl) <| KO.q rfl (q_assign rfl) <| KO.done ?_
            refine kr1 Tryz.func133 Tryz.results133 rfl (fun w hs => ?_)
            exact ⟨_, [], rfl, ⟨by
              refine congrArg Value.bool (Eq.trans ?_ hr.symm)
              clear hr hs hs1 hs2 hs3 hs4 hs5 hs6 hs7 hs8 hs9 hc1 hc2 hc3 hz
              generalize o.x.rows.any (fun r => !r.right) = A1 at *
              generalize o.x.msgs.any (fun m => !m.right) = A2 at *
              generalize o.x.dead.any (fun m => m.claimed || !m.right) = A3 at *
              clear g11
              simp_all, rfl⟩, hs.fitD⟩
        · refine KO.skip rfl <| KO.skip rfl <| KO.skip rfl <| KO.skip rfl <| KO.skip rfl <| KO.q rfl (q_pickF rfl rfl) <| KO.q rfl (q_move rfl) <| KO.skip rfl <| KO.skip rfl <| KO.skip rfl ?_
          refine KO.skip rfl <| KO.skip rfl <| KO.q rfl (q_pickF rfl rfl) <| KO.q rfl (q_assign rfl) <| KO.done ?_
          refine kr1 Tryz.func133 Tryz.results133 rfl (fun w hs => ?_)
          exact ⟨_, [], rfl, ⟨by
            refine congrArg Value.bool (Eq.trans ?_ hr.symm)
            clear hr hs hs1 hs2 hs3 hs4 hs5 hs6 hs7 hs8 hs9 hc1 hc2 hc3 hz
            generalize o.x.rows.any (fun r => !r.right) = A1 at *
            generalize o.x.msgs.any (fun m => !m.right) = A2 at *
            generalize o.x.dead.any (fun m => m.claimed || !m.right) = A3 at *
            clear g11
            simp_all, rfl⟩, hs.fitD⟩
      · refine KO.skip rfl <| KO.skip rfl <| KO.skip rfl <| KO.q rfl (q_pickF rfl rfl) <| KO.q rfl (q_move rfl) <| KO.skip rfl <| KO.skip rfl <| KO.skip rfl <| KO.skip rfl <| KO.skip rfl ?_
        refine KO.q rfl (q_pickF rfl rfl) <| KO.q rfl (q_move rfl) <| KO.skip rfl <| KO.skip rfl <| KO.skip rfl <| KO.skip rfl <| KO.skip rfl <| KO.q rfl (q_pickF rfl rfl) <| KO.q rfl (q_assign rfl) <| KO.done ?_
        refine kr1 Tryz.func133 Tryz.results133 rfl (fun w hs => ?_)
        exact ⟨_, [], rfl, ⟨by
          refine congrArg Value.bool (Eq.trans ?_ hr.symm)
          clear hr hs hs1 hs2 hs3 hs4 hs5 hs6 hs7 hs8 hs9 hc1 hc2 hc3 hz
          generalize o.x.rows.any (fun r => !r.right) = A1 at *
          generalize o.x.msgs.any (fun m => !m.right) = A2 at *
          generalize o.x.dead.any (fun m => m.claimed || !m.right) = A3 at *
          clear g11
          simp_all, rfl⟩, hs.fitD⟩
end Go.Proofs.YtkbhldicnamcdaaGreat.L
namespace Go.Proofs.YtkbhldicnamcdaaGreat.L
open Go Go.Proofs
attribute [local irreducible] pv fv pt fz RowF RowO rowP old pure_ elA Rd.int Rd.text Rd.flag Rd.msg Rd.rint Rd.rtext Rd.rflag Rd.rmsg
set_option maxRecDepth 100000
set_option linter.unusedSimpArgs false
set_option linter.unusedVariables false
def Sz.few (s : Sz) : Prop := ∀ o ∈ s.l, o.x.msgs.length + o.x.dead.length ≤ 1099511627776
def idsTo (s : Sz) (i : Nat) : List Int := (s.l.take i).flatMap (fun o => o.x.ids)
theorem idsTo_succ {s : Sz} {i : Nat} {o : Oz} (h : s.l[i]? = some o) : idsTo s (i + 1) = idsTo s i ++ o.x.ids := by
  unfold idsTo
  rw [List.take_add_one, h]; simp
theorem idsTo_all (s : Sz) : idsTo s s.l.length = s.st.ids := by
  unfold idsTo Stt.ids Sz.st
  rw [List.take_length, List.flatMap_map]
theorem ids_pre {s : Sz} {i : Nat} {o : Oz} (h : s.l[i]? = some o) : ∃ r, s.st.ids = idsTo s i ++ o.x.ids ++ r := by
  rw [← idsTo_succ h]
  refine ⟨((s.l.drop (i + 1)).flatMap (fun o => o.x.ids)), ?_⟩
  rw [← idsTo_all, idsTo, List.take_length, idsTo, ← List.flatMap_append, List.take_append_drop]
theorem once_dup {s : Sz} {i k : Nat} {o : Oz} {m : Msg} (h : s.l[i]? = some o) (hm : (o.x.msgs ++ o.x.dead)[k]? = some m) (hd : m.id ∈ idsTo s i ++ ((o.x.msgs ++ o.x.dead).take k).map (·.id)) : s.st.once = false := by
  unfold Stt.once
  rw [decide_eq_false, Bool.false_and]
  intro hn
  obtain ⟨r, hr⟩ := ids_pre h
  rw [hr] at hn
  have h1 := (List.nodup_append.1 hn).1
  have e : o.x.ids = ((o.x.msgs ++ o.x.dead).take k).map (·.id) ++ m.id :: ((o.x.msgs ++ o.x.dead).drop (k + 1)).map (·.id) := by
    obtain ⟨hk, e⟩ := List.getElem?_eq_some_iff.1 hm
    have : o.x.msgs ++ o.x.dead = (o.x.msgs ++ o.x.dead).take k ++ m :: (o.x.msgs ++ o.x.dead).drop (k + 1) := by
      rw [← e, List.getElem_cons_drop hk, List.take_append_drop]
    unfold Ob.ids
    conv => lhs; rw [this]
    simp
  rw [e, ← List.append_assoc] at h1
  exact (List.nodup_append.1 h1).2.2 _ hd _ List.mem_cons_self rfl
theorem once_big {s : Sz} {i k : Nat} {o : Oz} {m : Msg} (h : s.l[i]? = some o) (hm : (o.x.msgs ++ o.x.dead)[k]? = some m) (hd : ¬ m.id < s.next) : s.st.once = false := by
  have hin : m.id ∈ s.st.ids := by
    obtain ⟨r, hr⟩ := ids_pre h
    rw [hr]
    exact List.mem_append_left _ (List.mem_append_right _ (List.mem_map.2 ⟨m, List.mem_of_getElem? hm, rfl⟩))
  have : s.st.ids.all (fun n => decide (n < s.st.next)) = false := by
    rw [List.all_eq_false]
    exact ⟨m.id, hin, by rw [decide_eq_true_eq]; exact hd⟩
  unfold Stt.once
  rw [this, Bool.and_false]
theorem ids_step {l : List Msg} {k : Nat} {m : Msg} (h : l[k]? = some m) (A : List Int) : A ++ (l.take (k + 1)).map (·.id) = (A ++ (l.take k).map (·.id)) ++ [m.id] := by
  rw [ids_snoc h, List.append_assoc]
set_option maxHeartbeats 1600000 in
theorem st_once (s : Sz) (hok : s.ok) (hfew : s.few) : Fn Tryz.prog 135 [.agg s.cells.toArray].toArray (StL s) (fun v post => v = .bool s.st.once ∧ post = []) := by
  obtain ⟨hn0, hl, hlc, hall⟩ := hok
  refine Fn.enter (N := 43) Tryz.func135 rfl Tryz.ntmps135 tK rfl (fun ρ L => ?_)
  refine K.seq <| K.region <| KO.loud rfl (l_box rfl rfl) ?_
  rintro _ _ ⟨b1, rfl, rfl⟩
  refine KO.q rfl (q_assign rfl) <| KO.done <| K.seq <| K.region <| KO.loud rfl (l_makeMap (fun n : Int => Value.int .i64 n)) ?_
  rintro _ _ ⟨b8, rfl, rfl⟩
  refine KO.q rfl (q_assign rfl) <| KO.done <| K.seq <| K.seq <| K.region <| KO.q rfl (q_field fo_47_1 rfl) <| KO.q rfl (q_load1D ck_45 rfl) <| KO.q rfl (q_len Tryz.underlying45 rfl) <| KO.q rfl (q_move rfl) <| KO.done <| K.block ?_
  refine K.rounds2 (ι := { x : Nat × List (Int × Value) // x.1 ≤ s.l.length ∧ (idsTo s x.1).Nodup ∧ (∀ n ∈ idsTo s x.1, n < s.next) ∧ Seen (idsTo s x.1) x.2 }) (fun x => [(12, .int .i64 x.1.1), (11, .int .i64 s.l.length), (10, .slice s.q s.l.length s.c), (3, .map (some b8)), (1, .pointer (some ⟨b1, 0, none⟩))]) (fun x => [mpO (fun n : Int => Value.int .i64 n) b8 x.1.2, pv b1 47 s.cells, RowF Kd.oz s.q s.l, NestF s.l] ++ L) (fun x => s.l.length - x.1.1) ⟨(0, []), Nat.zero_le _, by simp [idsTo], by simp [idsTo], Seen.nil⟩ tS (fun w h => h.fitD) (fun x ih => ?_)
  obtain ⟨⟨i, es⟩, hi, hnd, hlt, hse⟩ := x
  dsimp only at hi hnd hlt hse ⊢
  refine K.seq <| K.region <| KO.q rfl (q_lt rfl rfl) <| KO.done <| K.seq ?_
  refine K.dcond (s := 13) rfl (fun g13 => ?_) (fun g13 => ?_)
  · obtain ⟨o, ho⟩ : ∃ e, s.l[i]? = some e := ⟨_, List.getElem?_eq_getElem tO⟩
    have hmo := List.mem_of_getElem? ho
    have hfo := hfew o hmo
    refine K.st (fun w h => nestF_at (l := s.l) tM hmo h) <| K.skip <| K.seq <| K.block <| K.seq <| K.region ?_
    first | refine KO.q rfl (q_ix _ se_45 rfl rfl rfl isF tM rfl tL) ?_ | refine KO.q rfl (q_ix _ se_45 rfl rfl rfl isO tM rfl tL) ?_
    first | refine KO.q rfl (q_ldEN ck_62 rfl isF tM tE) ?_ | refine KO.q rfl (q_ldEN ck_62 rfl isO tM tE) ?_
    refine KO.loud rfl (l_alloc zo_62) ?_
    rintro _ _ ⟨b5, rfl, rfl⟩
    refine KO.loudN rfl (l_storeAll ck_62 rfl rfl ⟨rfl, rfl⟩ (oz_one _) tP) ?_
    rintro _ _ ⟨rfl, rfl⟩
    refine KO.done <| K.seq <| K.region <| KO.q rfl (q_field fo_62_4 rfl) <| KO.q rfl (q_load1D ck_60 rfl) <| KO.q rfl (q_field fo_62_5 rfl) <| KO.q rfl (q_load1D ck_60 rfl) <| KO.loud rfl (l_slice sz_188_2 rfl tF) ?_
    rintro _ _ ⟨b20, rfl, rfl⟩
    refine KO.st (fun w h => pv_flat (n := 1) (enc := Sl.cells) (hl := fun _ => rfl) (h1 := fun _ v h => by simp [Sl.cells] at h; subst h; rfl) [⟨o.z.q2, o.z.c2, o.x.msgs⟩, ⟨o.z.q3, o.z.c3, o.x.dead⟩] rfl h) <| KO.st (fun w h => nestSl_nil (k := Kd.msg) h) <| KO.st (fun w h => nestSl_cons (k := Kd.msg) (l := []) ⟨o.z.q3, o.z.c3, o.x.dead⟩ tM tM h) <| KO.st (fun w h => nestSl_cons (k := Kd.msg) (l := [⟨o.z.q3, o.z.c3, o.x.dead⟩]) ⟨o.z.q2, o.z.c2, o.x.msgs⟩ tM tM h) <| KO.loud rfl (OpL.callE rfl (cc_msg (some ⟨b20, 0, none⟩) 2 [⟨o.z.q2, o.z.c2, o.x.msgs⟩, ⟨o.z.q3, o.z.c3, o.x.dead⟩] (by simp) (by simp; omega))) ?_
    rintro _ _ ⟨_, ⟨q9, c9, rfl, rfl⟩, rfl⟩
    rw [show [(⟨o.z.q2, o.z.c2, o.x.msgs⟩ : Sl Msg), ⟨o.z.q3, o.z.c3, o.x.dead⟩].flatMap (·.l) = o.x.msgs ++ o.x.dead by simp]
    have hcl : (o.x.msgs ++ o.x.dead).length ≤ 1099511627776 := by rw [List.length_append]; exact hfo
    refine KO.q rfl (q_len Tryz.underlying60 rfl) <| KO.q rfl (q_move rfl) <| KO.done <| K.block ?_
    refine K.rounds2 (ι := { x : Nat × List (Int × Value) // x.1 ≤ (o.x.msgs ++ o.x.dead).length ∧ (idsTo s i ++ ((o.x.msgs ++ o.x.dead).take x.1).map (·.id)).Nodup ∧ (∀ n ∈ idsTo s i ++ ((o.x.msgs ++ o.x.dead).take x.1).map (·.id), n < s.next) ∧ Seen (idsTo s i ++ ((o.x.msgs ++ o.x.dead).take x.1).map (·.id)) x.2 }) (fun x => [(23, .int .i64 x.1.1), (22, .int .i64 (o.x.msgs ++ o.x.dead).length), (21, .slice q9 (o.x.msgs ++ o.x.dead).length c9), (12, .int .i64 i), (11, .int .i64 s.l.length), (10, .slice s.q s.l.length s.c), (3, .map (some b8)), (1, .pointer (some ⟨b1, 0, none⟩))]) (fun x => [mpO (fun n : Int => Value.int .i64 n) b8 x.1.2, RowF Kd.msg q9 (o.x.msgs ++ o.x.dead), pv b1 47 s.cells, RowF Kd.oz s.q s.l, NestF s.l] ++ L) (fun x => (o.x.msgs ++ o.x.dead).length - x.1.1) ⟨(0, es), Nat.zero_le _, by simpa using hnd, by simpa using hlt, by simpa using hse⟩ tS (fun w h => h.fitD) (fun x ih2 => ?_)
    obtain ⟨⟨k, es2⟩, hk, hnd2, hlt2, hse2⟩ := x
    dsimp only at hk hnd2 hlt2 hse2 ⊢
    refine K.seq <| K.region <| KO.q rfl (q_lt rfl rfl) <| KO.done <| K.seq ?_
    refine K.dcond (s := 24) rfl (fun g24 => ?_) (fun g24 => ?_)
    · obtain ⟨m, hm⟩ : ∃ e, (o.x.msgs ++ o.x.dead)[k]? = some e := ⟨_, List.getElem?_eq_getElem tO⟩
      have hlk := hse2.get m.id
      refine K.skip <| K.seq <| K.block <| K.seq <| K.region ?_
      first | refine KO.q rfl (q_ix _ se_60 rfl rfl rfl isF tM rfl tL) ?_ | refine KO.q rfl (q_ix _ se_60 rfl rfl rfl isO tM rfl tL) ?_
      first | refine KO.q rfl (q_ldEN ck_56 rfl isF tM tE) ?_ | refine KO.q rfl (q_ldEN ck_56 rfl isO tM tE) ?_
      refine KO.loud rfl (l_alloc zo_56) ?_
      rintro _ _ ⟨b7, rfl, rfl⟩
      refine KO.loudN rfl (l_storeAll ck_56 rfl rfl ⟨rfl, rfl⟩ (msg_one _) tP) ?_
      rintro _ _ ⟨rfl, rfl⟩
      refine KO.done <| K.seq <| K.seq <| K.region <| KO.q rfl (q_move rfl) <| KO.q rfl (q_field fo_56_0 rfl) <| KO.q rfl (q_load1D ck_3 rfl) <| KO.q rfl (q_is (q_lookup Tryz.underlying215 (mkey_int Tryz.underlying3) zv_bool rfl rfl tM) hlk) <| KO.q rfl (q_move rfl) ?_
      first | refine KO.dsplit 31 rfl (fun g31 => ?_) (fun g31 => ?_) | refine KO.split 31 rfl (fun g31 => ?_) (fun g31 => ?_)
      · refine KO.skip rfl <| KO.skip rfl <| KO.skip rfl <| KO.skip rfl <| KO.skip rfl <| KO.q rfl (q_pickT rfl rfl) <| KO.done <| K.yes rfl <| K.seq ?_
        have hr : s.st.once = false := by
          first
            | exact once_dup ho hm g31
            | exact once_big ho hm tO
        refine K.region <| KO.q rfl (q_assign rfl) <| KO.done ?_
        refine kr1 Tryz.func135 Tryz.results135 rfl (fun w hs => ?_)
        rw [hr]
        exact ⟨_, [], rfl, ⟨rfl, rfl⟩, hs.fitD⟩
      · refine KO.q rfl (q_field fo_56_0 rfl) <| KO.q rfl (q_load1D ck_3 rfl) <| KO.q rfl (q_field fo_47_0 rfl) <| KO.q rfl (q_load1D ck_3 rfl) <| KO.q rfl (q_ge rfl rfl) <| KO.q rfl (q_pickF rfl rfl) <| KO.done ?_
        refine K.dcond (s := 37) rfl (fun g37 => ?_) (fun g37 => ?_)
        · refine K.seq ?_
          have hr : s.st.once = false := by
            first
              | exact once_dup ho hm g31
              | exact once_big ho hm tO
          refine K.region <| KO.q rfl (q_assign rfl) <| KO.done ?_
          refine kr1 Tryz.func135 Tryz.results135 rfl (fun w hs => ?_)
          rw [hr]
          exact ⟨_, [], rfl, ⟨rfl, rfl⟩, hs.fitD⟩
        · refine K.skip <| K.region <| KO.q rfl (q_move rfl) <| KO.q rfl (q_field fo_56_0 rfl) <| KO.q rfl (q_load1D ck_3 rfl) <| KO.loudN rfl (l_mapUpdate Tryz.underlying215 (mkey_int Tryz.underlying3) rfl rfl rfl tP) ?_
          rintro _ _ ⟨rfl, rfl⟩
          refine KO.done <| K.inBlock <| K.region <| KO.q rfl (q_add rfl rfl tN tN) <| KO.q rfl (q_move rfl) <| KO.done ?_
          have hst := ids_step hm (idsTo s i)
          refine K.weak tS (fun w h => ?_) (ih2 ⟨(k + 1, mapPut es2 m.id (.bool true)), by show k + 1 ≤ _; omega, by show (idsTo s i ++ ((o.x.msgs ++ o.x.dead).take (k + 1)).map (·.id)).Nodup; rw [hst, nodup_snoc]; exact ⟨hnd2, g31⟩, ?_, by show Seen (idsTo s i ++ ((o.x.msgs ++ o.x.dead).take (k + 1)).map (·.id)) _; rw [hst]; exact hse2.put m.id⟩ (by show (o.x.msgs ++ o.x.dead).length - (k + 1) < (o.x.msgs ++ o.x.dead).length - k; omega))
          · dsimp only
            exact h.fitD
          · show ∀ n ∈ idsTo s i ++ ((o.x.msgs ++ o.x.dead).take (k + 1)).map (·.id), n < s.next
            rw [hst]
            intro n hn
            rcases List.mem_append.1 hn with h | h
            · exact hlt2 n h
            · rw [List.mem_singleton.1 h]; omega
    · obtain rfl : k = (o.x.msgs ++ o.x.dead).length := by omega
      have hids : idsTo s i ++ ((o.x.msgs ++ o.x.dead).take (o.x.msgs ++ o.x.dead).length).map (·.id) = idsTo s (i + 1) := by rw [List.take_length, idsTo_succ ho]; rfl
      rw [hids] at hnd2 hlt2 hse2
      refine K.exit rfl <| K.inBlock <| K.region <| KO.q rfl (q_add rfl rfl tN tN) <| KO.q rfl (q_move rfl) <| KO.done ?_
      refine K.weak tS (fun w h => ?_) (ih ⟨(i + 1, es2), by show i + 1 ≤ s.l.length; omega, hnd2, hlt2, hse2⟩ (by show s.l.length - (i + 1) < s.l.length - i; omega))
      dsimp only
      exact h.fitD
  · refine K.exit rfl <| K.seq ?_
    have hr : s.st.once = true := by
      obtain rfl : i = s.l.length := by omega
      rw [idsTo_all] at hnd hlt
      unfold Stt.once
      rw [decide_eq_true hnd, Bool.true_and, List.all_eq_true]
      exact fun n hn => decide_eq_true (hlt n hn)
    refine K.region <| KO.q rfl (q_assign rfl) <| KO.done ?_
    refine kr1 Tryz.func135 Tryz.results135 rfl (fun w hs => ?_)
    rw [hr]
    exact ⟨_, [], rfl, ⟨rfl, rfl⟩, hs.fitD⟩
end Go.Proofs.YtkbhldicnamcdaaGreat.L
namespace Go.Proofs.YtkbhldicnamcdaaGreat.L
open Go Go.Proofs
attribute [local irreducible] pv fv pt fz RowF RowO rowP old pure_ elA Rd.int Rd.text Rd.flag Rd.msg Rd.rint Rd.rtext Rd.rflag Rd.rmsg
set_option maxRecDepth 100000
set_option linter.unusedSimpArgs false
set_option linter.unusedVariables false
theorem adj_map {α β : Type} (f : β → β → Bool) (g : α → β) : ∀ l : List α, adj f (l.map g) = adj (fun a b => f (g a) (g b)) l
  | [] => rfl
  | [_] => rfl
  | a :: b :: l => by
    have := adj_map f g (b :: l)
    simp only [List.map_cons] at this ⊢
    simp only [adj, this]
theorem sz_right (s : Sz) : s.st.right = (decide (1 ≤ s.next) && decide (s.next ≤ 1099511627776) && decide ((s.l.length : Int) ≤ 20) && s.l.all (fun o => o.x.right) && adj (fun a b => decide (cmpB a.x.name b.x.name < 0)) s.l && s.st.once) := by
  unfold Stt.right
  show (decide (1 ≤ s.next) && decide (s.next ≤ 1099511627776) && decide (((s.l.map (·.x)).length : Int) ≤ 20) && (s.l.map (·.x)).all Ob.right && adj _ (s.l.map (·.x)) && s.st.once) = _
  rw [List.length_map, List.all_map, adj_map]
  rfl
theorem right_range {s : Sz} (h : ¬ (1 ≤ s.next ∧ s.next ≤ 1099511627776 ∧ (s.l.length : Int) ≤ 20)) : s.st.right = false := by
  rw [sz_right]
  by_cases h1 : 1 ≤ s.next
  · by_cases h2 : s.next ≤ 1099511627776
    · have h3 : ¬ (s.l.length : Int) ≤ 20 := fun h3 => h ⟨h1, h2, h3⟩
      rw [decide_eq_false h3]; simp
    · rw [decide_eq_false h2]; simp
  · rw [decide_eq_false h1]; simp
theorem right_obj {s : Sz} {i : Nat} {o : Oz} (h : s.l[i]? = some o) (hr : o.x.right = false) : s.st.right = false := by
  have : s.l.all (fun o => o.x.right) = false := by rw [List.all_eq_false]; exact ⟨o, List.mem_of_getElem? h, by rw [hr]; simp⟩
  rw [sz_right, this]; simp
theorem right_adj {s : Sz} {i : Nat} (h : adj (fun a b => decide (cmpB a.x.name b.x.name < 0)) (s.l.take i) = false) : s.st.right = false := by
  rw [sz_right, adj_false_take h]; simp
theorem right_once {s : Sz} (h : 1 ≤ s.next ∧ s.next ≤ 1099511627776 ∧ (s.l.length : Int) ≤ 20) (h1 : s.l.all (fun o => o.x.right) = true) (h2 : adj (fun a b => decide (cmpB a.x.name b.x.name < 0)) s.l = true) : s.st.right = s.st.once := by
  rw [sz_right, h1, h2, decide_eq_true h.1, decide_eq_true h.2.1, decide_eq_true h.2.2]; simp
set_option maxHeartbeats 1600000 in
theorem st_Right (s : Sz) (hok : s.ok) (hfew : s.few) : Fn Tryz.prog 71 [.agg s.cells.toArray].toArray (StL s) (fun v post => v = .bool s.st.right ∧ post = []) := by
  have hok' := hok
  obtain ⟨hn0, hl, hlc, hall⟩ := hok'
  refine Fn.enter (N := 50) Tryz.func71 rfl Tryz.ntmps71 tK rfl (fun ρ L => ?_)
  refine K.seq <| K.region <| KO.loud rfl (l_box rfl rfl) ?_
  rintro _ _ ⟨b1, rfl, rfl⟩
  refine KO.q rfl (q_assign rfl) <| KO.done <| K.seq <| K.seq <| K.region <| KO.q rfl (q_field fo_47_0 rfl) <| KO.q rfl (q_load1D ck_3 rfl) <| KO.q rfl (q_lt rfl rfl) <| KO.q rfl (q_move rfl) ?_
  refine KO.dsplit 8 rfl (fun g8 => ?_) (fun g8 => ?_)
  · refine KO.skip rfl <| KO.skip rfl <| KO.skip rfl <| KO.q rfl (q_pickT rfl rfl) <| KO.q rfl (q_move rfl) <| KO.skip rfl <| KO.skip rfl <| KO.skip rfl <| KO.skip rfl <| KO.q rfl (q_pickT rfl rfl) ?_
    refine KO.done <| K.yes rfl <| K.seq ?_
    have hr : s.st.right = false := right_range tO
    rw [hr]
    refine K.region <| KO.q rfl (q_assign rfl) <| KO.done ?_
    refine kr1 Tryz.func71 Tryz.results71 rfl (fun w hs => ?_)
    exact ⟨_, [], rfl, ⟨rfl, rfl⟩, hs.fitD⟩
  · refine KO.q rfl (q_field fo_47_0 rfl) <| KO.q rfl (q_load1D ck_3 rfl) <| KO.q rfl (q_gt rfl rfl) <| KO.q rfl (q_pickF rfl rfl) <| KO.q rfl (q_move rfl) ?_
    refine KO.dsplit 13 rfl (fun g13 => ?_) (fun g13 => ?_)
    · refine KO.skip rfl <| KO.skip rfl <| KO.skip rfl <| KO.skip rfl <| KO.q rfl (q_pickT rfl rfl) <| KO.done <| K.yes rfl <| K.seq ?_
      have hr : s.st.right = false := right_range tO
      rw [hr]
      refine K.region <| KO.q rfl (q_assign rfl) <| KO.done ?_
      refine kr1 Tryz.func71 Tryz.results71 rfl (fun w hs => ?_)
      exact ⟨_, [], rfl, ⟨rfl, rfl⟩, hs.fitD⟩
    · refine KO.q rfl (q_field fo_47_1 rfl) <| KO.q rfl (q_load1D ck_45 rfl) <| KO.q rfl (q_len Tryz.underlying45 rfl) <| KO.q rfl (q_gt rfl rfl) <| KO.q rfl (q_pickF rfl rfl) <| KO.done ?_
      refine K.dcond (s := 18) rfl (fun g18 => ?_) (fun g18 => ?_)
      · refine K.seq ?_
        have hr : s.st.right = false := right_range tO
        rw [hr]
        refine K.region <| KO.q rfl (q_assign rfl) <| KO.done ?_
        refine kr1 Tryz.func71 Tryz.results71 rfl (fun w hs => ?_)
        exact ⟨_, [], rfl, ⟨rfl, rfl⟩, hs.fitD⟩
      · refine K.skip <| K.seq <| K.seq ?_
        have hrange : 1 ≤ s.next ∧ s.next ≤ 1099511627776 ∧ (s.l.length : Int) ≤ 20 := by omega
        refine K.region <| KO.q rfl (q_field fo_47_1 rfl) <| KO.q rfl (q_load1D ck_45 rfl) <| KO.q rfl (q_len Tryz.underlying45 rfl) <| KO.q rfl (q_move rfl) <| KO.done <| K.block ?_
        refine K.rounds2 (ι := { x : Nat // x ≤ s.l.length ∧ (s.l.take x).all (fun o => o.x.right) = true ∧ adj (fun a b => decide (cmpB a.x.name b.x.name < 0)) (s.l.take x) = true }) (fun x => [(22, .int .i64 x.1), (21, .int .i64 s.l.length), (20, .slice s.q s.l.length s.c), (1, .pointer (some ⟨b1, 0, none⟩))]) (fun x => [pv b1 47 s.cells, RowF Kd.oz s.q s.l, NestF s.l] ++ L) (fun x => s.l.length - x.1) ⟨0, Nat.zero_le _, rfl, rfl⟩ tS (fun w h => h.fitD) (fun x ih => ?_)
        obtain ⟨i, hi, ha, hadj⟩ := x
        dsimp only at hi ha hadj ⊢
        refine K.seq <| K.region <| KO.q rfl (q_lt rfl rfl) <| KO.done <| K.seq ?_
        refine K.dcond (s := 23) rfl (fun g23 => ?_) (fun g23 => ?_)
        · obtain ⟨o, ho⟩ : ∃ e, s.l[i]? = some e := ⟨_, List.getElem?_eq_getElem tO⟩
          have hmo := List.mem_of_getElem? ho
          have hoo := hall o hmo
          refine K.st (fun w h => nestF_at (l := s.l) tM hmo h) <| K.skip <| K.seq <| K.block <| K.seq <| K.region <| KO.q rfl (q_move rfl) ?_
          first | refine KO.q rfl (q_ix _ se_45 rfl rfl rfl isF tM rfl tL) ?_ | refine KO.q rfl (q_ix _ se_45 rfl rfl rfl isO tM rfl tL) ?_
          first | refine KO.q rfl (q_ldEN ck_62 rfl isF tM tE) ?_ | refine KO.q rfl (q_ldEN ck_62 rfl isO tM tE) ?_
          refine KO.loud rfl (l_alloc zo_62) ?_
          rintro _ _ ⟨b4, rfl, rfl⟩
          refine KO.q rfl (q_assign rfl) <| KO.loudN rfl (l_storeAll ck_62 rfl rfl ⟨rfl, rfl⟩ (oz_one _) tP) ?_
          rintro _ _ ⟨rfl, rfl⟩
          refine KO.done <| K.seq ?_
          refine K.drawU (by repeat (first | apply SubL.pers | apply SubL.own (b := b4) | apply SubL.own (b := b1) | apply SubL.drop | exact SubL.none)) mixed ?_
          refine dq 0 rfl (q_loadN ck_62 rfl rfl tC) <| dq1 1 rfl (OpL.callD rfl (h := st_object _ (by assumption))) (.inl tK) ?_
          rintro _ _ ⟨_, ⟨rfl, rfl⟩, rfl⟩
          refine dq 2 rfl (q_not rfl) <| dq 3 rfl (q_move rfl) ?_
          refine D.split 30 rfl (fun g30 => ?_) (fun g30 => ?_)
          · refine D.skip 4 rfl tK tK (fun _ h => h.subD) <| D.skip 5 rfl tK tK (fun _ h => h.subD) <| D.skip 6 rfl tK tK (fun _ h => h.subD) <| D.gone 7 rfl tK tK (fun _ h => h.subD) <| D.gone 8 rfl tK tK (fun _ h => h.subD) <| D.gone 9 rfl tK tK (fun _ h => h.subD) <| D.gone 10 rfl tK tK (fun _ h => h.subD) <| D.gone 11 rfl tK tK (fun _ h => h.subD) <| D.gone 12 rfl tK tK (fun _ h => h.subD) <| D.gone 13 rfl tK tK (fun _ h => h.subD) ?_
            refine D.gone 14 rfl tK tK (fun _ h => h.subD) <| D.gone 15 rfl tK tK (fun _ h => h.subD) <| D.gone 16 rfl tK tK (fun _ h => h.subD) <| D.gone 17 rfl tK tK (fun _ h => h.subD) <| D.skip 18 rfl tK tK (fun _ h => h.subD) <| dq 19 rfl (q_pickT rfl rfl) <| D.done tK <| K.yes rfl <| K.seq ?_
            have hr : s.st.right = false := by
              first
                | exact right_obj ho (by simpa using g30)
                | exact right_adj (adj2_false tO hp ho (decide_eq_false tO))
            rw [hr]
            refine K.region <| KO.q rfl (q_assign rfl) <| KO.done ?_
            refine kr1 Tryz.func71 Tryz.results71 rfl (fun w hs => ?_)
            exact ⟨_, [], rfl, ⟨rfl, rfl⟩, hs.fitD⟩
          · refine dq 4 rfl (q_move rfl) <| dq 5 rfl (q_gt rfl rfl) <| dq 6 rfl (q_move rfl) ?_
            refine D.dsplit 33 rfl (fun g33 => ?_) (fun g33 => ?_)
            · obtain ⟨p, hp⟩ : ∃ e, s.l[i - 1]? = some e := ⟨_, List.getElem?_eq_getElem tO⟩
              have hsub : (i : Int) - 1 = ((i - 1 : Nat) : Int) := by omega
              refine dq 7 rfl (q_field fo_47_1 rfl) <| dq 8 rfl (q_load1D ck_45 rfl) <| dq 9 rfl (q_move rfl) <| dq 10 rfl (q_sub rfl rfl tN tN) <| dq 11 rfl (q_ix (i - 1) se_45 rfl rfl hsub isF tM rfl tO) <| dq 12 rfl (q_fieldE fo_62_0 rfl) ?_
              first | refine dq 13 rfl (q_ldE ck_9 rfl isF tM tE rfl) ?_ | refine dq 13 rfl (q_ldE ck_9 rfl isO tM tE rfl) ?_
              refine dq 14 rfl (q_field fo_62_0 rfl) <| dq 15 rfl (q_load1D ck_9 rfl) <| dq1 16 rfl (OpL.callD rfl (h := ord_Keys _ _)) (.inr (by rintro _ _ ⟨_, ⟨rfl, rfl⟩, rfl⟩ w h; exact h.subD)) ?_
              rintro _ _ ⟨_, ⟨rfl, rfl⟩, rfl⟩
              refine dq 17 rfl (q_ge rfl rfl) <| dq 18 rfl (q_pickT rfl rfl) <| dq 19 rfl (q_pickF rfl rfl) <| D.done tK ?_
              refine K.dcond (s := 46) rfl (fun g46 => ?_) (fun g46 => ?_)
              · refine K.seq ?_
                have hr : s.st.right = false := by
                  first
                    | exact right_obj ho (by simpa using g30)
                    | exact right_adj (adj2_false tO hp ho (decide_eq_false tO))
                rw [hr]
                refine K.region <| KO.q rfl (q_assign rfl) <| KO.done ?_
                refine kr1 Tryz.func71 Tryz.results71 rfl (fun w hs => ?_)
                exact ⟨_, [], rfl, ⟨rfl, rfl⟩, hs.fitD⟩
              · refine K.skip <| K.inBlock <| K.region <| KO.q rfl (q_add rfl rfl tN tN) <| KO.q rfl (q_move rfl) <| KO.done ?_
                refine K.weak tS (fun w h => h.fitD) (ih ⟨i + 1, by omega, by rw [all_take_succ ho, ha]; simpa using g30, ?_⟩ (by show s.l.length - (i + 1) < s.l.length - i; omega))
                first
                  | exact adj2_true tO hp ho hadj (decide_eq_true tO)
                  | (obtain rfl : i = 0 := by omega
                     exact adj_take_one _ _)
            · refine D.skip 7 rfl tK tK (fun _ h => h.subD) <| D.skip 8 rfl tK tK (fun _ h => h.subD) <| D.skip 9 rfl tK tK (fun _ h => h.subD) <| D.skip 10 rfl tK tK (fun _ h => h.subD) <| D.skip 11 rfl tK tK (fun _ h => h.subD) <| D.skip 12 rfl tK tK (fun _ h => h.subD) <| D.skip 13 rfl tK tK (fun _ h => h.subD) <| D.skip 14 rfl tK tK (fun _ h => h.subD) <| D.skip 15 rfl tK tK (fun _ h => h.subD) <| D.skip 16 rfl tK tK (fun _ h => h.subD) ?_
              refine D.skip 17 rfl tK tK (fun _ h => h.subD) <| dq 18 rfl (q_pickF rfl rfl) <| dq 19 rfl (q_pickF rfl rfl) <| D.done tK <| K.no rfl <| K.skip <| K.inBlock <| K.region <| KO.q rfl (q_add rfl rfl tN tN) <| KO.q rfl (q_move rfl) <| KO.done ?_
              refine K.weak tS (fun w h => h.fitD) (ih ⟨i + 1, by omega, by rw [all_take_succ ho, ha]; simpa using g30, ?_⟩ (by show s.l.length - (i + 1) < s.l.length - i; omega))
              first
                | exact adj2_true tO hp ho hadj (decide_eq_true tO)
                | (obtain rfl : i = 0 := by omega
                   exact adj_take_one _ _)
        · obtain rfl : i = s.l.length := by omega
          rw [List.take_length] at ha hadj
          have hr := right_once hrange ha hadj
          rw [hr]
          refine K.exit rfl <| K.seq <| K.region <| KO.q rfl (q_loadN ck_47 rfl rfl tC) <| KO.loud rfl (OpL.callD rfl (h := st_once _ (by assumption) (by assumption))) ?_
          rintro _ _ ⟨_, ⟨rfl, rfl⟩, rfl⟩
          refine KO.q rfl (q_assign rfl) <| KO.done ?_
          refine kr1 Tryz.func71 Tryz.results71 rfl (fun w hs => ?_)
          exact ⟨_, [], rfl, ⟨rfl, rfl⟩, hs.fitD⟩
set_option maxHeartbeats 800000 in
theorem ref_SameObject (a b : Oz) (hok : a.ok) : Fn Tryz.prog 51 [.agg a.cells.toArray, .agg b.cells.toArray].toArray (ObL a ++ ObL b) (fun v post => v = .bool (decide (a.x = b.x)) ∧ post = []) := by
  obtain ⟨⟨_, _, _, _, _, _, hs7, hs8, hs9⟩, _, _, _⟩ := hok
  refine Fn.enter (N := 45) Tryz.func51 rfl Tryz.ntmps51 tK rfl (fun ρ L => ?_)
  refine K.seq <| K.region <| KO.loud rfl (l_box rfl rfl) ?_
  rintro _ _ ⟨b2, rfl, rfl⟩
  refine KO.loud rfl (l_box rfl rfl) ?_
  rintro _ _ ⟨b3, rfl, rfl⟩
  refine KO.q rfl (q_assign rfl) <| KO.done <| K.seq <| K.region <| KO.q rfl (q_field fo_62_0 rfl) <| KO.q rfl (q_load1D ck_9 rfl) <| KO.q rfl (q_field fo_62_0 rfl) <| KO.q rfl (q_load1D ck_9 rfl) <| KO.q rfl (q_seq rfl rfl) <| KO.q rfl (q_move rfl) ?_
  refine KO.dsplit 10 rfl (fun g10 => ?_) (fun g10 => ?_)
  · refine KO.q rfl (q_field fo_62_1 rfl) <| KO.q rfl (q_load1D ck_3 rfl) <| KO.q rfl (q_field fo_62_1 rfl) <| KO.q rfl (q_load1D ck_3 rfl) <| KO.q rfl (q_eq rfl rfl) <| KO.q rfl (q_pickT rfl rfl) <| KO.q rfl (q_move rfl) ?_
    refine KO.dsplit 17 rfl (fun g17 => ?_) (fun g17 => ?_)
    · refine KO.q rfl (q_field fo_62_2 rfl) <| KO.q rfl (q_load1D ck_3 rfl) <| KO.q rfl (q_field fo_62_2 rfl) <| KO.q rfl (q_load1D ck_3 rfl) <| KO.q rfl (q_eq rfl rfl) <| KO.q rfl (q_pickT rfl rfl) <| KO.q rfl (q_move rfl) ?_
      refine KO.dsplit 24 rfl (fun g24 => ?_) (fun g24 => ?_)
      · refine KO.q rfl (q_field fo_62_3 rfl) <| KO.q rfl (q_load1D ck_59 rfl) <| KO.q rfl (q_field fo_62_3 rfl) <| KO.q rfl (q_load1D ck_59 rfl) <| KO.loud rfl (OpL.callD rfl (h := ref_SameRows _ _ _ _ _ _ tN)) ?_
        rintro _ _ ⟨_, ⟨rfl, rfl⟩, rfl⟩
        refine KO.q rfl (q_pickT rfl rfl) <| KO.q rfl (q_move rfl) ?_
        refine KO.split 31 rfl (fun g31 => ?_) (fun g31 => ?_)
        · refine KO.q rfl (q_field fo_62_4 rfl) <| KO.q rfl (q_load1D ck_60 rfl) <| KO.q rfl (q_field fo_62_4 rfl) <| KO.q rfl (q_load1D ck_60 rfl) <| KO.loud rfl (OpL.callD rfl (h := ref_SameMsgs _ _ _ _ _ _ tN)) ?_
          rintro _ _ ⟨_, ⟨rfl, rfl⟩, rfl⟩
          refine KO.q rfl (q_pickT rfl rfl) <| KO.q rfl (q_move rfl) ?_
          refine KO.split 38 rfl (fun g38 => ?_) (fun g38 => ?_)
          · refine KO.q rfl (q_field fo_62_5 rfl) <| KO.q rfl (q_load1D ck_60 rfl) <| KO.q rfl (q_field fo_62_5 rfl) <| KO.q rfl (q_load1D ck_60 rfl) <| KO.loud rfl (OpL.callD rfl (h := ref_SameMsgs _ _ _ _ _ _ tN)) ?_
            rintro _ _ ⟨_, ⟨rfl, rfl⟩, rfl⟩
            refine KO.q rfl (q_pickT rfl rfl) <| KO.q rfl (q_assign rfl) <| KO.done ?_
            refine kr1 Tryz.func51 Tryz.results51 rfl (fun w hs => ?_)
            exact ⟨_, [], rfl, ⟨by
              refine congrArg Value.bool ?_
              clear hs
              first
                | exact decide_eq_decide.2 (by rw [ob_ext]; simp_all)
                | exact (decide_eq_false (by rw [ob_ext]; simp_all)).symm, rfl⟩, hs.fitD⟩
          · refine KO.skip rfl <| KO.skip rfl <| KO.skip rfl <| KO.skip rfl <| KO.skip rfl <| KO.q rfl (q_pickF rfl rfl) <| KO.q rfl (q_assign rfl) <| KO.done ?_
            refine kr1 Tryz.func51 Tryz.results51 rfl (fun w hs => ?_)
            exact ⟨_, [], rfl, ⟨by
              refine congrArg Value.bool ?_
              clear hs
              first
                | exact decide_eq_decide.2 (by rw [ob_ext]; simp_all)
                | exact (decide_eq_false (by rw [ob_ext]; simp_all)).symm, rfl⟩, hs.fitD⟩
        · refine KO.skip rfl <| KO.skip rfl <| KO.skip rfl <| KO.skip rfl <| KO.skip rfl <| KO.q rfl (q_pickF rfl rfl) <| KO.q rfl (q_move rfl) <| KO.skip rfl <| KO.skip rfl <| KO.skip rfl ?_
          refine KO.skip rfl <| KO.skip rfl <| KO.q rfl (q_pickF rfl rfl) <| KO.q rfl (q_assign rfl) <| KO.done ?_
          refine kr1 Tryz.func51 Tryz.results51 rfl (fun w hs => ?_)
          exact ⟨_, [], rfl, ⟨by
            refine congrArg Value.bool ?_
            clear hs
            first
              | exact decide_eq_decide.2 (by rw [ob_ext]; simp_all)
              | exact (decide_eq_false (by rw [ob_ext]; simp_all)).symm, rfl⟩, hs.fitD⟩
      · refine KO.skip rfl <| KO.skip rfl <| KO.skip rfl <| KO.skip rfl <| KO.skip rfl <| KO.q rfl (q_pickF rfl rfl) <| KO.q rfl (q_move rfl) <| KO.skip rfl <| KO.skip rfl <| KO.skip rfl ?_
        refine KO.skip rfl <| KO.skip rfl <| KO.q rfl (q_pickF rfl rfl) <| KO.q rfl (q_move rfl) <| KO.skip rfl <| KO.skip rfl <| KO.skip rfl <| KO.skip rfl <| KO.skip rfl <| KO.q rfl (q_pickF rfl rfl) ?_
        refine KO.q rfl (q_assign rfl) <| KO.done ?_
        refine kr1 Tryz.func51 Tryz.results51 rfl (fun w hs => ?_)
        exact ⟨_, [], rfl, ⟨by
          refine congrArg Value.bool ?_
          clear hs
          first
            | exact decide_eq_decide.2 (by rw [ob_ext]; simp_all)
            | exact (decide_eq_false (by rw [ob_ext]; simp_all)).symm, rfl⟩, hs.fitD⟩
    · refine KO.skip rfl <| KO.skip rfl <| KO.skip rfl <| KO.skip rfl <| KO.skip rfl <| KO.q rfl (q_pickF rfl rfl) <| KO.q rfl (q_move rfl) <| KO.skip rfl <| KO.skip rfl <| KO.skip rfl ?_
      refine KO.skip rfl <| KO.skip rfl <| KO.q rfl (q_pickF rfl rfl) <| KO.q rfl (q_move rfl) <| KO.skip rfl <| KO.skip rfl <| KO.skip rfl <| KO.skip rfl <| KO.skip rfl <| KO.q rfl (q_pickF rfl rfl) ?_
      refine KO.q rfl (q_move rfl) <| KO.skip rfl <| KO.skip rfl <| KO.skip rfl <| KO.skip rfl <| KO.skip rfl <| KO.q rfl (q_pickF rfl rfl) <| KO.q rfl (q_assign rfl) <| KO.done ?_
      refine kr1 Tryz.func51 Tryz.results51 rfl (fun w hs => ?_)
      exact ⟨_, [], rfl, ⟨by
        refine congrArg Value.bool ?_
        clear hs
        first
          | exact decide_eq_decide.2 (by rw [ob_ext]; simp_all)
          | exact (decide_eq_false (by rw [ob_ext]; simp_all)).symm, rfl⟩, hs.fitD⟩
  · refine KO.skip rfl <| KO.skip rfl <| KO.skip rfl <| KO.skip rfl <| KO.skip rfl <| KO.q rfl (q_pickF rfl rfl) <| KO.q rfl (q_move rfl) <| KO.skip rfl <| KO.skip rfl <| KO.skip rfl ?_
    refine KO.skip rfl <| KO.skip rfl <| KO.q rfl (q_pickF rfl rfl) <| KO.q rfl (q_move rfl) <| KO.skip rfl <| KO.skip rfl <| KO.skip rfl <| KO.skip rfl <| KO.skip rfl <| KO.q rfl (q_pickF rfl rfl) ?_
    refine KO.q rfl (q_move rfl) <| KO.skip rfl <| KO.skip rfl <| KO.skip rfl <| KO.skip rfl <| KO.skip rfl <| KO.q rfl (q_pickF rfl rfl) <| KO.q rfl (q_move rfl) <| KO.skip rfl <| KO.skip rfl ?_
    refine KO.skip rfl <| KO.skip rfl <| KO.skip rfl <| KO.q rfl (q_pickF rfl rfl) <| KO.q rfl (q_assign rfl) <| KO.done ?_
    refine kr1 Tryz.func51 Tryz.results51 rfl (fun w hs => ?_)
    exact ⟨_, [], rfl, ⟨by
      refine congrArg Value.bool ?_
      clear hs
      first
        | exact decide_eq_decide.2 (by rw [ob_ext]; simp_all)
        | exact (decide_eq_false (by rw [ob_ext]; simp_all)).symm, rfl⟩, hs.fitD⟩
theorem map_take_eq {a b : List Oz} {i : Nat} {x y : Oz} (h1 : a[i]? = some x) (h2 : b[i]? = some y) (h : x.x = y.x) (ht : (a.take i).map (·.x) = (b.take i).map (·.x)) : (a.take (i + 1)).map (·.x) = (b.take (i + 1)).map (·.x) := by
  rw [List.take_add_one, List.take_add_one, h1, h2, List.map_append, List.map_append, ht]; simp [h]
set_option maxHeartbeats 1600000 in
theorem ref_SameState (a b : Sz) (hok : a.ok) : Fn Tryz.prog 20 [.agg a.cells.toArray, .agg b.cells.toArray].toArray (StL a ++ StL b) (fun v post => v = .bool (decide (a.st = b.st)) ∧ post = []) := by
  obtain ⟨hn0, hl, hlc, hall⟩ := hok
  refine Fn.enter (N := 39) Tryz.func20 rfl Tryz.ntmps20 tK rfl (fun ρ L => ?_)
  refine K.seq <| K.region <| KO.loud rfl (l_box rfl rfl) ?_
  rintro _ _ ⟨b2, rfl, rfl⟩
  refine KO.loud rfl (l_box rfl rfl) ?_
  rintro _ _ ⟨b3, rfl, rfl⟩
  refine KO.q rfl (q_assign rfl) <| KO.done <| K.seq <| K.seq <| K.region <| KO.q rfl (q_field fo_47_0 rfl) <| KO.q rfl (q_load1D ck_3 rfl) <| KO.q rfl (q_field fo_47_0 rfl) <| KO.q rfl (q_load1D ck_3 rfl) <| KO.q rfl (q_ne rfl rfl) <| KO.q rfl (q_move rfl) ?_
  refine KO.dsplit 11 rfl (fun g11 => ?_) (fun g11 => ?_)
  · refine KO.skip rfl <| KO.skip rfl <| KO.skip rfl <| KO.skip rfl <| KO.skip rfl <| KO.skip rfl <| KO.skip rfl <| KO.q rfl (q_pickT rfl rfl) <| KO.done <| K.yes rfl ?_
    refine K.seq ?_
    have hr : decide (a.st = b.st) = false := decide_eq_false (fun e => by
      have e1 := congrArg Stt.next e
      have e2 := congrArg (fun s => s.objs.length) e
      simp [Sz.st] at e1 e2
      first
        | exact g11 e1
        | (rw [e2] at g19; exact g19 rfl))
    rw [hr]
    refine K.region <| KO.q rfl (q_assign rfl) <| KO.done ?_
    refine kr1 Tryz.func20 Tryz.results20 rfl (fun w hs => ?_)
    exact ⟨_, [], rfl, ⟨rfl, rfl⟩, hs.fitD⟩
  · refine KO.q rfl (q_field fo_47_1 rfl) <| KO.q rfl (q_load1D ck_45 rfl) <| KO.q rfl (q_len Tryz.underlying45 rfl) <| KO.q rfl (q_field fo_47_1 rfl) <| KO.q rfl (q_load1D ck_45 rfl) <| KO.q rfl (q_len Tryz.underlying45 rfl) <| KO.q rfl (q_ne rfl rfl) <| KO.q rfl (q_pickF rfl rfl) <| KO.done ?_
    refine K.dcond (s := 19) rfl (fun g19 => ?_) (fun g19 => ?_)
    · refine K.seq ?_
      have hr : decide (a.st = b.st) = false := decide_eq_false (fun e => by
        have e1 := congrArg Stt.next e
        have e2 := congrArg (fun s => s.objs.length) e
        simp [Sz.st] at e1 e2
        first
          | exact g11 e1
          | (rw [e2] at g19; exact g19 rfl))
      rw [hr]
      refine K.region <| KO.q rfl (q_assign rfl) <| KO.done ?_
      refine kr1 Tryz.func20 Tryz.results20 rfl (fun w hs => ?_)
      exact ⟨_, [], rfl, ⟨rfl, rfl⟩, hs.fitD⟩
    · refine K.skip <| K.seq <| K.seq <| K.region <| KO.q rfl (q_assign rfl) <| KO.done <| K.block ?_
      refine K.rounds2 (ι := { i : Nat // i ≤ a.l.length ∧ (a.l.take i).map (·.x) = (b.l.take i).map (·.x) }) (fun x => [(5, .int .i64 x.1), (2, .pointer (some ⟨b2, 0, none⟩)), (3, .pointer (some ⟨b3, 0, none⟩))]) (fun _ => [pv b2 47 a.cells, pv b3 47 b.cells, RowF Kd.oz a.q a.l, NestF a.l, RowF Kd.oz b.q b.l, NestF b.l] ++ L) (fun x => a.l.length - x.1) ⟨0, Nat.zero_le _, rfl⟩ tS (fun w h => h.fitD) (fun x ih => ?_)
      obtain ⟨i, hi, ht⟩ := x
      dsimp only at hi ht ⊢
      refine K.seq <| K.seq <| K.region <| KO.q rfl (q_move rfl) <| KO.q rfl (q_field fo_47_1 rfl) <| KO.q rfl (q_load1D ck_45 rfl) <| KO.q rfl (q_len Tryz.underlying45 rfl) <| KO.q rfl (q_lt rfl rfl) <| KO.done ?_
      refine K.dcond (s := 24) rfl (fun g24 => ?_) (fun g24 => ?_)
      · obtain ⟨e1, he1⟩ : ∃ e, a.l[i]? = some e := ⟨_, List.getElem?_eq_getElem tO⟩
        obtain ⟨e2, he2⟩ : ∃ e, b.l[i]? = some e := ⟨_, List.getElem?_eq_getElem tO⟩
        have hoo := hall e1 (List.mem_of_getElem? he1)
        refine K.st (fun w h => nestF_at (l := a.l) tM (List.mem_of_getElem? he1) h) ?_
        refine K.st (fun w h => nestF_at (l := b.l) tM (List.mem_of_getElem? he2) h) ?_
        refine K.skip <| K.seq <| K.block <| K.seq ?_
        refine K.drawU (by repeat (first | apply SubL.pers | apply SubL.own (b := b2) | apply SubL.own (b := b3) | apply SubL.drop | exact SubL.none)) mixed ?_
        refine dq 0 rfl (q_field fo_47_1 rfl) <| dq 1 rfl (q_load1D ck_45 rfl) <| dq 2 rfl (q_move rfl) ?_
        first | refine dq 3 rfl (q_ix _ se_45 rfl rfl rfl isF tM rfl tL) ?_ | refine dq 3 rfl (q_ix _ se_45 rfl rfl rfl isO tM rfl tL) ?_
        first | refine dq 4 rfl (q_ldEN ck_62 rfl isF tM tE) ?_ | refine dq 4 rfl (q_ldEN ck_62 rfl isO tM tE) ?_
        refine dq 5 rfl (q_field fo_47_1 rfl) <| dq 6 rfl (q_load1D ck_45 rfl) <| dq 7 rfl (q_move rfl) ?_
        first | refine dq 8 rfl (q_ix _ se_45 rfl rfl rfl isF tM rfl tL) ?_ | refine dq 8 rfl (q_ix _ se_45 rfl rfl rfl isO tM rfl tL) ?_
        first | refine dq 9 rfl (q_ldEN ck_62 rfl isF tM tE) ?_ | refine dq 9 rfl (q_ldEN ck_62 rfl isO tM tE) ?_
        refine dq1 10 rfl (OpL.callD rfl (h := ref_SameObject _ _ (by assumption))) (.inr (by rintro _ _ ⟨_, ⟨rfl, rfl⟩, rfl⟩ w h; exact h.subD)) ?_
        rintro _ _ ⟨_, ⟨rfl, rfl⟩, rfl⟩
        refine dq 11 rfl (q_not rfl) <| D.done tK ?_
        refine K.bcond (s := 38) rfl (fun g38 => ?_) (fun g38 => ?_)
        · refine K.seq ?_
          have hr : decide (a.st = b.st) = false := decide_eq_false (fun e => by
            have e3 := congrArg (fun s => s.objs[i]?) e
            simp only [Sz.st, List.getElem?_map, he1, he2, Option.map_some] at e3
            have e4 := Option.some.inj e3
            simp [e4] at g38)
          rw [hr]
          refine K.region <| KO.q rfl (q_assign rfl) <| KO.done ?_
          refine kr1 Tryz.func20 Tryz.results20 rfl (fun w hs => ?_)
          exact ⟨_, [], rfl, ⟨rfl, rfl⟩, hs.fitD⟩
        · refine K.skip <| K.inBlock <| K.region <| KO.q rfl (q_move rfl) <| KO.q rfl (q_add rfl rfl tN tN) <| KO.q rfl (q_assign rfl) <| KO.done ?_
          exact K.weak tS (fun w h => h.fitD) (ih ⟨i + 1, by omega, map_take_eq he1 he2 (by simpa using g38) ht⟩ (by show a.l.length - (i + 1) < a.l.length - i; omega))
      · have hr : decide (a.st = b.st) = true := decide_eq_true (by
          rw [stt_ext]
          refine ⟨by simpa [Sz.st] using g11, ?_⟩
          rw [List.take_of_length_le tO, List.take_of_length_le tO] at ht
          exact ht)
        rw [hr]
        refine K.exit rfl <| K.seq <| K.region <| KO.q rfl (q_assign rfl) <| KO.done ?_
        refine kr1 Tryz.func20 Tryz.results20 rfl (fun w hs => ?_)
        exact ⟨_, [], rfl, ⟨rfl, rfl⟩, hs.fitD⟩
end Go.Proofs.YtkbhldicnamcdaaGreat.L
namespace Go.Proofs.YtkbhldicnamcdaaGreat.L
open Go Go.Proofs
attribute [local irreducible] pv fv pt fz RowF RowO rowP old pure_ elA Rd.int Rd.text Rd.flag Rd.msg Rd.rint Rd.rtext Rd.rflag Rd.rmsg
set_option maxRecDepth 100000
set_option linter.unusedSimpArgs false
set_option linter.unusedVariables false
def ObE (o : Oz) : HP := HP.ex (fun _ : Unit => ObO o)
theorem pick_map_snoc {ι : Type} (f : ι → HP) (x : ι) : ∀ l : List ι, Pick ((l ++ [x]).map f) (f x) (l.map f)
  | [] => Pick.here
  | _ :: l => Pick.there (pick_map_snoc f x l)
theorem allO_snoc {l : List Oz} {o : Oz} {ρ : World} {L : List HP} {w : World} (h : St ρ (ObO o ++ AllO ObE l :: L) w) : St ρ (AllO ObE (l ++ [o]) :: L) w :=
  allO_put (pick_map_snoc ObE o l) (St.exI (f := fun _ : Unit => ObO o) () h)
theorem allO_freeze : ∀ {l : List Oz} {ρ : World} {L : List HP} {w : World}, St ρ (AllO ObE l :: L) w → St ρ (NestF l :: L) w
  | [], _, _, _, h => nestF_nil h.tail
  | o :: l, _, _, _, h => by
    have h1 := allO_out (f := ObE) (i := 0) (x := o) rfl h
    obtain ⟨_, h2⟩ := St.exO (f := fun _ : Unit => ObO o) h1
    have h3 := obO_freeze h2
    have h4 := allO_freeze (l := l) (h3.fit (M := [AllO ObE l]) tG (by repeat (first | exact Drop.refl | apply Drop.skip)) : St _ ([AllO ObE l] ++ (ObL o ++ _)) _)
    exact (nestF_put (l := l) (l' := o :: l) o (fun p hp => (List.mem_cons.1 hp).symm) tM tM tM tM h4).fit (M := [NestF (o :: l)]) tG (by repeat (first | exact Drop.refl | apply Drop.skip))
set_option maxHeartbeats 3200000 in
theorem st_CloneO (s : Sz) (hl : s.l.length ≤ 1000000000) (hle : ∀ o ∈ s.l, o.le 1000000000) : Fn Tryz.prog 52 [.agg s.cells.toArray].toArray (StL s)
    (fun r post => ∃ q' c' l', r = .agg (Sz.cells ⟨s.next, q', c', l'⟩).toArray ∧ post = [RowO Kd.oz 62 q' c' l', AllO ObE l'] ∧ l'.map (·.x) = s.l.map (·.x) ∧ l'.length ≤ c' ∧ ∀ o ∈ l', o.cap) := by
  obtain ⟨nx, q, c, l⟩ := s
  have hl : l.length ≤ 1000000000 := hl
  have hle : ∀ o ∈ l, o.le 1000000000 := hle
  refine Fn.enter (N := 45) Tryz.func52 rfl Tryz.ntmps52 tK rfl (fun ρ L => ?_)
  refine K.seq <| K.region <| KO.loud rfl (l_box rfl rfl) ?_
  rintro _ _ ⟨b1, rfl, rfl⟩
  refine KO.loud rfl (l_alloc zo_47) ?_
  rintro _ _ ⟨b2, rfl, rfl⟩
  refine KO.done <| K.seq <| K.region <| KO.q rfl (q_field fo_47_1 rfl) <| KO.q rfl (q_load1D ck_45 rfl) <| KO.loud rfl (OpL.callD rfl (h := clone_oz (RowF Kd.oz q l) q c l isF hl)) ?_
  rintro _ _ ⟨_, ⟨q', c', rfl, rfl, hc'⟩, rfl⟩
  refine KO.q rfl (q_field fo_47_1 rfl) <| KO.loudN rfl (l_store1 ck_45 rfl rfl rfl tP tA) ?_
  rintro _ _ ⟨rfl, rfl⟩
  refine KO.done <| K.seq <| K.seq <| K.region <| KO.q rfl (q_field fo_47_1 rfl) <| KO.q rfl (q_load1D ck_45 rfl) <| KO.q rfl (q_len Tryz.underlying45 rfl) <| KO.q rfl (q_move rfl) <| KO.done <| K.block ?_
  refine K.rounds2 (ι := { x : Nat × List Oz // x.1 ≤ l.length ∧ x.2.length = l.length ∧ x.2.map (·.x) = l.map (·.x) ∧ x.2.drop x.1 = l.drop x.1 ∧ ∀ o ∈ x.2.take x.1, o.cap }) (fun x => [(12, .int .i64 x.1.1), (11, .int .i64 l.length), (1, .pointer (some ⟨b1, 0, none⟩)), (2, .pointer (some ⟨b2, 0, none⟩))]) (fun x => [RowO Kd.oz 62 q' c' x.1.2, AllO ObE (x.1.2.take x.1.1), pv b1 47 [.int .i64 nx, .slice q' l.length c'], pv b2 47 [.int .i64 0, .slice none 0 0], NestF l] ++ L) (fun x => l.length - x.1.1) ⟨(0, l), Nat.zero_le _, rfl, rfl, rfl, fun o ho => by cases ho⟩ tS (fun w h => (allO_nil ObE (h.fit (M := [RowO Kd.oz 62 q' c' l, pv b1 47 [.int .i64 nx, .slice q' l.length c'], pv b2 47 [.int .i64 0, .slice none 0 0], NestF l]) tG (by repeat (first | exact Drop.refl | apply Drop.skip)))).fitD) (fun x ih => ?_)
  obtain ⟨⟨i, M⟩, hi, hM, hMx, hMd, hMc⟩ := x
  dsimp only at hi hM hMx hMd hMc ⊢
  refine K.seq <| K.region <| KO.q rfl (q_lt rfl rfl) <| KO.done <| K.seq ?_
  refine K.dcond (s := 13) rfl (fun g13 => ?_) (fun g13 => ?_)
  · obtain ⟨e, hel⟩ : ∃ e, l[i]? = some e := ⟨_, List.getElem?_eq_getElem tO⟩
    have heM : M[i]? = some e := by
      have := congrArg (fun z => z[0]?) hMd
      simpa [List.getElem?_drop, hel] using this
    obtain ⟨he1, he2, he3⟩ := hle e (List.mem_of_getElem? hel)
    refine K.st (fun w h => nestF_at (l := l) tM (List.mem_of_getElem? hel) h) ?_
    refine K.skip <| K.seq <| K.block <| K.seq <| K.region <| KO.q rfl (q_move rfl) <| KO.q rfl (q_assign rfl) <| KO.done <| K.seq <| K.region <| KO.q rfl (q_field fo_47_1 rfl) <| KO.q rfl (q_load1D ck_45 rfl) <| KO.q rfl (q_move rfl) ?_
    refine KO.q rfl (q_ix (xs := M) i se_45 rfl rfl rfl isO tM hM.symm tO) <| KO.q rfl (q_assign rfl) <| KO.done <| K.drawS [] (fun _ h => h.subD) mixed <| dq 0 rfl (q_move rfl) <| dq 1 rfl (q_move rfl) <| dq 2 rfl (q_move rfl) <| dq 3 rfl (q_move rfl) <| dq 4 rfl (q_nilCheck rfl) <| dq 5 rfl (q_fieldE fo_62_3 rfl) ?_
    refine dq 8 rfl (q_move rfl) <| dq 9 rfl (q_nilCheck rfl) <| dq 10 rfl (q_fieldE fo_62_4 rfl) <| dq 13 rfl (q_move rfl) <| dq 14 rfl (q_nilCheck rfl) <| dq 15 rfl (q_fieldE fo_62_5 rfl) ?_
    refine D.all (rs := [6, 11, 16]) tK rfl (DAll.cons rfl tK (OpQ.loud (q_ldE (xs := M) ck_59 rfl isO tM heM rfl)) (.inr (by rintro _ _ ⟨rfl, rfl⟩ w h; exact h.subD)) rfl ?_ (DAll.cons rfl tK (OpQ.loud (q_ldE (xs := M) ck_60 rfl isO tM heM rfl)) (.inr (by rintro _ _ ⟨rfl, rfl⟩ w h; exact h.subD)) rfl ?_ (DAll.cons rfl tK (OpQ.loud (q_ldE (xs := M) ck_60 rfl isO tM heM rfl)) (.inr (by rintro _ _ ⟨rfl, rfl⟩ w h; exact h.subD)) rfl ?_ DAll.nil)))
    · rintro _ _ ⟨rfl, rfl⟩
      refine D.all (rs := [7, 11, 16]) tK rfl (DAll.cons rfl tK (OpL.callD rfl (h := clone_rw (RowF Kd.rw e.z.q1 e.x.rows) e.z.q1 e.z.c1 e.x.rows isF he1)) (.inr (by rintro _ _ ⟨_, ⟨qa, ca, rfl, rfl, ha⟩, rfl⟩ w h; exact h.subD)) rfl ?_ (DAll.cons rfl tK (OpQ.loud (q_ldE (xs := M) ck_60 rfl isO tM heM rfl)) (.inr (by rintro _ _ ⟨rfl, rfl⟩ w h; exact h.subD)) rfl ?_ (DAll.cons rfl tK (OpQ.loud (q_ldE (xs := M) ck_60 rfl isO tM heM rfl)) (.inr (by rintro _ _ ⟨rfl, rfl⟩ w h; exact h.subD)) rfl ?_ DAll.nil)))
      · rintro _ _ ⟨_, ⟨qa, ca, rfl, rfl, ha⟩, rfl⟩
        refine D.all (rs := [11, 16]) tK rfl (DAll.cons rfl tK (OpQ.loud (q_ldE (xs := M) ck_60 rfl isO tM heM rfl)) (.inr (by rintro _ _ ⟨rfl, rfl⟩ w h; exact h.subD)) rfl ?_ (DAll.cons rfl tK (OpQ.loud (q_ldE (xs := M) ck_60 rfl isO tM heM rfl)) (.inr (by rintro _ _ ⟨rfl, rfl⟩ w h; exact h.subD)) rfl ?_ DAll.nil))
        · rintro _ _ ⟨rfl, rfl⟩
          refine D.all (rs := [12, 16]) tK rfl (DAll.cons rfl tK (OpL.callD rfl (h := clone_msg (RowF Kd.msg e.z.q2 e.x.msgs) e.z.q2 e.z.c2 e.x.msgs isF he2)) (.inr (by rintro _ _ ⟨_, ⟨qb, cb, rfl, rfl, hb⟩, rfl⟩ w h; exact h.subD)) rfl ?_ (DAll.cons rfl tK (OpQ.loud (q_ldE (xs := M) ck_60 rfl isO tM heM rfl)) (.inr (by rintro _ _ ⟨rfl, rfl⟩ w h; exact h.subD)) rfl ?_ DAll.nil))
          · rintro _ _ ⟨_, ⟨qb, cb, rfl, rfl, hb⟩, rfl⟩
            refine dq1 16 rfl (OpQ.loud (q_ldE (xs := M) ck_60 rfl isO tM heM rfl)) (.inr (by rintro _ _ ⟨rfl, rfl⟩ w h; exact h.subD)) ?_
            rintro _ _ ⟨rfl, rfl⟩
            refine dq1 17 rfl (OpL.callD rfl (h := clone_msg (RowF Kd.msg e.z.q3 e.x.dead) e.z.q3 e.z.c3 e.x.dead isF he3)) (.inr (by rintro _ _ ⟨_, ⟨qc, cc, rfl, rfl, hcc⟩, rfl⟩ w h; exact h.subD)) ?_
            rintro _ _ ⟨_, ⟨qc, cc, rfl, rfl, hcc⟩, rfl⟩
            refine dq 18 rfl (q_nilCheck rfl) <| dq 19 rfl (q_fieldE fo_62_3 rfl) <| dq1N 20 rfl (l_storeE (xs := M) (el := e) (⟨e.x, ⟨qa, ca, e.z.q2, e.z.c2, e.z.q3, e.z.c3⟩⟩ : Oz) ck_59 rfl rfl rfl tP heM tD rfl) (.inr (by rintro _ _ ⟨rfl, rfl⟩ w h; exact h.subD)) ?_
            rintro _ _ ⟨rfl, rfl⟩
            refine dq 21 rfl (q_nilCheck rfl) <| dq 22 rfl (q_fieldE fo_62_4 rfl) ?_
            refine dq1N 23 rfl (l_storeE (xs := M.set i (⟨e.x, ⟨qa, ca, e.z.q2, e.z.c2, e.z.q3, e.z.c3⟩⟩ : Oz)) (el := (⟨e.x, ⟨qa, ca, e.z.q2, e.z.c2, e.z.q3, e.z.c3⟩⟩ : Oz)) (⟨e.x, ⟨qa, ca, qb, cb, e.z.q3, e.z.c3⟩⟩ : Oz) ck_60 rfl rfl rfl tP (List.getElem?_set_self tO) tD rfl) (.inr (by rintro _ _ ⟨rfl, rfl⟩ w h; exact h.subD)) ?_
            rintro _ _ ⟨rfl, rfl⟩
            refine dq 24 rfl (q_nilCheck rfl) <| dq 25 rfl (q_fieldE fo_62_5 rfl) ?_
            refine dq1N 26 rfl (l_storeE (xs := (M.set i (⟨e.x, ⟨qa, ca, e.z.q2, e.z.c2, e.z.q3, e.z.c3⟩⟩ : Oz)).set i (⟨e.x, ⟨qa, ca, qb, cb, e.z.q3, e.z.c3⟩⟩ : Oz)) (el := (⟨e.x, ⟨qa, ca, qb, cb, e.z.q3, e.z.c3⟩⟩ : Oz)) (⟨e.x, ⟨qa, ca, qb, cb, qc, cc⟩⟩ : Oz) ck_60 rfl rfl rfl tP (List.getElem?_set_self (by rw [List.length_set]; omega)) tD rfl) (.inr (by rintro _ _ ⟨rfl, rfl⟩ w h; exact h.subD)) ?_
            rintro _ _ ⟨rfl, rfl⟩
            refine D.done tK <| K.inBlock <| K.region <| KO.q rfl (q_add rfl rfl tN tN) <| KO.q rfl (q_move rfl) <| KO.done ?_
            rw [List.set_set, List.set_set]
            have htk : (M.set i ⟨e.x, ⟨qa, ca, qb, cb, qc, cc⟩⟩).take (i + 1) = M.take i ++ [⟨e.x, ⟨qa, ca, qb, cb, qc, cc⟩⟩] := by
              rw [List.take_add_one, List.take_set_of_le (Nat.le_refl i), List.getElem?_set_self tO]; rfl
            exact K.weak tS (fun w h => by dsimp only; rw [htk]; exact (allO_snoc (o := ⟨e.x, ⟨qa, ca, qb, cb, qc, cc⟩⟩) (h.fit (M := ObO ⟨e.x, ⟨qa, ca, qb, cb, qc, cc⟩⟩ ++ [AllO ObE (M.take i), RowO Kd.oz 62 q' c' (M.set i ⟨e.x, ⟨qa, ca, qb, cb, qc, cc⟩⟩), pv b1 47 [.int .i64 nx, .slice q' l.length c'], pv b2 47 [.int .i64 0, .slice none 0 0], NestF l]) tG (by repeat (first | exact Drop.refl | apply Drop.skip)))).fitD) (ih ⟨(i + 1, M.set i ⟨e.x, ⟨qa, ca, qb, cb, qc, cc⟩⟩), by show i + 1 ≤ _; omega, by rw [List.length_set]; exact hM, by
              show (M.set i _).map _ = _
              rw [List.map_set, ← hMx]
              show (M.map (·.x)).set i e.x = M.map (·.x)
              refine List.ext_getElem? fun j => ?_
              rw [List.getElem?_set]
              split
              · rename_i hij
                subst hij
                rw [List.getElem?_map, heM, List.length_map, if_pos tO]
                rfl
              · rfl, by
              show (M.set i _).drop (i + 1) = l.drop (i + 1)
              rw [List.drop_set_of_lt tO, ← List.drop_drop, hMd, List.drop_drop], fun o ho => by
              have ho : o ∈ (M.set i ⟨e.x, ⟨qa, ca, qb, cb, qc, cc⟩⟩).take (i + 1) := ho
              rw [htk] at ho
              rcases List.mem_append.1 ho with ho | ho
              · exact hMc o ho
              · rw [List.mem_singleton.1 ho]; exact ⟨ha, hb, hcc⟩⟩ (by show l.length - (i + 1) < l.length - i; omega))
          · rintro _ _ ⟨rfl, rfl⟩
            refine dq1 12 rfl (OpL.callD rfl (h := clone_msg (RowF Kd.msg e.z.q2 e.x.msgs) e.z.q2 e.z.c2 e.x.msgs isF he2)) (.inr (by rintro _ _ ⟨_, ⟨qb, cb, rfl, rfl, hb⟩, rfl⟩ w h; exact h.subD)) ?_
            rintro _ _ ⟨_, ⟨qb, cb, rfl, rfl, hb⟩, rfl⟩
            refine dq1 17 rfl (OpL.callD rfl (h := clone_msg (RowF Kd.msg e.z.q3 e.x.dead) e.z.q3 e.z.c3 e.x.dead isF he3)) (.inr (by rintro _ _ ⟨_, ⟨qc, cc, rfl, rfl, hcc⟩, rfl⟩ w h; exact h.subD)) ?_
            rintro _ _ ⟨_, ⟨qc, cc, rfl, rfl, hcc⟩, rfl⟩
            refine dq 18 rfl (q_nilCheck rfl) <| dq 19 rfl (q_fieldE fo_62_3 rfl) <| dq1N 20 rfl (l_storeE (xs := M) (el := e) (⟨e.x, ⟨qa, ca, e.z.q2, e.z.c2, e.z.q3, e.z.c3⟩⟩ : Oz) ck_59 rfl rfl rfl tP heM tD rfl) (.inr (by rintro _ _ ⟨rfl, rfl⟩ w h; exact h.subD)) ?_
            rintro _ _ ⟨rfl, rfl⟩
            refine dq 21 rfl (q_nilCheck rfl) <| dq 22 rfl (q_fieldE fo_62_4 rfl) ?_
            refine dq1N 23 rfl (l_storeE (xs := M.set i (⟨e.x, ⟨qa, ca, e.z.q2, e.z.c2, e.z.q3, e.z.c3⟩⟩ : Oz)) (el := (⟨e.x, ⟨qa, ca, e.z.q2, e.z.c2, e.z.q3, e.z.c3⟩⟩ : Oz)) (⟨e.x, ⟨qa, ca, qb, cb, e.z.q3, e.z.c3⟩⟩ : Oz) ck_60 rfl rfl rfl tP (List.getElem?_set_self tO) tD rfl) (.inr (by rintro _ _ ⟨rfl, rfl⟩ w h; exact h.subD)) ?_
            rintro _ _ ⟨rfl, rfl⟩
            refine dq 24 rfl (q_nilCheck rfl) <| dq 25 rfl (q_fieldE fo_62_5 rfl) ?_
            refine dq1N 26 rfl (l_storeE (xs := (M.set i (⟨e.x, ⟨qa, ca, e.z.q2, e.z.c2, e.z.q3, e.z.c3⟩⟩ : Oz)).set i (⟨e.x, ⟨qa, ca, qb, cb, e.z.q3, e.z.c3⟩⟩ : Oz)) (el := (⟨e.x, ⟨qa, ca, qb, cb, e.z.q3, e.z.c3⟩⟩ : Oz)) (⟨e.x, ⟨qa, ca, qb, cb, qc, cc⟩⟩ : Oz) ck_60 rfl rfl rfl tP (List.getElem?_set_self (by rw [List.length_set]; omega)) tD rfl) (.inr (by rintro _ _ ⟨rfl, rfl⟩ w h; exact h.subD)) ?_
            rintro _ _ ⟨rfl, rfl⟩
            refine D.done tK <| K.inBlock <| K.region <| KO.q rfl (q_add rfl rfl tN tN) <| KO.q rfl (q_move rfl) <| KO.done ?_
            rw [List.set_set, List.set_set]
            have htk : (M.set i ⟨e.x, ⟨qa, ca, qb, cb, qc, cc⟩⟩).take (i + 1) = M.take i ++ [⟨e.x, ⟨qa, ca, qb, cb, qc, cc⟩⟩] := by
              rw [List.take_add_one, List.take_set_of_le (Nat.le_refl i), List.getElem?_set_self tO]; rfl
            exact K.weak tS (fun w h => by dsimp only; rw [htk]; exact (allO_snoc (o := ⟨e.x, ⟨qa, ca, qb, cb, qc, cc⟩⟩) (h.fit (M := ObO ⟨e.x, ⟨qa, ca, qb, cb, qc, cc⟩⟩ ++ [AllO ObE (M.take i), RowO Kd.oz 62 q' c' (M.set i ⟨e.x, ⟨qa, ca, qb, cb, qc, cc⟩⟩), pv b1 47 [.int .i64 nx, .slice q' l.length c'], pv b2 47 [.int .i64 0, .slice none 0 0], NestF l]) tG (by repeat (first | exact Drop.refl | apply Drop.skip)))).fitD) (ih ⟨(i + 1, M.set i ⟨e.x, ⟨qa, ca, qb, cb, qc, cc⟩⟩), by show i + 1 ≤ _; omega, by rw [List.length_set]; exact hM, by
              show (M.set i _).map _ = _
              rw [List.map_set, ← hMx]
              show (M.map (·.x)).set i e.x = M.map (·.x)
              refine List.ext_getElem? fun j => ?_
              rw [List.getElem?_set]
              split
              · rename_i hij
                subst hij
                rw [List.getElem?_map, heM, List.length_map, if_pos tO]
                rfl
              · rfl, by
              show (M.set i _).drop (i + 1) = l.drop (i + 1)
              rw [List.drop_set_of_lt tO, ← List.drop_drop, hMd, List.drop_drop], fun o ho => by
              have ho : o ∈ (M.set i ⟨e.x, ⟨qa, ca, qb, cb, qc, cc⟩⟩).take (i + 1) := ho
              rw [htk] at ho
              rcases List.mem_append.1 ho with ho | ho
              · exact hMc o ho
              · rw [List.mem_singleton.1 ho]; exact ⟨ha, hb, hcc⟩⟩ (by show l.length - (i + 1) < l.length - i; omega))
        · rintro _ _ ⟨rfl, rfl⟩
          refine dq1 11 rfl (OpQ.loud (q_ldE (xs := M) ck_60 rfl isO tM heM rfl)) (.inr (by rintro _ _ ⟨rfl, rfl⟩ w h; exact h.subD)) ?_
          rintro _ _ ⟨rfl, rfl⟩
          refine dq1 12 rfl (OpL.callD rfl (h := clone_msg (RowF Kd.msg e.z.q2 e.x.msgs) e.z.q2 e.z.c2 e.x.msgs isF he2)) (.inr (by rintro _ _ ⟨_, ⟨qb, cb, rfl, rfl, hb⟩, rfl⟩ w h; exact h.subD)) ?_
          rintro _ _ ⟨_, ⟨qb, cb, rfl, rfl, hb⟩, rfl⟩
          refine dq1 17 rfl (OpL.callD rfl (h := clone_msg (RowF Kd.msg e.z.q3 e.x.dead) e.z.q3 e.z.c3 e.x.dead isF he3)) (.inr (by rintro _ _ ⟨_, ⟨qc, cc, rfl, rfl, hcc⟩, rfl⟩ w h; exact h.subD)) ?_
          rintro _ _ ⟨_, ⟨qc, cc, rfl, rfl, hcc⟩, rfl⟩
          refine dq 18 rfl (q_nilCheck rfl) <| dq 19 rfl (q_fieldE fo_62_3 rfl) <| dq1N 20 rfl (l_storeE (xs := M) (el := e) (⟨e.x, ⟨qa, ca, e.z.q2, e.z.c2, e.z.q3, e.z.c3⟩⟩ : Oz) ck_59 rfl rfl rfl tP heM tD rfl) (.inr (by rintro _ _ ⟨rfl, rfl⟩ w h; exact h.subD)) ?_
          rintro _ _ ⟨rfl, rfl⟩
          refine dq 21 rfl (q_nilCheck rfl) <| dq 22 rfl (q_fieldE fo_62_4 rfl) ?_
          refine dq1N 23 rfl (l_storeE (xs := M.set i (⟨e.x, ⟨qa, ca, e.z.q2, e.z.c2, e.z.q3, e.z.c3⟩⟩ : Oz)) (el := (⟨e.x, ⟨qa, ca, e.z.q2, e.z.c2, e.z.q3, e.z.c3⟩⟩ : Oz)) (⟨e.x, ⟨qa, ca, qb, cb, e.z.q3, e.z.c3⟩⟩ : Oz) ck_60 rfl rfl rfl tP (List.getElem?_set_self tO) tD rfl) (.inr (by rintro _ _ ⟨rfl, rfl⟩ w h; exact h.subD)) ?_
          rintro _ _ ⟨rfl, rfl⟩
          refine dq 24 rfl (q_nilCheck rfl) <| dq 25 rfl (q_fieldE fo_62_5 rfl) ?_
          refine dq1N 26 rfl (l_storeE (xs := (M.set i (⟨e.x, ⟨qa, ca, e.z.q2, e.z.c2, e.z.q3, e.z.c3⟩⟩ : Oz)).set i (⟨e.x, ⟨qa, ca, qb, cb, e.z.q3, e.z.c3⟩⟩ : Oz)) (el := (⟨e.x, ⟨qa, ca, qb, cb, e.z.q3, e.z.c3⟩⟩ : Oz)) (⟨e.x, ⟨qa, ca, qb, cb, qc, cc⟩⟩ : Oz) ck_60 rfl rfl rfl tP (List.getElem?_set_self (by rw [List.length_set]; omega)) tD rfl) (.inr (by rintro _ _ ⟨rfl, rfl⟩ w h; exact h.subD)) ?_
          rintro _ _ ⟨rfl, rfl⟩
          refine D.done tK <| K.inBlock <| K.region <| KO.q rfl (q_add rfl rfl tN tN) <| KO.q rfl (q_move rfl) <| KO.done ?_
          rw [List.set_set, List.set_set]
          have htk : (M.set i ⟨e.x, ⟨qa, ca, qb, cb, qc, cc⟩⟩).take (i + 1) = M.take i ++ [⟨e.x, ⟨qa, ca, qb, cb, qc, cc⟩⟩] := by
            rw [List.take_add_one, List.take_set_of_le (Nat.le_refl i), List.getElem?_set_self tO]; rfl
          exact K.weak tS (fun w h => by dsimp only; rw [htk]; exact (allO_snoc (o := ⟨e.x, ⟨qa, ca, qb, cb, qc, cc⟩⟩) (h.fit (M := ObO ⟨e.x, ⟨qa, ca, qb, cb, qc, cc⟩⟩ ++ [AllO ObE (M.take i), RowO Kd.oz 62 q' c' (M.set i ⟨e.x, ⟨qa, ca, qb, cb, qc, cc⟩⟩), pv b1 47 [.int .i64 nx, .slice q' l.length c'], pv b2 47 [.int .i64 0, .slice none 0 0], NestF l]) tG (by repeat (first | exact Drop.refl | apply Drop.skip)))).fitD) (ih ⟨(i + 1, M.set i ⟨e.x, ⟨qa, ca, qb, cb, qc, cc⟩⟩), by show i + 1 ≤ _; omega, by rw [List.length_set]; exact hM, by
            show (M.set i _).map _ = _
            rw [List.map_set, ← hMx]
            show (M.map (·.x)).set i e.x = M.map (·.x)
            refine List.ext_getElem? fun j => ?_
            rw [List.getElem?_set]
            split
            · rename_i hij
              subst hij
              rw [List.getElem?_map, heM, List.length_map, if_pos tO]
              rfl
            · rfl, by
            show (M.set i _).drop (i + 1) = l.drop (i + 1)
            rw [List.drop_set_of_lt tO, ← List.drop_drop, hMd, List.drop_drop], fun o ho => by
            have ho : o ∈ (M.set i ⟨e.x, ⟨qa, ca, qb, cb, qc, cc⟩⟩).take (i + 1) := ho
            rw [htk] at ho
            rcases List.mem_append.1 ho with ho | ho
            · exact hMc o ho
            · rw [List.mem_singleton.1 ho]; exact ⟨ha, hb, hcc⟩⟩ (by show l.length - (i + 1) < l.length - i; omega))
      · rintro _ _ ⟨rfl, rfl⟩
        refine D.all (rs := [7, 16]) tK rfl (DAll.cons rfl tK (OpL.callD rfl (h := clone_rw (RowF Kd.rw e.z.q1 e.x.rows) e.z.q1 e.z.c1 e.x.rows isF he1)) (.inr (by rintro _ _ ⟨_, ⟨qa, ca, rfl, rfl, ha⟩, rfl⟩ w h; exact h.subD)) rfl ?_ (DAll.cons rfl tK (OpQ.loud (q_ldE (xs := M) ck_60 rfl isO tM heM rfl)) (.inr (by rintro _ _ ⟨rfl, rfl⟩ w h; exact h.subD)) rfl ?_ DAll.nil))
        · rintro _ _ ⟨_, ⟨qa, ca, rfl, rfl, ha⟩, rfl⟩
          refine D.all (rs := [12, 16]) tK rfl (DAll.cons rfl tK (OpL.callD rfl (h := clone_msg (RowF Kd.msg e.z.q2 e.x.msgs) e.z.q2 e.z.c2 e.x.msgs isF he2)) (.inr (by rintro _ _ ⟨_, ⟨qb, cb, rfl, rfl, hb⟩, rfl⟩ w h; exact h.subD)) rfl ?_ (DAll.cons rfl tK (OpQ.loud (q_ldE (xs := M) ck_60 rfl isO tM heM rfl)) (.inr (by rintro _ _ ⟨rfl, rfl⟩ w h; exact h.subD)) rfl ?_ DAll.nil))
          · rintro _ _ ⟨_, ⟨qb, cb, rfl, rfl, hb⟩, rfl⟩
            refine dq1 16 rfl (OpQ.loud (q_ldE (xs := M) ck_60 rfl isO tM heM rfl)) (.inr (by rintro _ _ ⟨rfl, rfl⟩ w h; exact h.subD)) ?_
            rintro _ _ ⟨rfl, rfl⟩
            refine dq1 17 rfl (OpL.callD rfl (h := clone_msg (RowF Kd.msg e.z.q3 e.x.dead) e.z.q3 e.z.c3 e.x.dead isF he3)) (.inr (by rintro _ _ ⟨_, ⟨qc, cc, rfl, rfl, hcc⟩, rfl⟩ w h; exact h.subD)) ?_
            rintro _ _ ⟨_, ⟨qc, cc, rfl, rfl, hcc⟩, rfl⟩
            refine dq 18 rfl (q_nilCheck rfl) <| dq 19 rfl (q_fieldE fo_62_3 rfl) <| dq1N 20 rfl (l_storeE (xs := M) (el := e) (⟨e.x, ⟨qa, ca, e.z.q2, e.z.c2, e.z.q3, e.z.c3⟩⟩ : Oz) ck_59 rfl rfl rfl tP heM tD rfl) (.inr (by rintro _ _ ⟨rfl, rfl⟩ w h; exact h.subD)) ?_
            rintro _ _ ⟨rfl, rfl⟩
            refine dq 21 rfl (q_nilCheck rfl) <| dq 22 rfl (q_fieldE fo_62_4 rfl) ?_
            refine dq1N 23 rfl (l_storeE (xs := M.set i (⟨e.x, ⟨qa, ca, e.z.q2, e.z.c2, e.z.q3, e.z.c3⟩⟩ : Oz)) (el := (⟨e.x, ⟨qa, ca, e.z.q2, e.z.c2, e.z.q3, e.z.c3⟩⟩ : Oz)) (⟨e.x, ⟨qa, ca, qb, cb, e.z.q3, e.z.c3⟩⟩ : Oz) ck_60 rfl rfl rfl tP (List.getElem?_set_self tO) tD rfl) (.inr (by rintro _ _ ⟨rfl, rfl⟩ w h; exact h.subD)) ?_
            rintro _ _ ⟨rfl, rfl⟩
            refine dq 24 rfl (q_nilCheck rfl) <| dq 25 rfl (q_fieldE fo_62_5 rfl) ?_
            refine dq1N 26 rfl (l_storeE (xs := (M.set i (⟨e.x, ⟨qa, ca, e.z.q2, e.z.c2, e.z.q3, e.z.c3⟩⟩ : Oz)).set i (⟨e.x, ⟨qa, ca, qb, cb, e.z.q3, e.z.c3⟩⟩ : Oz)) (el := (⟨e.x, ⟨qa, ca, qb, cb, e.z.q3, e.z.c3⟩⟩ : Oz)) (⟨e.x, ⟨qa, ca, qb, cb, qc, cc⟩⟩ : Oz) ck_60 rfl rfl rfl tP (List.getElem?_set_self (by rw [List.length_set]; omega)) tD rfl) (.inr (by rintro _ _ ⟨rfl, rfl⟩ w h; exact h.subD)) ?_
            rintro _ _ ⟨rfl, rfl⟩
            refine D.done tK <| K.inBlock <| K.region <| KO.q rfl (q_add rfl rfl tN tN) <| KO.q rfl (q_move rfl) <| KO.done ?_
            rw [List.set_set, List.set_set]
            have htk : (M.set i ⟨e.x, ⟨qa, ca, qb, cb, qc, cc⟩⟩).take (i + 1) = M.take i ++ [⟨e.x, ⟨qa, ca, qb, cb, qc, cc⟩⟩] := by
              rw [List.take_add_one, List.take_set_of_le (Nat.le_refl i), List.getElem?_set_self tO]; rfl
            exact K.weak tS (fun w h => by dsimp only; rw [htk]; exact (allO_snoc (o := ⟨e.x, ⟨qa, ca, qb, cb, qc, cc⟩⟩) (h.fit (M := ObO ⟨e.x, ⟨qa, ca, qb, cb, qc, cc⟩⟩ ++ [AllO ObE (M.take i), RowO Kd.oz 62 q' c' (M.set i ⟨e.x, ⟨qa, ca, qb, cb, qc, cc⟩⟩), pv b1 47 [.int .i64 nx, .slice q' l.length c'], pv b2 47 [.int .i64 0, .slice none 0 0], NestF l]) tG (by repeat (first | exact Drop.refl | apply Drop.skip)))).fitD) (ih ⟨(i + 1, M.set i ⟨e.x, ⟨qa, ca, qb, cb, qc, cc⟩⟩), by show i + 1 ≤ _; omega, by rw [List.length_set]; exact hM, by
              show (M.set i _).map _ = _
              rw [List.map_set, ← hMx]
              show (M.map (·.x)).set i e.x = M.map (·.x)
              refine List.ext_getElem? fun j => ?_
              rw [List.getElem?_set]
              split
              · rename_i hij
                subst hij
                rw [List.getElem?_map, heM, List.length_map, if_pos tO]
                rfl
              · rfl, by
              show (M.set i _).drop (i + 1) = l.drop (i + 1)
              rw [List.drop_set_of_lt tO, ← List.drop_drop, hMd, List.drop_drop], fun o ho => by
              have ho : o ∈ (M.set i ⟨e.x, ⟨qa, ca, qb, cb, qc, cc⟩⟩).take (i + 1) := ho
              rw [htk] at ho
              rcases List.mem_append.1 ho with ho | ho
              · exact hMc o ho
              · rw [List.mem_singleton.1 ho]; exact ⟨ha, hb, hcc⟩⟩ (by show l.length - (i + 1) < l.length - i; omega))
          · rintro _ _ ⟨rfl, rfl⟩
            refine dq1 12 rfl (OpL.callD rfl (h := clone_msg (RowF Kd.msg e.z.q2 e.x.msgs) e.z.q2 e.z.c2 e.x.msgs isF he2)) (.inr (by rintro _ _ ⟨_, ⟨qb, cb, rfl, rfl, hb⟩, rfl⟩ w h; exact h.subD)) ?_
            rintro _ _ ⟨_, ⟨qb, cb, rfl, rfl, hb⟩, rfl⟩
            refine dq1 17 rfl (OpL.callD rfl (h := clone_msg (RowF Kd.msg e.z.q3 e.x.dead) e.z.q3 e.z.c3 e.x.dead isF he3)) (.inr (by rintro _ _ ⟨_, ⟨qc, cc, rfl, rfl, hcc⟩, rfl⟩ w h; exact h.subD)) ?_
            rintro _ _ ⟨_, ⟨qc, cc, rfl, rfl, hcc⟩, rfl⟩
            refine dq 18 rfl (q_nilCheck rfl) <| dq 19 rfl (q_fieldE fo_62_3 rfl) <| dq1N 20 rfl (l_storeE (xs := M) (el := e) (⟨e.x, ⟨qa, ca, e.z.q2, e.z.c2, e.z.q3, e.z.c3⟩⟩ : Oz) ck_59 rfl rfl rfl tP heM tD rfl) (.inr (by rintro _ _ ⟨rfl, rfl⟩ w h; exact h.subD)) ?_
            rintro _ _ ⟨rfl, rfl⟩
            refine dq 21 rfl (q_nilCheck rfl) <| dq 22 rfl (q_fieldE fo_62_4 rfl) ?_
            refine dq1N 23 rfl (l_storeE (xs := M.set i (⟨e.x, ⟨qa, ca, e.z.q2, e.z.c2, e.z.q3, e.z.c3⟩⟩ : Oz)) (el := (⟨e.x, ⟨qa, ca, e.z.q2, e.z.c2, e.z.q3, e.z.c3⟩⟩ : Oz)) (⟨e.x, ⟨qa, ca, qb, cb, e.z.q3, e.z.c3⟩⟩ : Oz) ck_60 rfl rfl rfl tP (List.getElem?_set_self tO) tD rfl) (.inr (by rintro _ _ ⟨rfl, rfl⟩ w h; exact h.subD)) ?_
            rintro _ _ ⟨rfl, rfl⟩
            refine dq 24 rfl (q_nilCheck rfl) <| dq 25 rfl (q_fieldE fo_62_5 rfl) ?_
            refine dq1N 26 rfl (l_storeE (xs := (M.set i (⟨e.x, ⟨qa, ca, e.z.q2, e.z.c2, e.z.q3, e.z.c3⟩⟩ : Oz)).set i (⟨e.x, ⟨qa, ca, qb, cb, e.z.q3, e.z.c3⟩⟩ : Oz)) (el := (⟨e.x, ⟨qa, ca, qb, cb, e.z.q3, e.z.c3⟩⟩ : Oz)) (⟨e.x, ⟨qa, ca, qb, cb, qc, cc⟩⟩ : Oz) ck_60 rfl rfl rfl tP (List.getElem?_set_self (by rw [List.length_set]; omega)) tD rfl) (.inr (by rintro _ _ ⟨rfl, rfl⟩ w h; exact h.subD)) ?_
            rintro _ _ ⟨rfl, rfl⟩
            refine D.done tK <| K.inBlock <| K.region <| KO.q rfl (q_add rfl rfl tN tN) <| KO.q rfl (q_move rfl) <| KO.done ?_
            rw [List.set_set, List.set_set]
            have htk : (M.set i ⟨e.x, ⟨qa, ca, qb, cb, qc, cc⟩⟩).take (i + 1) = M.take i ++ [⟨e.x, ⟨qa, ca, qb, cb, qc, cc⟩⟩] := by
              rw [List.take_add_one, List.take_set_of_le (Nat.le_refl i), List.getElem?_set_self tO]; rfl
            exact K.weak tS (fun w h => by dsimp only; rw [htk]; exact (allO_snoc (o := ⟨e.x, ⟨qa, ca, qb, cb, qc, cc⟩⟩) (h.fit (M := ObO ⟨e.x, ⟨qa, ca, qb, cb, qc, cc⟩⟩ ++ [AllO ObE (M.take i), RowO Kd.oz 62 q' c' (M.set i ⟨e.x, ⟨qa, ca, qb, cb, qc, cc⟩⟩), pv b1 47 [.int .i64 nx, .slice q' l.length c'], pv b2 47 [.int .i64 0, .slice none 0 0], NestF l]) tG (by repeat (first | exact Drop.refl | apply Drop.skip)))).fitD) (ih ⟨(i + 1, M.set i ⟨e.x, ⟨qa, ca, qb, cb, qc, cc⟩⟩), by show i + 1 ≤ _; omega, by rw [List.length_set]; exact hM, by
              show (M.set i _).map _ = _
              rw [List.map_set, ← hMx]
              show (M.map (·.x)).set i e.x = M.map (·.x)
              refine List.ext_getElem? fun j => ?_
              rw [List.getElem?_set]
              split
              · rename_i hij
                subst hij
                rw [List.getElem?_map, heM, List.length_map, if_pos tO]
                rfl
              · rfl, by
              show (M.set i _).drop (i + 1) = l.drop (i + 1)
              rw [List.drop_set_of_lt tO, ← List.drop_drop, hMd, List.drop_drop], fun o ho => by
              have ho : o ∈ (M.set i ⟨e.x, ⟨qa, ca, qb, cb, qc, cc⟩⟩).take (i + 1) := ho
              rw [htk] at ho
              rcases List.mem_append.1 ho with ho | ho
              · exact hMc o ho
              · rw [List.mem_singleton.1 ho]; exact ⟨ha, hb, hcc⟩⟩ (by show l.length - (i + 1) < l.length - i; omega))
        · rintro _ _ ⟨rfl, rfl⟩
          refine dq1 7 rfl (OpL.callD rfl (h := clone_rw (RowF Kd.rw e.z.q1 e.x.rows) e.z.q1 e.z.c1 e.x.rows isF he1)) (.inr (by rintro _ _ ⟨_, ⟨qa, ca, rfl, rfl, ha⟩, rfl⟩ w h; exact h.subD)) ?_
          rintro _ _ ⟨_, ⟨qa, ca, rfl, rfl, ha⟩, rfl⟩
          refine dq1 12 rfl (OpL.callD rfl (h := clone_msg (RowF Kd.msg e.z.q2 e.x.msgs) e.z.q2 e.z.c2 e.x.msgs isF he2)) (.inr (by rintro _ _ ⟨_, ⟨qb, cb, rfl, rfl, hb⟩, rfl⟩ w h; exact h.subD)) ?_
          rintro _ _ ⟨_, ⟨qb, cb, rfl, rfl, hb⟩, rfl⟩
          refine dq1 17 rfl (OpL.callD rfl (h := clone_msg (RowF Kd.msg e.z.q3 e.x.dead) e.z.q3 e.z.c3 e.x.dead isF he3)) (.inr (by rintro _ _ ⟨_, ⟨qc, cc, rfl, rfl, hcc⟩, rfl⟩ w h; exact h.subD)) ?_
          rintro _ _ ⟨_, ⟨qc, cc, rfl, rfl, hcc⟩, rfl⟩
          refine dq 18 rfl (q_nilCheck rfl) <| dq 19 rfl (q_fieldE fo_62_3 rfl) <| dq1N 20 rfl (l_storeE (xs := M) (el := e) (⟨e.x, ⟨qa, ca, e.z.q2, e.z.c2, e.z.q3, e.z.c3⟩⟩ : Oz) ck_59 rfl rfl rfl tP heM tD rfl) (.inr (by rintro _ _ ⟨rfl, rfl⟩ w h; exact h.subD)) ?_
          rintro _ _ ⟨rfl, rfl⟩
          refine dq 21 rfl (q_nilCheck rfl) <| dq 22 rfl (q_fieldE fo_62_4 rfl) ?_
          refine dq1N 23 rfl (l_storeE (xs := M.set i (⟨e.x, ⟨qa, ca, e.z.q2, e.z.c2, e.z.q3, e.z.c3⟩⟩ : Oz)) (el := (⟨e.x, ⟨qa, ca, e.z.q2, e.z.c2, e.z.q3, e.z.c3⟩⟩ : Oz)) (⟨e.x, ⟨qa, ca, qb, cb, e.z.q3, e.z.c3⟩⟩ : Oz) ck_60 rfl rfl rfl tP (List.getElem?_set_self tO) tD rfl) (.inr (by rintro _ _ ⟨rfl, rfl⟩ w h; exact h.subD)) ?_
          rintro _ _ ⟨rfl, rfl⟩
          refine dq 24 rfl (q_nilCheck rfl) <| dq 25 rfl (q_fieldE fo_62_5 rfl) ?_
          refine dq1N 26 rfl (l_storeE (xs := (M.set i (⟨e.x, ⟨qa, ca, e.z.q2, e.z.c2, e.z.q3, e.z.c3⟩⟩ : Oz)).set i (⟨e.x, ⟨qa, ca, qb, cb, e.z.q3, e.z.c3⟩⟩ : Oz)) (el := (⟨e.x, ⟨qa, ca, qb, cb, e.z.q3, e.z.c3⟩⟩ : Oz)) (⟨e.x, ⟨qa, ca, qb, cb, qc, cc⟩⟩ : Oz) ck_60 rfl rfl rfl tP (List.getElem?_set_self (by rw [List.length_set]; omega)) tD rfl) (.inr (by rintro _ _ ⟨rfl, rfl⟩ w h; exact h.subD)) ?_
          rintro _ _ ⟨rfl, rfl⟩
          refine D.done tK <| K.inBlock <| K.region <| KO.q rfl (q_add rfl rfl tN tN) <| KO.q rfl (q_move rfl) <| KO.done ?_
          rw [List.set_set, List.set_set]
          have htk : (M.set i ⟨e.x, ⟨qa, ca, qb, cb, qc, cc⟩⟩).take (i + 1) = M.take i ++ [⟨e.x, ⟨qa, ca, qb, cb, qc, cc⟩⟩] := by
            rw [List.take_add_one, List.take_set_of_le (Nat.le_refl i), List.getElem?_set_self tO]; rfl
          exact K.weak tS (fun w h => by dsimp only; rw [htk]; exact (allO_snoc (o := ⟨e.x, ⟨qa, ca, qb, cb, qc, cc⟩⟩) (h.fit (M := ObO ⟨e.x, ⟨qa, ca, qb, cb, qc, cc⟩⟩ ++ [AllO ObE (M.take i), RowO Kd.oz 62 q' c' (M.set i ⟨e.x, ⟨qa, ca, qb, cb, qc, cc⟩⟩), pv b1 47 [.int .i64 nx, .slice q' l.length c'], pv b2 47 [.int .i64 0, .slice none 0 0], NestF l]) tG (by repeat (first | exact Drop.refl | apply Drop.skip)))).fitD) (ih ⟨(i + 1, M.set i ⟨e.x, ⟨qa, ca, qb, cb, qc, cc⟩⟩), by show i + 1 ≤ _; omega, by rw [List.length_set]; exact hM, by
            show (M.set i _).map _ = _
            rw [List.map_set, ← hMx]
            show (M.map (·.x)).set i e.x = M.map (·.x)
            refine List.ext_getElem? fun j => ?_
            rw [List.getElem?_set]
            split
            · rename_i hij
              subst hij
              rw [List.getElem?_map, heM, List.length_map, if_pos tO]
              rfl
            · rfl, by
            show (M.set i _).drop (i + 1) = l.drop (i + 1)
            rw [List.drop_set_of_lt tO, ← List.drop_drop, hMd, List.drop_drop], fun o ho => by
            have ho : o ∈ (M.set i ⟨e.x, ⟨qa, ca, qb, cb, qc, cc⟩⟩).take (i + 1) := ho
            rw [htk] at ho
            rcases List.mem_append.1 ho with ho | ho
            · exact hMc o ho
            · rw [List.mem_singleton.1 ho]; exact ⟨ha, hb, hcc⟩⟩ (by show l.length - (i + 1) < l.length - i; omega))
      · rintro _ _ ⟨rfl, rfl⟩
        refine D.all (rs := [7, 11]) tK rfl (DAll.cons rfl tK (OpL.callD rfl (h := clone_rw (RowF Kd.rw e.z.q1 e.x.rows) e.z.q1 e.z.c1 e.x.rows isF he1)) (.inr (by rintro _ _ ⟨_, ⟨qa, ca, rfl, rfl, ha⟩, rfl⟩ w h; exact h.subD)) rfl ?_ (DAll.cons rfl tK (OpQ.loud (q_ldE (xs := M) ck_60 rfl isO tM heM rfl)) (.inr (by rintro _ _ ⟨rfl, rfl⟩ w h; exact h.subD)) rfl ?_ DAll.nil))
        · rintro _ _ ⟨_, ⟨qa, ca, rfl, rfl, ha⟩, rfl⟩
          refine dq1 11 rfl (OpQ.loud (q_ldE (xs := M) ck_60 rfl isO tM heM rfl)) (.inr (by rintro _ _ ⟨rfl, rfl⟩ w h; exact h.subD)) ?_
          rintro _ _ ⟨rfl, rfl⟩
          refine dq1 12 rfl (OpL.callD rfl (h := clone_msg (RowF Kd.msg e.z.q2 e.x.msgs) e.z.q2 e.z.c2 e.x.msgs isF he2)) (.inr (by rintro _ _ ⟨_, ⟨qb, cb, rfl, rfl, hb⟩, rfl⟩ w h; exact h.subD)) ?_
          rintro _ _ ⟨_, ⟨qb, cb, rfl, rfl, hb⟩, rfl⟩
          refine dq1 17 rfl (OpL.callD rfl (h := clone_msg (RowF Kd.msg e.z.q3 e.x.dead) e.z.q3 e.z.c3 e.x.dead isF he3)) (.inr (by rintro _ _ ⟨_, ⟨qc, cc, rfl, rfl, hcc⟩, rfl⟩ w h; exact h.subD)) ?_
          rintro _ _ ⟨_, ⟨qc, cc, rfl, rfl, hcc⟩, rfl⟩
          refine dq 18 rfl (q_nilCheck rfl) <| dq 19 rfl (q_fieldE fo_62_3 rfl) <| dq1N 20 rfl (l_storeE (xs := M) (el := e) (⟨e.x, ⟨qa, ca, e.z.q2, e.z.c2, e.z.q3, e.z.c3⟩⟩ : Oz) ck_59 rfl rfl rfl tP heM tD rfl) (.inr (by rintro _ _ ⟨rfl, rfl⟩ w h; exact h.subD)) ?_
          rintro _ _ ⟨rfl, rfl⟩
          refine dq 21 rfl (q_nilCheck rfl) <| dq 22 rfl (q_fieldE fo_62_4 rfl) ?_
          refine dq1N 23 rfl (l_storeE (xs := M.set i (⟨e.x, ⟨qa, ca, e.z.q2, e.z.c2, e.z.q3, e.z.c3⟩⟩ : Oz)) (el := (⟨e.x, ⟨qa, ca, e.z.q2, e.z.c2, e.z.q3, e.z.c3⟩⟩ : Oz)) (⟨e.x, ⟨qa, ca, qb, cb, e.z.q3, e.z.c3⟩⟩ : Oz) ck_60 rfl rfl rfl tP (List.getElem?_set_self tO) tD rfl) (.inr (by rintro _ _ ⟨rfl, rfl⟩ w h; exact h.subD)) ?_
          rintro _ _ ⟨rfl, rfl⟩
          refine dq 24 rfl (q_nilCheck rfl) <| dq 25 rfl (q_fieldE fo_62_5 rfl) ?_
          refine dq1N 26 rfl (l_storeE (xs := (M.set i (⟨e.x, ⟨qa, ca, e.z.q2, e.z.c2, e.z.q3, e.z.c3⟩⟩ : Oz)).set i (⟨e.x, ⟨qa, ca, qb, cb, e.z.q3, e.z.c3⟩⟩ : Oz)) (el := (⟨e.x, ⟨qa, ca, qb, cb, e.z.q3, e.z.c3⟩⟩ : Oz)) (⟨e.x, ⟨qa, ca, qb, cb, qc, cc⟩⟩ : Oz) ck_60 rfl rfl rfl tP (List.getElem?_set_self (by rw [List.length_set]; omega)) tD rfl) (.inr (by rintro _ _ ⟨rfl, rfl⟩ w h; exact h.subD)) ?_
          rintro _ _ ⟨rfl, rfl⟩
          refine D.done tK <| K.inBlock <| K.region <| KO.q rfl (q_add rfl rfl tN tN) <| KO.q rfl (q_move rfl) <| KO.done ?_
          rw [List.set_set, List.set_set]
          have htk : (M.set i ⟨e.x, ⟨qa, ca, qb, cb, qc, cc⟩⟩).take (i + 1) = M.take i ++ [⟨e.x, ⟨qa, ca, qb, cb, qc, cc⟩⟩] := by
            rw [List.take_add_one, List.take_set_of_le (Nat.le_refl i), List.getElem?_set_self tO]; rfl
          exact K.weak tS (fun w h => by dsimp only; rw [htk]; exact (allO_snoc (o := ⟨e.x, ⟨qa, ca, qb, cb, qc, cc⟩⟩) (h.fit (M := ObO ⟨e.x, ⟨qa, ca, qb, cb, qc, cc⟩⟩ ++ [AllO ObE (M.take i), RowO Kd.oz 62 q' c' (M.set i ⟨e.x, ⟨qa, ca, qb, cb, qc, cc⟩⟩), pv b1 47 [.int .i64 nx, .slice q' l.length c'], pv b2 47 [.int .i64 0, .slice none 0 0], NestF l]) tG (by repeat (first | exact Drop.refl | apply Drop.skip)))).fitD) (ih ⟨(i + 1, M.set i ⟨e.x, ⟨qa, ca, qb, cb, qc, cc⟩⟩), by show i + 1 ≤ _; omega, by rw [List.length_set]; exact hM, by
            show (M.set i _).map _ = _
            rw [List.map_set, ← hMx]
            show (M.map (·.x)).set i e.x = M.map (·.x)
            refine List.ext_getElem? fun j => ?_
            rw [List.getElem?_set]
            split
            · rename_i hij
              subst hij
              rw [List.getElem?_map, heM, List.length_map, if_pos tO]
              rfl
            · rfl, by
            show (M.set i _).drop (i + 1) = l.drop (i + 1)
            rw [List.drop_set_of_lt tO, ← List.drop_drop, hMd, List.drop_drop], fun o ho => by
            have ho : o ∈ (M.set i ⟨e.x, ⟨qa, ca, qb, cb, qc, cc⟩⟩).take (i + 1) := ho
            rw [htk] at ho
            rcases List.mem_append.1 ho with ho | ho
            · exact hMc o ho
            · rw [List.mem_singleton.1 ho]; exact ⟨ha, hb, hcc⟩⟩ (by show l.length - (i + 1) < l.length - i; omega))
        · rintro _ _ ⟨rfl, rfl⟩
          refine dq1 7 rfl (OpL.callD rfl (h := clone_rw (RowF Kd.rw e.z.q1 e.x.rows) e.z.q1 e.z.c1 e.x.rows isF he1)) (.inr (by rintro _ _ ⟨_, ⟨qa, ca, rfl, rfl, ha⟩, rfl⟩ w h; exact h.subD)) ?_
          rintro _ _ ⟨_, ⟨qa, ca, rfl, rfl, ha⟩, rfl⟩
          refine dq1 12 rfl (OpL.callD rfl (h := clone_msg (RowF Kd.msg e.z.q2 e.x.msgs) e.z.q2 e.z.c2 e.x.msgs isF he2)) (.inr (by rintro _ _ ⟨_, ⟨qb, cb, rfl, rfl, hb⟩, rfl⟩ w h; exact h.subD)) ?_
          rintro _ _ ⟨_, ⟨qb, cb, rfl, rfl, hb⟩, rfl⟩
          refine dq1 17 rfl (OpL.callD rfl (h := clone_msg (RowF Kd.msg e.z.q3 e.x.dead) e.z.q3 e.z.c3 e.x.dead isF he3)) (.inr (by rintro _ _ ⟨_, ⟨qc, cc, rfl, rfl, hcc⟩, rfl⟩ w h; exact h.subD)) ?_
          rintro _ _ ⟨_, ⟨qc, cc, rfl, rfl, hcc⟩, rfl⟩
          refine dq 18 rfl (q_nilCheck rfl) <| dq 19 rfl (q_fieldE fo_62_3 rfl) <| dq1N 20 rfl (l_storeE (xs := M) (el := e) (⟨e.x, ⟨qa, ca, e.z.q2, e.z.c2, e.z.q3, e.z.c3⟩⟩ : Oz) ck_59 rfl rfl rfl tP heM tD rfl) (.inr (by rintro _ _ ⟨rfl, rfl⟩ w h; exact h.subD)) ?_
          rintro _ _ ⟨rfl, rfl⟩
          refine dq 21 rfl (q_nilCheck rfl) <| dq 22 rfl (q_fieldE fo_62_4 rfl) ?_
          refine dq1N 23 rfl (l_storeE (xs := M.set i (⟨e.x, ⟨qa, ca, e.z.q2, e.z.c2, e.z.q3, e.z.c3⟩⟩ : Oz)) (el := (⟨e.x, ⟨qa, ca, e.z.q2, e.z.c2, e.z.q3, e.z.c3⟩⟩ : Oz)) (⟨e.x, ⟨qa, ca, qb, cb, e.z.q3, e.z.c3⟩⟩ : Oz) ck_60 rfl rfl rfl tP (List.getElem?_set_self tO) tD rfl) (.inr (by rintro _ _ ⟨rfl, rfl⟩ w h; exact h.subD)) ?_
          rintro _ _ ⟨rfl, rfl⟩
          refine dq 24 rfl (q_nilCheck rfl) <| dq 25 rfl (q_fieldE fo_62_5 rfl) ?_
          refine dq1N 26 rfl (l_storeE (xs := (M.set i (⟨e.x, ⟨qa, ca, e.z.q2, e.z.c2, e.z.q3, e.z.c3⟩⟩ : Oz)).set i (⟨e.x, ⟨qa, ca, qb, cb, e.z.q3, e.z.c3⟩⟩ : Oz)) (el := (⟨e.x, ⟨qa, ca, qb, cb, e.z.q3, e.z.c3⟩⟩ : Oz)) (⟨e.x, ⟨qa, ca, qb, cb, qc, cc⟩⟩ : Oz) ck_60 rfl rfl rfl tP (List.getElem?_set_self (by rw [List.length_set]; omega)) tD rfl) (.inr (by rintro _ _ ⟨rfl, rfl⟩ w h; exact h.subD)) ?_
          rintro _ _ ⟨rfl, rfl⟩
          refine D.done tK <| K.inBlock <| K.region <| KO.q rfl (q_add rfl rfl tN tN) <| KO.q rfl (q_move rfl) <| KO.done ?_
          rw [List.set_set, List.set_set]
          have htk : (M.set i ⟨e.x, ⟨qa, ca, qb, cb, qc, cc⟩⟩).take (i + 1) = M.take i ++ [⟨e.x, ⟨qa, ca, qb, cb, qc, cc⟩⟩] := by
            rw [List.take_add_one, List.take_set_of_le (Nat.le_refl i), List.getElem?_set_self tO]; rfl
          exact K.weak tS (fun w h => by dsimp only; rw [htk]; exact (allO_snoc (o := ⟨e.x, ⟨qa, ca, qb, cb, qc, cc⟩⟩) (h.fit (M := ObO ⟨e.x, ⟨qa, ca, qb, cb, qc, cc⟩⟩ ++ [AllO ObE (M.take i), RowO Kd.oz 62 q' c' (M.set i ⟨e.x, ⟨qa, ca, qb, cb, qc, cc⟩⟩), pv b1 47 [.int .i64 nx, .slice q' l.length c'], pv b2 47 [.int .i64 0, .slice none 0 0], NestF l]) tG (by repeat (first | exact Drop.refl | apply Drop.skip)))).fitD) (ih ⟨(i + 1, M.set i ⟨e.x, ⟨qa, ca, qb, cb, qc, cc⟩⟩), by show i + 1 ≤ _; omega, by rw [List.length_set]; exact hM, by
            show (M.set i _).map _ = _
            rw [List.map_set, ← hMx]
            show (M.map (·.x)).set i e.x = M.map (·.x)
            refine List.ext_getElem? fun j => ?_
            rw [List.getElem?_set]
            split
            · rename_i hij
              subst hij
              rw [List.getElem?_map, heM, List.length_map, if_pos tO]
              rfl
            · rfl, by
            show (M.set i _).drop (i + 1) = l.drop (i + 1)
            rw [List.drop_set_of_lt tO, ← List.drop_drop, hMd, List.drop_drop], fun o ho => by
            have ho : o ∈ (M.set i ⟨e.x, ⟨qa, ca, qb, cb, qc, cc⟩⟩).take (i + 1) := ho
            rw [htk] at ho
            rcases List.mem_append.1 ho with ho | ho
            · exact hMc o ho
            · rw [List.mem_singleton.1 ho]; exact ⟨ha, hb, hcc⟩⟩ (by show l.length - (i + 1) < l.length - i; omega))
    · rintro _ _ ⟨rfl, rfl⟩
      refine D.all (rs := [6, 16]) tK rfl (DAll.cons rfl tK (OpQ.loud (q_ldE (xs := M) ck_59 rfl isO tM heM rfl)) (.inr (by rintro _ _ ⟨rfl, rfl⟩ w h; exact h.subD)) rfl ?_ (DAll.cons rfl tK (OpQ.loud (q_ldE (xs := M) ck_60 rfl isO tM heM rfl)) (.inr (by rintro _ _ ⟨rfl, rfl⟩ w h; exact h.subD)) rfl ?_ DAll.nil))
      · rintro _ _ ⟨rfl, rfl⟩
        refine D.all (rs := [7, 16]) tK rfl (DAll.cons rfl tK (OpL.callD rfl (h := clone_rw (RowF Kd.rw e.z.q1 e.x.rows) e.z.q1 e.z.c1 e.x.rows isF he1)) (.inr (by rintro _ _ ⟨_, ⟨qa, ca, rfl, rfl, ha⟩, rfl⟩ w h; exact h.subD)) rfl ?_ (DAll.cons rfl tK (OpQ.loud (q_ldE (xs := M) ck_60 rfl isO tM heM rfl)) (.inr (by rintro _ _ ⟨rfl, rfl⟩ w h; exact h.subD)) rfl ?_ DAll.nil))
        · rintro _ _ ⟨_, ⟨qa, ca, rfl, rfl, ha⟩, rfl⟩
          refine D.all (rs := [12, 16]) tK rfl (DAll.cons rfl tK (OpL.callD rfl (h := clone_msg (RowF Kd.msg e.z.q2 e.x.msgs) e.z.q2 e.z.c2 e.x.msgs isF he2)) (.inr (by rintro _ _ ⟨_, ⟨qb, cb, rfl, rfl, hb⟩, rfl⟩ w h; exact h.subD)) rfl ?_ (DAll.cons rfl tK (OpQ.loud (q_ldE (xs := M) ck_60 rfl isO tM heM rfl)) (.inr (by rintro _ _ ⟨rfl, rfl⟩ w h; exact h.subD)) rfl ?_ DAll.nil))
          · rintro _ _ ⟨_, ⟨qb, cb, rfl, rfl, hb⟩, rfl⟩
            refine dq1 16 rfl (OpQ.loud (q_ldE (xs := M) ck_60 rfl isO tM heM rfl)) (.inr (by rintro _ _ ⟨rfl, rfl⟩ w h; exact h.subD)) ?_
            rintro _ _ ⟨rfl, rfl⟩
            refine dq1 17 rfl (OpL.callD rfl (h := clone_msg (RowF Kd.msg e.z.q3 e.x.dead) e.z.q3 e.z.c3 e.x.dead isF he3)) (.inr (by rintro _ _ ⟨_, ⟨qc, cc, rfl, rfl, hcc⟩, rfl⟩ w h; exact h.subD)) ?_
            rintro _ _ ⟨_, ⟨qc, cc, rfl, rfl, hcc⟩, rfl⟩
            refine dq 18 rfl (q_nilCheck rfl) <| dq 19 rfl (q_fieldE fo_62_3 rfl) <| dq1N 20 rfl (l_storeE (xs := M) (el := e) (⟨e.x, ⟨qa, ca, e.z.q2, e.z.c2, e.z.q3, e.z.c3⟩⟩ : Oz) ck_59 rfl rfl rfl tP heM tD rfl) (.inr (by rintro _ _ ⟨rfl, rfl⟩ w h; exact h.subD)) ?_
            rintro _ _ ⟨rfl, rfl⟩
            refine dq 21 rfl (q_nilCheck rfl) <| dq 22 rfl (q_fieldE fo_62_4 rfl) ?_
            refine dq1N 23 rfl (l_storeE (xs := M.set i (⟨e.x, ⟨qa, ca, e.z.q2, e.z.c2, e.z.q3, e.z.c3⟩⟩ : Oz)) (el := (⟨e.x, ⟨qa, ca, e.z.q2, e.z.c2, e.z.q3, e.z.c3⟩⟩ : Oz)) (⟨e.x, ⟨qa, ca, qb, cb, e.z.q3, e.z.c3⟩⟩ : Oz) ck_60 rfl rfl rfl tP (List.getElem?_set_self tO) tD rfl) (.inr (by rintro _ _ ⟨rfl, rfl⟩ w h; exact h.subD)) ?_
            rintro _ _ ⟨rfl, rfl⟩
            refine dq 24 rfl (q_nilCheck rfl) <| dq 25 rfl (q_fieldE fo_62_5 rfl) ?_
            refine dq1N 26 rfl (l_storeE (xs := (M.set i (⟨e.x, ⟨qa, ca, e.z.q2, e.z.c2, e.z.q3, e.z.c3⟩⟩ : Oz)).set i (⟨e.x, ⟨qa, ca, qb, cb, e.z.q3, e.z.c3⟩⟩ : Oz)) (el := (⟨e.x, ⟨qa, ca, qb, cb, e.z.q3, e.z.c3⟩⟩ : Oz)) (⟨e.x, ⟨qa, ca, qb, cb, qc, cc⟩⟩ : Oz) ck_60 rfl rfl rfl tP (List.getElem?_set_self (by rw [List.length_set]; omega)) tD rfl) (.inr (by rintro _ _ ⟨rfl, rfl⟩ w h; exact h.subD)) ?_
            rintro _ _ ⟨rfl, rfl⟩
            refine D.done tK <| K.inBlock <| K.region <| KO.q rfl (q_add rfl rfl tN tN) <| KO.q rfl (q_move rfl) <| KO.done ?_
            rw [List.set_set, List.set_set]
            have htk : (M.set i ⟨e.x, ⟨qa, ca, qb, cb, qc, cc⟩⟩).take (i + 1) = M.take i ++ [⟨e.x, ⟨qa, ca, qb, cb, qc, cc⟩⟩] := by
              rw [List.take_add_one, List.take_set_of_le (Nat.le_refl i), List.getElem?_set_self tO]; rfl
            exact K.weak tS (fun w h => by dsimp only; rw [htk]; exact (allO_snoc (o := ⟨e.x, ⟨qa, ca, qb, cb, qc, cc⟩⟩) (h.fit (M := ObO ⟨e.x, ⟨qa, ca, qb, cb, qc, cc⟩⟩ ++ [AllO ObE (M.take i), RowO Kd.oz 62 q' c' (M.set i ⟨e.x, ⟨qa, ca, qb, cb, qc, cc⟩⟩), pv b1 47 [.int .i64 nx, .slice q' l.length c'], pv b2 47 [.int .i64 0, .slice none 0 0], NestF l]) tG (by repeat (first | exact Drop.refl | apply Drop.skip)))).fitD) (ih ⟨(i + 1, M.set i ⟨e.x, ⟨qa, ca, qb, cb, qc, cc⟩⟩), by show i + 1 ≤ _; omega, by rw [List.length_set]; exact hM, by
              show (M.set i _).map _ = _
              rw [List.map_set, ← hMx]
              show (M.map (·.x)).set i e.x = M.map (·.x)
              refine List.ext_getElem? fun j => ?_
              rw [List.getElem?_set]
              split
              · rename_i hij
                subst hij
                rw [List.getElem?_map, heM, List.length_map, if_pos tO]
                rfl
              · rfl, by
              show (M.set i _).drop (i + 1) = l.drop (i + 1)
              rw [List.drop_set_of_lt tO, ← List.drop_drop, hMd, List.drop_drop], fun o ho => by
              have ho : o ∈ (M.set i ⟨e.x, ⟨qa, ca, qb, cb, qc, cc⟩⟩).take (i + 1) := ho
              rw [htk] at ho
              rcases List.mem_append.1 ho with ho | ho
              · exact hMc o ho
              · rw [List.mem_singleton.1 ho]; exact ⟨ha, hb, hcc⟩⟩ (by show l.length - (i + 1) < l.length - i; omega))
          · rintro _ _ ⟨rfl, rfl⟩
            refine dq1 12 rfl (OpL.callD rfl (h := clone_msg (RowF Kd.msg e.z.q2 e.x.msgs) e.z.q2 e.z.c2 e.x.msgs isF he2)) (.inr (by rintro _ _ ⟨_, ⟨qb, cb, rfl, rfl, hb⟩, rfl⟩ w h; exact h.subD)) ?_
            rintro _ _ ⟨_, ⟨qb, cb, rfl, rfl, hb⟩, rfl⟩
            refine dq1 17 rfl (OpL.callD rfl (h := clone_msg (RowF Kd.msg e.z.q3 e.x.dead) e.z.q3 e.z.c3 e.x.dead isF he3)) (.inr (by rintro _ _ ⟨_, ⟨qc, cc, rfl, rfl, hcc⟩, rfl⟩ w h; exact h.subD)) ?_
            rintro _ _ ⟨_, ⟨qc, cc, rfl, rfl, hcc⟩, rfl⟩
            refine dq 18 rfl (q_nilCheck rfl) <| dq 19 rfl (q_fieldE fo_62_3 rfl) <| dq1N 20 rfl (l_storeE (xs := M) (el := e) (⟨e.x, ⟨qa, ca, e.z.q2, e.z.c2, e.z.q3, e.z.c3⟩⟩ : Oz) ck_59 rfl rfl rfl tP heM tD rfl) (.inr (by rintro _ _ ⟨rfl, rfl⟩ w h; exact h.subD)) ?_
            rintro _ _ ⟨rfl, rfl⟩
            refine dq 21 rfl (q_nilCheck rfl) <| dq 22 rfl (q_fieldE fo_62_4 rfl) ?_
            refine dq1N 23 rfl (l_storeE (xs := M.set i (⟨e.x, ⟨qa, ca, e.z.q2, e.z.c2, e.z.q3, e.z.c3⟩⟩ : Oz)) (el := (⟨e.x, ⟨qa, ca, e.z.q2, e.z.c2, e.z.q3, e.z.c3⟩⟩ : Oz)) (⟨e.x, ⟨qa, ca, qb, cb, e.z.q3, e.z.c3⟩⟩ : Oz) ck_60 rfl rfl rfl tP (List.getElem?_set_self tO) tD rfl) (.inr (by rintro _ _ ⟨rfl, rfl⟩ w h; exact h.subD)) ?_
            rintro _ _ ⟨rfl, rfl⟩
            refine dq 24 rfl (q_nilCheck rfl) <| dq 25 rfl (q_fieldE fo_62_5 rfl) ?_
            refine dq1N 26 rfl (l_storeE (xs := (M.set i (⟨e.x, ⟨qa, ca, e.z.q2, e.z.c2, e.z.q3, e.z.c3⟩⟩ : Oz)).set i (⟨e.x, ⟨qa, ca, qb, cb, e.z.q3, e.z.c3⟩⟩ : Oz)) (el := (⟨e.x, ⟨qa, ca, qb, cb, e.z.q3, e.z.c3⟩⟩ : Oz)) (⟨e.x, ⟨qa, ca, qb, cb, qc, cc⟩⟩ : Oz) ck_60 rfl rfl rfl tP (List.getElem?_set_self (by rw [List.length_set]; omega)) tD rfl) (.inr (by rintro _ _ ⟨rfl, rfl⟩ w h; exact h.subD)) ?_
            rintro _ _ ⟨rfl, rfl⟩
            refine D.done tK <| K.inBlock <| K.region <| KO.q rfl (q_add rfl rfl tN tN) <| KO.q rfl (q_move rfl) <| KO.done ?_
            rw [List.set_set, List.set_set]
            have htk : (M.set i ⟨e.x, ⟨qa, ca, qb, cb, qc, cc⟩⟩).take (i + 1) = M.take i ++ [⟨e.x, ⟨qa, ca, qb, cb, qc, cc⟩⟩] := by
              rw [List.take_add_one, List.take_set_of_le (Nat.le_refl i), List.getElem?_set_self tO]; rfl
            exact K.weak tS (fun w h => by dsimp only; rw [htk]; exact (allO_snoc (o := ⟨e.x, ⟨qa, ca, qb, cb, qc, cc⟩⟩) (h.fit (M := ObO ⟨e.x, ⟨qa, ca, qb, cb, qc, cc⟩⟩ ++ [AllO ObE (M.take i), RowO Kd.oz 62 q' c' (M.set i ⟨e.x, ⟨qa, ca, qb, cb, qc, cc⟩⟩), pv b1 47 [.int .i64 nx, .slice q' l.length c'], pv b2 47 [.int .i64 0, .slice none 0 0], NestF l]) tG (by repeat (first | exact Drop.refl | apply Drop.skip)))).fitD) (ih ⟨(i + 1, M.set i ⟨e.x, ⟨qa, ca, qb, cb, qc, cc⟩⟩), by show i + 1 ≤ _; omega, by rw [List.length_set]; exact hM, by
              show (M.set i _).map _ = _
              rw [List.map_set, ← hMx]
              show (M.map (·.x)).set i e.x = M.map (·.x)
              refine List.ext_getElem? fun j => ?_
              rw [List.getElem?_set]
              split
              · rename_i hij
                subst hij
                rw [List.getElem?_map, heM, List.length_map, if_pos tO]
                rfl
              · rfl, by
              show (M.set i _).drop (i + 1) = l.drop (i + 1)
              rw [List.drop_set_of_lt tO, ← List.drop_drop, hMd, List.drop_drop], fun o ho => by
              have ho : o ∈ (M.set i ⟨e.x, ⟨qa, ca, qb, cb, qc, cc⟩⟩).take (i + 1) := ho
              rw [htk] at ho
              rcases List.mem_append.1 ho with ho | ho
              · exact hMc o ho
              · rw [List.mem_singleton.1 ho]; exact ⟨ha, hb, hcc⟩⟩ (by show l.length - (i + 1) < l.length - i; omega))
        · rintro _ _ ⟨rfl, rfl⟩
          refine dq1 7 rfl (OpL.callD rfl (h := clone_rw (RowF Kd.rw e.z.q1 e.x.rows) e.z.q1 e.z.c1 e.x.rows isF he1)) (.inr (by rintro _ _ ⟨_, ⟨qa, ca, rfl, rfl, ha⟩, rfl⟩ w h; exact h.subD)) ?_
          rintro _ _ ⟨_, ⟨qa, ca, rfl, rfl, ha⟩, rfl⟩
          refine dq1 12 rfl (OpL.callD rfl (h := clone_msg (RowF Kd.msg e.z.q2 e.x.msgs) e.z.q2 e.z.c2 e.x.msgs isF he2)) (.inr (by rintro _ _ ⟨_, ⟨qb, cb, rfl, rfl, hb⟩, rfl⟩ w h; exact h.subD)) ?_
          rintro _ _ ⟨_, ⟨qb, cb, rfl, rfl, hb⟩, rfl⟩
          refine dq1 17 rfl (OpL.callD rfl (h := clone_msg (RowF Kd.msg e.z.q3 e.x.dead) e.z.q3 e.z.c3 e.x.dead isF he3)) (.inr (by rintro _ _ ⟨_, ⟨qc, cc, rfl, rfl, hcc⟩, rfl⟩ w h; exact h.subD)) ?_
          rintro _ _ ⟨_, ⟨qc, cc, rfl, rfl, hcc⟩, rfl⟩
          refine dq 18 rfl (q_nilCheck rfl) <| dq 19 rfl (q_fieldE fo_62_3 rfl) <| dq1N 20 rfl (l_storeE (xs := M) (el := e) (⟨e.x, ⟨qa, ca, e.z.q2, e.z.c2, e.z.q3, e.z.c3⟩⟩ : Oz) ck_59 rfl rfl rfl tP heM tD rfl) (.inr (by rintro _ _ ⟨rfl, rfl⟩ w h; exact h.subD)) ?_
          rintro _ _ ⟨rfl, rfl⟩
          refine dq 21 rfl (q_nilCheck rfl) <| dq 22 rfl (q_fieldE fo_62_4 rfl) ?_
          refine dq1N 23 rfl (l_storeE (xs := M.set i (⟨e.x, ⟨qa, ca, e.z.q2, e.z.c2, e.z.q3, e.z.c3⟩⟩ : Oz)) (el := (⟨e.x, ⟨qa, ca, e.z.q2, e.z.c2, e.z.q3, e.z.c3⟩⟩ : Oz)) (⟨e.x, ⟨qa, ca, qb, cb, e.z.q3, e.z.c3⟩⟩ : Oz) ck_60 rfl rfl rfl tP (List.getElem?_set_self tO) tD rfl) (.inr (by rintro _ _ ⟨rfl, rfl⟩ w h; exact h.subD)) ?_
          rintro _ _ ⟨rfl, rfl⟩
          refine dq 24 rfl (q_nilCheck rfl) <| dq 25 rfl (q_fieldE fo_62_5 rfl) ?_
          refine dq1N 26 rfl (l_storeE (xs := (M.set i (⟨e.x, ⟨qa, ca, e.z.q2, e.z.c2, e.z.q3, e.z.c3⟩⟩ : Oz)).set i (⟨e.x, ⟨qa, ca, qb, cb, e.z.q3, e.z.c3⟩⟩ : Oz)) (el := (⟨e.x, ⟨qa, ca, qb, cb, e.z.q3, e.z.c3⟩⟩ : Oz)) (⟨e.x, ⟨qa, ca, qb, cb, qc, cc⟩⟩ : Oz) ck_60 rfl rfl rfl tP (List.getElem?_set_self (by rw [List.length_set]; omega)) tD rfl) (.inr (by rintro _ _ ⟨rfl, rfl⟩ w h; exact h.subD)) ?_
          rintro _ _ ⟨rfl, rfl⟩
          refine D.done tK <| K.inBlock <| K.region <| KO.q rfl (q_add rfl rfl tN tN) <| KO.q rfl (q_move rfl) <| KO.done ?_
          rw [List.set_set, List.set_set]
          have htk : (M.set i ⟨e.x, ⟨qa, ca, qb, cb, qc, cc⟩⟩).take (i + 1) = M.take i ++ [⟨e.x, ⟨qa, ca, qb, cb, qc, cc⟩⟩] := by
            rw [List.take_add_one, List.take_set_of_le (Nat.le_refl i), List.getElem?_set_self tO]; rfl
          exact K.weak tS (fun w h => by dsimp only; rw [htk]; exact (allO_snoc (o := ⟨e.x, ⟨qa, ca, qb, cb, qc, cc⟩⟩) (h.fit (M := ObO ⟨e.x, ⟨qa, ca, qb, cb, qc, cc⟩⟩ ++ [AllO ObE (M.take i), RowO Kd.oz 62 q' c' (M.set i ⟨e.x, ⟨qa, ca, qb, cb, qc, cc⟩⟩), pv b1 47 [.int .i64 nx, .slice q' l.length c'], pv b2 47 [.int .i64 0, .slice none 0 0], NestF l]) tG (by repeat (first | exact Drop.refl | apply Drop.skip)))).fitD) (ih ⟨(i + 1, M.set i ⟨e.x, ⟨qa, ca, qb, cb, qc, cc⟩⟩), by show i + 1 ≤ _; omega, by rw [List.length_set]; exact hM, by
            show (M.set i _).map _ = _
            rw [List.map_set, ← hMx]
            show (M.map (·.x)).set i e.x = M.map (·.x)
            refine List.ext_getElem? fun j => ?_
            rw [List.getElem?_set]
            split
            · rename_i hij
              subst hij
              rw [List.getElem?_map, heM, List.length_map, if_pos tO]
              rfl
            · rfl, by
            show (M.set i _).drop (i + 1) = l.drop (i + 1)
            rw [List.drop_set_of_lt tO, ← List.drop_drop, hMd, List.drop_drop], fun o ho => by
            have ho : o ∈ (M.set i ⟨e.x, ⟨qa, ca, qb, cb, qc, cc⟩⟩).take (i + 1) := ho
            rw [htk] at ho
            rcases List.mem_append.1 ho with ho | ho
            · exact hMc o ho
            · rw [List.mem_singleton.1 ho]; exact ⟨ha, hb, hcc⟩⟩ (by show l.length - (i + 1) < l.length - i; omega))
      · rintro _ _ ⟨rfl, rfl⟩
        refine dq1 6 rfl (OpQ.loud (q_ldE (xs := M) ck_59 rfl isO tM heM rfl)) (.inr (by rintro _ _ ⟨rfl, rfl⟩ w h; exact h.subD)) ?_
        rintro _ _ ⟨rfl, rfl⟩
        refine dq1 7 rfl (OpL.callD rfl (h := clone_rw (RowF Kd.rw e.z.q1 e.x.rows) e.z.q1 e.z.c1 e.x.rows isF he1)) (.inr (by rintro _ _ ⟨_, ⟨qa, ca, rfl, rfl, ha⟩, rfl⟩ w h; exact h.subD)) ?_
        rintro _ _ ⟨_, ⟨qa, ca, rfl, rfl, ha⟩, rfl⟩
        refine dq1 12 rfl (OpL.callD rfl (h := clone_msg (RowF Kd.msg e.z.q2 e.x.msgs) e.z.q2 e.z.c2 e.x.msgs isF he2)) (.inr (by rintro _ _ ⟨_, ⟨qb, cb, rfl, rfl, hb⟩, rfl⟩ w h; exact h.subD)) ?_
        rintro _ _ ⟨_, ⟨qb, cb, rfl, rfl, hb⟩, rfl⟩
        refine dq1 17 rfl (OpL.callD rfl (h := clone_msg (RowF Kd.msg e.z.q3 e.x.dead) e.z.q3 e.z.c3 e.x.dead isF he3)) (.inr (by rintro _ _ ⟨_, ⟨qc, cc, rfl, rfl, hcc⟩, rfl⟩ w h; exact h.subD)) ?_
        rintro _ _ ⟨_, ⟨qc, cc, rfl, rfl, hcc⟩, rfl⟩
        refine dq 18 rfl (q_nilCheck rfl) <| dq 19 rfl (q_fieldE fo_62_3 rfl) <| dq1N 20 rfl (l_storeE (xs := M) (el := e) (⟨e.x, ⟨qa, ca, e.z.q2, e.z.c2, e.z.q3, e.z.c3⟩⟩ : Oz) ck_59 rfl rfl rfl tP heM tD rfl) (.inr (by rintro _ _ ⟨rfl, rfl⟩ w h; exact h.subD)) ?_
        rintro _ _ ⟨rfl, rfl⟩
        refine dq 21 rfl (q_nilCheck rfl) <| dq 22 rfl (q_fieldE fo_62_4 rfl) ?_
        refine dq1N 23 rfl (l_storeE (xs := M.set i (⟨e.x, ⟨qa, ca, e.z.q2, e.z.c2, e.z.q3, e.z.c3⟩⟩ : Oz)) (el := (⟨e.x, ⟨qa, ca, e.z.q2, e.z.c2, e.z.q3, e.z.c3⟩⟩ : Oz)) (⟨e.x, ⟨qa, ca, qb, cb, e.z.q3, e.z.c3⟩⟩ : Oz) ck_60 rfl rfl rfl tP (List.getElem?_set_self tO) tD rfl) (.inr (by rintro _ _ ⟨rfl, rfl⟩ w h; exact h.subD)) ?_
        rintro _ _ ⟨rfl, rfl⟩
        refine dq 24 rfl (q_nilCheck rfl) <| dq 25 rfl (q_fieldE fo_62_5 rfl) ?_
        refine dq1N 26 rfl (l_storeE (xs := (M.set i (⟨e.x, ⟨qa, ca, e.z.q2, e.z.c2, e.z.q3, e.z.c3⟩⟩ : Oz)).set i (⟨e.x, ⟨qa, ca, qb, cb, e.z.q3, e.z.c3⟩⟩ : Oz)) (el := (⟨e.x, ⟨qa, ca, qb, cb, e.z.q3, e.z.c3⟩⟩ : Oz)) (⟨e.x, ⟨qa, ca, qb, cb, qc, cc⟩⟩ : Oz) ck_60 rfl rfl rfl tP (List.getElem?_set_self (by rw [List.length_set]; omega)) tD rfl) (.inr (by rintro _ _ ⟨rfl, rfl⟩ w h; exact h.subD)) ?_
        rintro _ _ ⟨rfl, rfl⟩
        refine D.done tK <| K.inBlock <| K.region <| KO.q rfl (q_add rfl rfl tN tN) <| KO.q rfl (q_move rfl) <| KO.done ?_
        rw [List.set_set, List.set_set]
        have htk : (M.set i ⟨e.x, ⟨qa, ca, qb, cb, qc, cc⟩⟩).take (i + 1) = M.take i ++ [⟨e.x, ⟨qa, ca, qb, cb, qc, cc⟩⟩] := by
          rw [List.take_add_one, List.take_set_of_le (Nat.le_refl i), List.getElem?_set_self tO]; rfl
        exact K.weak tS (fun w h => by dsimp only; rw [htk]; exact (allO_snoc (o := ⟨e.x, ⟨qa, ca, qb, cb, qc, cc⟩⟩) (h.fit (M := ObO ⟨e.x, ⟨qa, ca, qb, cb, qc, cc⟩⟩ ++ [AllO ObE (M.take i), RowO Kd.oz 62 q' c' (M.set i ⟨e.x, ⟨qa, ca, qb, cb, qc, cc⟩⟩), pv b1 47 [.int .i64 nx, .slice q' l.length c'], pv b2 47 [.int .i64 0, .slice none 0 0], NestF l]) tG (by repeat (first | exact Drop.refl | apply Drop.skip)))).fitD) (ih ⟨(i + 1, M.set i ⟨e.x, ⟨qa, ca, qb, cb, qc, cc⟩⟩), by show i + 1 ≤ _; omega, by rw [List.length_set]; exact hM, by
          show (M.set i _).map _ = _
          rw [List.map_set, ← hMx]
          show (M.map (·.x)).set i e.x = M.map (·.x)
          refine List.ext_getElem? fun j => ?_
          rw [List.getElem?_set]
          split
          · rename_i hij
            subst hij
            rw [List.getElem?_map, heM, List.length_map, if_pos tO]
            rfl
          · rfl, by
          show (M.set i _).drop (i + 1) = l.drop (i + 1)
          rw [List.drop_set_of_lt tO, ← List.drop_drop, hMd, List.drop_drop], fun o ho => by
          have ho : o ∈ (M.set i ⟨e.x, ⟨qa, ca, qb, cb, qc, cc⟩⟩).take (i + 1) := ho
          rw [htk] at ho
          rcases List.mem_append.1 ho with ho | ho
          · exact hMc o ho
          · rw [List.mem_singleton.1 ho]; exact ⟨ha, hb, hcc⟩⟩ (by show l.length - (i + 1) < l.length - i; omega))
    · rintro _ _ ⟨rfl, rfl⟩
      refine D.all (rs := [6, 11]) tK rfl (DAll.cons rfl tK (OpQ.loud (q_ldE (xs := M) ck_59 rfl isO tM heM rfl)) (.inr (by rintro _ _ ⟨rfl, rfl⟩ w h; exact h.subD)) rfl ?_ (DAll.cons rfl tK (OpQ.loud (q_ldE (xs := M) ck_60 rfl isO tM heM rfl)) (.inr (by rintro _ _ ⟨rfl, rfl⟩ w h; exact h.subD)) rfl ?_ DAll.nil))
      · rintro _ _ ⟨rfl, rfl⟩
        refine D.all (rs := [7, 11]) tK rfl (DAll.cons rfl tK (OpL.callD rfl (h := clone_rw (RowF Kd.rw e.z.q1 e.x.rows) e.z.q1 e.z.c1 e.x.rows isF he1)) (.inr (by rintro _ _ ⟨_, ⟨qa, ca, rfl, rfl, ha⟩, rfl⟩ w h; exact h.subD)) rfl ?_ (DAll.cons rfl tK (OpQ.loud (q_ldE (xs := M) ck_60 rfl isO tM heM rfl)) (.inr (by rintro _ _ ⟨rfl, rfl⟩ w h; exact h.subD)) rfl ?_ DAll.nil))
        · rintro _ _ ⟨_, ⟨qa, ca, rfl, rfl, ha⟩, rfl⟩
          refine dq1 11 rfl (OpQ.loud (q_ldE (xs := M) ck_60 rfl isO tM heM rfl)) (.inr (by rintro _ _ ⟨rfl, rfl⟩ w h; exact h.subD)) ?_
          rintro _ _ ⟨rfl, rfl⟩
          refine dq1 12 rfl (OpL.callD rfl (h := clone_msg (RowF Kd.msg e.z.q2 e.x.msgs) e.z.q2 e.z.c2 e.x.msgs isF he2)) (.inr (by rintro _ _ ⟨_, ⟨qb, cb, rfl, rfl, hb⟩, rfl⟩ w h; exact h.subD)) ?_
          rintro _ _ ⟨_, ⟨qb, cb, rfl, rfl, hb⟩, rfl⟩
          refine dq1 17 rfl (OpL.callD rfl (h := clone_msg (RowF Kd.msg e.z.q3 e.x.dead) e.z.q3 e.z.c3 e.x.dead isF he3)) (.inr (by rintro _ _ ⟨_, ⟨qc, cc, rfl, rfl, hcc⟩, rfl⟩ w h; exact h.subD)) ?_
          rintro _ _ ⟨_, ⟨qc, cc, rfl, rfl, hcc⟩, rfl⟩
          refine dq 18 rfl (q_nilCheck rfl) <| dq 19 rfl (q_fieldE fo_62_3 rfl) <| dq1N 20 rfl (l_storeE (xs := M) (el := e) (⟨e.x, ⟨qa, ca, e.z.q2, e.z.c2, e.z.q3, e.z.c3⟩⟩ : Oz) ck_59 rfl rfl rfl tP heM tD rfl) (.inr (by rintro _ _ ⟨rfl, rfl⟩ w h; exact h.subD)) ?_
          rintro _ _ ⟨rfl, rfl⟩
          refine dq 21 rfl (q_nilCheck rfl) <| dq 22 rfl (q_fieldE fo_62_4 rfl) ?_
          refine dq1N 23 rfl (l_storeE (xs := M.set i (⟨e.x, ⟨qa, ca, e.z.q2, e.z.c2, e.z.q3, e.z.c3⟩⟩ : Oz)) (el := (⟨e.x, ⟨qa, ca, e.z.q2, e.z.c2, e.z.q3, e.z.c3⟩⟩ : Oz)) (⟨e.x, ⟨qa, ca, qb, cb, e.z.q3, e.z.c3⟩⟩ : Oz) ck_60 rfl rfl rfl tP (List.getElem?_set_self tO) tD rfl) (.inr (by rintro _ _ ⟨rfl, rfl⟩ w h; exact h.subD)) ?_
          rintro _ _ ⟨rfl, rfl⟩
          refine dq 24 rfl (q_nilCheck rfl) <| dq 25 rfl (q_fieldE fo_62_5 rfl) ?_
          refine dq1N 26 rfl (l_storeE (xs := (M.set i (⟨e.x, ⟨qa, ca, e.z.q2, e.z.c2, e.z.q3, e.z.c3⟩⟩ : Oz)).set i (⟨e.x, ⟨qa, ca, qb, cb, e.z.q3, e.z.c3⟩⟩ : Oz)) (el := (⟨e.x, ⟨qa, ca, qb, cb, e.z.q3, e.z.c3⟩⟩ : Oz)) (⟨e.x, ⟨qa, ca, qb, cb, qc, cc⟩⟩ : Oz) ck_60 rfl rfl rfl tP (List.getElem?_set_self (by rw [List.length_set]; omega)) tD rfl) (.inr (by rintro _ _ ⟨rfl, rfl⟩ w h; exact h.subD)) ?_
          rintro _ _ ⟨rfl, rfl⟩
          refine D.done tK <| K.inBlock <| K.region <| KO.q rfl (q_add rfl rfl tN tN) <| KO.q rfl (q_move rfl) <| KO.done ?_
          rw [List.set_set, List.set_set]
          have htk : (M.set i ⟨e.x, ⟨qa, ca, qb, cb, qc, cc⟩⟩).take (i + 1) = M.take i ++ [⟨e.x, ⟨qa, ca, qb, cb, qc, cc⟩⟩] := by
            rw [List.take_add_one, List.take_set_of_le (Nat.le_refl i), List.getElem?_set_self tO]; rfl
          exact K.weak tS (fun w h => by dsimp only; rw [htk]; exact (allO_snoc (o := ⟨e.x, ⟨qa, ca, qb, cb, qc, cc⟩⟩) (h.fit (M := ObO ⟨e.x, ⟨qa, ca, qb, cb, qc, cc⟩⟩ ++ [AllO ObE (M.take i), RowO Kd.oz 62 q' c' (M.set i ⟨e.x, ⟨qa, ca, qb, cb, qc, cc⟩⟩), pv b1 47 [.int .i64 nx, .slice q' l.length c'], pv b2 47 [.int .i64 0, .slice none 0 0], NestF l]) tG (by repeat (first | exact Drop.refl | apply Drop.skip)))).fitD) (ih ⟨(i + 1, M.set i ⟨e.x, ⟨qa, ca, qb, cb, qc, cc⟩⟩), by show i + 1 ≤ _; omega, by rw [List.length_set]; exact hM, by
            show (M.set i _).map _ = _
            rw [List.map_set, ← hMx]
            show (M.map (·.x)).set i e.x = M.map (·.x)
            refine List.ext_getElem? fun j => ?_
            rw [List.getElem?_set]
            split
            · rename_i hij
              subst hij
              rw [List.getElem?_map, heM, List.length_map, if_pos tO]
              rfl
            · rfl, by
            show (M.set i _).drop (i + 1) = l.drop (i + 1)
            rw [List.drop_set_of_lt tO, ← List.drop_drop, hMd, List.drop_drop], fun o ho => by
            have ho : o ∈ (M.set i ⟨e.x, ⟨qa, ca, qb, cb, qc, cc⟩⟩).take (i + 1) := ho
            rw [htk] at ho
            rcases List.mem_append.1 ho with ho | ho
            · exact hMc o ho
            · rw [List.mem_singleton.1 ho]; exact ⟨ha, hb, hcc⟩⟩ (by show l.length - (i + 1) < l.length - i; omega))
        · rintro _ _ ⟨rfl, rfl⟩
          refine dq1 7 rfl (OpL.callD rfl (h := clone_rw (RowF Kd.rw e.z.q1 e.x.rows) e.z.q1 e.z.c1 e.x.rows isF he1)) (.inr (by rintro _ _ ⟨_, ⟨qa, ca, rfl, rfl, ha⟩, rfl⟩ w h; exact h.subD)) ?_
          rintro _ _ ⟨_, ⟨qa, ca, rfl, rfl, ha⟩, rfl⟩
          refine dq1 12 rfl (OpL.callD rfl (h := clone_msg (RowF Kd.msg e.z.q2 e.x.msgs) e.z.q2 e.z.c2 e.x.msgs isF he2)) (.inr (by rintro _ _ ⟨_, ⟨qb, cb, rfl, rfl, hb⟩, rfl⟩ w h; exact h.subD)) ?_
          rintro _ _ ⟨_, ⟨qb, cb, rfl, rfl, hb⟩, rfl⟩
          refine dq1 17 rfl (OpL.callD rfl (h := clone_msg (RowF Kd.msg e.z.q3 e.x.dead) e.z.q3 e.z.c3 e.x.dead isF he3)) (.inr (by rintro _ _ ⟨_, ⟨qc, cc, rfl, rfl, hcc⟩, rfl⟩ w h; exact h.subD)) ?_
          rintro _ _ ⟨_, ⟨qc, cc, rfl, rfl, hcc⟩, rfl⟩
          refine dq 18 rfl (q_nilCheck rfl) <| dq 19 rfl (q_fieldE fo_62_3 rfl) <| dq1N 20 rfl (l_storeE (xs := M) (el := e) (⟨e.x, ⟨qa, ca, e.z.q2, e.z.c2, e.z.q3, e.z.c3⟩⟩ : Oz) ck_59 rfl rfl rfl tP heM tD rfl) (.inr (by rintro _ _ ⟨rfl, rfl⟩ w h; exact h.subD)) ?_
          rintro _ _ ⟨rfl, rfl⟩
          refine dq 21 rfl (q_nilCheck rfl) <| dq 22 rfl (q_fieldE fo_62_4 rfl) ?_
          refine dq1N 23 rfl (l_storeE (xs := M.set i (⟨e.x, ⟨qa, ca, e.z.q2, e.z.c2, e.z.q3, e.z.c3⟩⟩ : Oz)) (el := (⟨e.x, ⟨qa, ca, e.z.q2, e.z.c2, e.z.q3, e.z.c3⟩⟩ : Oz)) (⟨e.x, ⟨qa, ca, qb, cb, e.z.q3, e.z.c3⟩⟩ : Oz) ck_60 rfl rfl rfl tP (List.getElem?_set_self tO) tD rfl) (.inr (by rintro _ _ ⟨rfl, rfl⟩ w h; exact h.subD)) ?_
          rintro _ _ ⟨rfl, rfl⟩
          refine dq 24 rfl (q_nilCheck rfl) <| dq 25 rfl (q_fieldE fo_62_5 rfl) ?_
          refine dq1N 26 rfl (l_storeE (xs := (M.set i (⟨e.x, ⟨qa, ca, e.z.q2, e.z.c2, e.z.q3, e.z.c3⟩⟩ : Oz)).set i (⟨e.x, ⟨qa, ca, qb, cb, e.z.q3, e.z.c3⟩⟩ : Oz)) (el := (⟨e.x, ⟨qa, ca, qb, cb, e.z.q3, e.z.c3⟩⟩ : Oz)) (⟨e.x, ⟨qa, ca, qb, cb, qc, cc⟩⟩ : Oz) ck_60 rfl rfl rfl tP (List.getElem?_set_self (by rw [List.length_set]; omega)) tD rfl) (.inr (by rintro _ _ ⟨rfl, rfl⟩ w h; exact h.subD)) ?_
          rintro _ _ ⟨rfl, rfl⟩
          refine D.done tK <| K.inBlock <| K.region <| KO.q rfl (q_add rfl rfl tN tN) <| KO.q rfl (q_move rfl) <| KO.done ?_
          rw [List.set_set, List.set_set]
          have htk : (M.set i ⟨e.x, ⟨qa, ca, qb, cb, qc, cc⟩⟩).take (i + 1) = M.take i ++ [⟨e.x, ⟨qa, ca, qb, cb, qc, cc⟩⟩] := by
            rw [List.take_add_one, List.take_set_of_le (Nat.le_refl i), List.getElem?_set_self tO]; rfl
          exact K.weak tS (fun w h => by dsimp only; rw [htk]; exact (allO_snoc (o := ⟨e.x, ⟨qa, ca, qb, cb, qc, cc⟩⟩) (h.fit (M := ObO ⟨e.x, ⟨qa, ca, qb, cb, qc, cc⟩⟩ ++ [AllO ObE (M.take i), RowO Kd.oz 62 q' c' (M.set i ⟨e.x, ⟨qa, ca, qb, cb, qc, cc⟩⟩), pv b1 47 [.int .i64 nx, .slice q' l.length c'], pv b2 47 [.int .i64 0, .slice none 0 0], NestF l]) tG (by repeat (first | exact Drop.refl | apply Drop.skip)))).fitD) (ih ⟨(i + 1, M.set i ⟨e.x, ⟨qa, ca, qb, cb, qc, cc⟩⟩), by show i + 1 ≤ _; omega, by rw [List.length_set]; exact hM, by
            show (M.set i _).map _ = _
            rw [List.map_set, ← hMx]
            show (M.map (·.x)).set i e.x = M.map (·.x)
            refine List.ext_getElem? fun j => ?_
            rw [List.getElem?_set]
            split
            · rename_i hij
              subst hij
              rw [List.getElem?_map, heM, List.length_map, if_pos tO]
              rfl
            · rfl, by
            show (M.set i _).drop (i + 1) = l.drop (i + 1)
            rw [List.drop_set_of_lt tO, ← List.drop_drop, hMd, List.drop_drop], fun o ho => by
            have ho : o ∈ (M.set i ⟨e.x, ⟨qa, ca, qb, cb, qc, cc⟩⟩).take (i + 1) := ho
            rw [htk] at ho
            rcases List.mem_append.1 ho with ho | ho
            · exact hMc o ho
            · rw [List.mem_singleton.1 ho]; exact ⟨ha, hb, hcc⟩⟩ (by show l.length - (i + 1) < l.length - i; omega))
      · rintro _ _ ⟨rfl, rfl⟩
        refine dq1 6 rfl (OpQ.loud (q_ldE (xs := M) ck_59 rfl isO tM heM rfl)) (.inr (by rintro _ _ ⟨rfl, rfl⟩ w h; exact h.subD)) ?_
        rintro _ _ ⟨rfl, rfl⟩
        refine dq1 7 rfl (OpL.callD rfl (h := clone_rw (RowF Kd.rw e.z.q1 e.x.rows) e.z.q1 e.z.c1 e.x.rows isF he1)) (.inr (by rintro _ _ ⟨_, ⟨qa, ca, rfl, rfl, ha⟩, rfl⟩ w h; exact h.subD)) ?_
        rintro _ _ ⟨_, ⟨qa, ca, rfl, rfl, ha⟩, rfl⟩
        refine dq1 12 rfl (OpL.callD rfl (h := clone_msg (RowF Kd.msg e.z.q2 e.x.msgs) e.z.q2 e.z.c2 e.x.msgs isF he2)) (.inr (by rintro _ _ ⟨_, ⟨qb, cb, rfl, rfl, hb⟩, rfl⟩ w h; exact h.subD)) ?_
        rintro _ _ ⟨_, ⟨qb, cb, rfl, rfl, hb⟩, rfl⟩
        refine dq1 17 rfl (OpL.callD rfl (h := clone_msg (RowF Kd.msg e.z.q3 e.x.dead) e.z.q3 e.z.c3 e.x.dead isF he3)) (.inr (by rintro _ _ ⟨_, ⟨qc, cc, rfl, rfl, hcc⟩, rfl⟩ w h; exact h.subD)) ?_
        rintro _ _ ⟨_, ⟨qc, cc, rfl, rfl, hcc⟩, rfl⟩
        refine dq 18 rfl (q_nilCheck rfl) <| dq 19 rfl (q_fieldE fo_62_3 rfl) <| dq1N 20 rfl (l_storeE (xs := M) (el := e) (⟨e.x, ⟨qa, ca, e.z.q2, e.z.c2, e.z.q3, e.z.c3⟩⟩ : Oz) ck_59 rfl rfl rfl tP heM tD rfl) (.inr (by rintro _ _ ⟨rfl, rfl⟩ w h; exact h.subD)) ?_
        rintro _ _ ⟨rfl, rfl⟩
        refine dq 21 rfl (q_nilCheck rfl) <| dq 22 rfl (q_fieldE fo_62_4 rfl) ?_
        refine dq1N 23 rfl (l_storeE (xs := M.set i (⟨e.x, ⟨qa, ca, e.z.q2, e.z.c2, e.z.q3, e.z.c3⟩⟩ : Oz)) (el := (⟨e.x, ⟨qa, ca, e.z.q2, e.z.c2, e.z.q3, e.z.c3⟩⟩ : Oz)) (⟨e.x, ⟨qa, ca, qb, cb, e.z.q3, e.z.c3⟩⟩ : Oz) ck_60 rfl rfl rfl tP (List.getElem?_set_self tO) tD rfl) (.inr (by rintro _ _ ⟨rfl, rfl⟩ w h; exact h.subD)) ?_
        rintro _ _ ⟨rfl, rfl⟩
        refine dq 24 rfl (q_nilCheck rfl) <| dq 25 rfl (q_fieldE fo_62_5 rfl) ?_
        refine dq1N 26 rfl (l_storeE (xs := (M.set i (⟨e.x, ⟨qa, ca, e.z.q2, e.z.c2, e.z.q3, e.z.c3⟩⟩ : Oz)).set i (⟨e.x, ⟨qa, ca, qb, cb, e.z.q3, e.z.c3⟩⟩ : Oz)) (el := (⟨e.x, ⟨qa, ca, qb, cb, e.z.q3, e.z.c3⟩⟩ : Oz)) (⟨e.x, ⟨qa, ca, qb, cb, qc, cc⟩⟩ : Oz) ck_60 rfl rfl rfl tP (List.getElem?_set_self (by rw [List.length_set]; omega)) tD rfl) (.inr (by rintro _ _ ⟨rfl, rfl⟩ w h; exact h.subD)) ?_
        rintro _ _ ⟨rfl, rfl⟩
        refine D.done tK <| K.inBlock <| K.region <| KO.q rfl (q_add rfl rfl tN tN) <| KO.q rfl (q_move rfl) <| KO.done ?_
        rw [List.set_set, List.set_set]
        have htk : (M.set i ⟨e.x, ⟨qa, ca, qb, cb, qc, cc⟩⟩).take (i + 1) = M.take i ++ [⟨e.x, ⟨qa, ca, qb, cb, qc, cc⟩⟩] := by
          rw [List.take_add_one, List.take_set_of_le (Nat.le_refl i), List.getElem?_set_self tO]; rfl
        exact K.weak tS (fun w h => by dsimp only; rw [htk]; exact (allO_snoc (o := ⟨e.x, ⟨qa, ca, qb, cb, qc, cc⟩⟩) (h.fit (M := ObO ⟨e.x, ⟨qa, ca, qb, cb, qc, cc⟩⟩ ++ [AllO ObE (M.take i), RowO Kd.oz 62 q' c' (M.set i ⟨e.x, ⟨qa, ca, qb, cb, qc, cc⟩⟩), pv b1 47 [.int .i64 nx, .slice q' l.length c'], pv b2 47 [.int .i64 0, .slice none 0 0], NestF l]) tG (by repeat (first | exact Drop.refl | apply Drop.skip)))).fitD) (ih ⟨(i + 1, M.set i ⟨e.x, ⟨qa, ca, qb, cb, qc, cc⟩⟩), by show i + 1 ≤ _; omega, by rw [List.length_set]; exact hM, by
          show (M.set i _).map _ = _
          rw [List.map_set, ← hMx]
          show (M.map (·.x)).set i e.x = M.map (·.x)
          refine List.ext_getElem? fun j => ?_
          rw [List.getElem?_set]
          split
          · rename_i hij
            subst hij
            rw [List.getElem?_map, heM, List.length_map, if_pos tO]
            rfl
          · rfl, by
          show (M.set i _).drop (i + 1) = l.drop (i + 1)
          rw [List.drop_set_of_lt tO, ← List.drop_drop, hMd, List.drop_drop], fun o ho => by
          have ho : o ∈ (M.set i ⟨e.x, ⟨qa, ca, qb, cb, qc, cc⟩⟩).take (i + 1) := ho
          rw [htk] at ho
          rcases List.mem_append.1 ho with ho | ho
          · exact hMc o ho
          · rw [List.mem_singleton.1 ho]; exact ⟨ha, hb, hcc⟩⟩ (by show l.length - (i + 1) < l.length - i; omega))
  · obtain rfl : i = l.length := by omega
    rw [List.take_of_length_le tO] at hMc ⊢
    clear ih
    refine K.exit rfl <| K.seq <| K.region <| KO.q rfl (q_as (q_loadN ck_47 rfl rfl tC) (show _ = Sz.cells ⟨nx, q', c', M⟩ by unfold Sz.cells; rw [hM])) <| KO.loudN rfl (l_storeAll ck_47 rfl rfl ⟨rfl, rfl⟩ (sz_one _) tP) ?_
    rintro _ _ ⟨rfl, rfl⟩
    refine KO.done ?_
    refine K.ret (fn := Tryz.f52) Tryz.func52 (fun a w hk hs => resC Tryz.results52 hk rfl ck_47 rfl (cells_pv tM w hs)) (fun w hs => ?_)
    exact ⟨_, [RowO Kd.oz 62 q' c' M, AllO ObE M], rfl, ⟨q', c', M, rfl, rfl, hMx, by omega, hMc⟩, hs.fitD⟩
end Go.Proofs.YtkbhldicnamcdaaGreat.L
namespace Go.Proofs.YtkbhldicnamcdaaGreat.L
open Go Go.Proofs
set_option linter.unusedSimpArgs false
set_option linter.unusedVariables false
def Ob.small (x : Ob) (n : Nat) : Prop := x.sm ∧ x.rows.length ≤ n ∧ x.msgs.length ≤ n ∧ x.dead.length ≤ n
structure Stt.small (s : Stt) (n : Nat) : Prop where
  nx : -9223372036854775808 ≤ s.next ∧ s.next ≤ 9223372036854775807
  len : s.objs.length ≤ 1000000000
  obs : ∀ o ∈ s.objs, o.small n
theorem Ob.small.more {x : Ob} {n m : Nat} (h : x.small n) (hm : n ≤ m) : x.small m := ⟨h.1, by have := h.2.1; omega, by have := h.2.2.1; omega, by have := h.2.2.2; omega⟩
theorem Stt.small.more {s : Stt} {n m : Nat} (h : s.small n) (hm : n ≤ m) : s.small m := ⟨h.nx, h.len, fun o ho => (h.obs o ho).more hm⟩
theorem Msg.sm_tried {m : Msg} (h : m.sm) : m.tried.sm := by
  obtain ⟨h1, h2, h3, h4, h5⟩ := h
  refine ⟨h1, h2, ?_, h4, h5⟩
  show -9223372036854775808 ≤ (if 999 < m.retry then 999 else m.retry) + 1 ∧ (if 999 < m.retry then 999 else m.retry) + 1 ≤ 9223372036854775807
  split <;> omega
theorem Msg.sm_claim {m : Msg} (h : m.sm) (b : Bool) : Msg.sm { m with claimed := b } := h
theorem Msg.sm_right {m : Msg} (h : m.right = true) : m.sm := by
  unfold Msg.right at h
  simp only [Bool.and_eq_true, decide_eq_true_eq] at h
  exact ⟨by omega, by omega, by omega, by omega, by omega⟩
theorem insAt_mem {α : Type} {l : List α} {i : Nat} {x y : α} (h : y ∈ insAt l i x) : y ∈ l ∨ y = x := by
  unfold insAt at h
  rcases List.mem_append.1 h with h | h
  · rcases List.mem_append.1 h with h | h
    · exact .inl (List.mem_of_mem_take h)
    · exact .inr (List.mem_singleton.1 h)
  · exact .inl (List.mem_of_mem_drop h)
theorem insAt_le {α : Type} (l : List α) (i : Nat) (x : α) : (insAt l i x).length ≤ l.length + 1 := by
  unfold insAt
  have := congrArg List.length (List.take_append_drop i l)
  rw [List.length_append] at this
  rw [List.length_append, List.length_append, List.length_singleton]
  omega
theorem gd_mem {α : Type} {l : List α} {i : Nat} {d : α} : l.getD i d ∈ l ∨ l.getD i d = d := by
  rw [List.getD_eq_getElem?_getD]
  cases h : l[i]? with
  | none => exact .inr rfl
  | some x => exact .inl (List.mem_of_getElem? h)
theorem gd_sm {l : List Msg} (h : ∀ m ∈ l, m.sm) (i : Nat) : (l.getD i ⟨0, 0, 0, false, ⟨#[]⟩, ⟨#[]⟩⟩).sm := by
  rcases gd_mem (l := l) (i := i) (d := ⟨0, 0, 0, false, ⟨#[]⟩, ⟨#[]⟩⟩) with h1 | h1
  · exact h _ h1
  · rw [h1]; exact ⟨by decide, by decide, by decide, by decide, by decide⟩
theorem set_all {α : Type} {P : α → Prop} {l : List α} {i : Nat} {y : α} (h : ∀ x ∈ l, P x) (hy : P y) : ∀ x ∈ l.set i y, P x := fun x hx => (List.mem_or_eq_of_mem_set hx).elim (h x) (fun e => by rw [e]; exact hy)
theorem cutM_all {P : Msg → Prop} {l : List Msg} (id : Int) (h : ∀ x ∈ l, P x) : (∀ x ∈ (cutM l id).1, P x) ∧ (cutM l id).1.length ≤ l.length := by
  unfold cutM
  split
  · exact ⟨h, Nat.le_refl _⟩
  · exact ⟨fun x hx => h x (List.mem_of_mem_eraseIdx hx), List.length_eraseIdx_le _ _⟩
theorem claimM_all {l : List Msg} (id : Int) (on : Bool) (h : ∀ x ∈ l, x.sm) : (∀ x ∈ (claimM l id on).1, x.sm) ∧ (claimM l id on).1.length ≤ l.length := by
  unfold claimM
  split
  · exact ⟨h, Nat.le_refl _⟩
  · split
    · exact ⟨h, Nat.le_refl _⟩
    · exact ⟨set_all h (Msg.sm_claim (gd_sm h _) on), Nat.le_of_eq List.length_set⟩
theorem freeO_small {o : Ob} {n : Nat} (id : Int) (t : Bool) (hn : n + 1 ≤ 140737488351232) (h : o.small n) : (freeO o id t).1.small (n + 1) := by
  have h' := h.more (Nat.le_succ n)
  obtain ⟨⟨s1, s2, s3, s4, s5, s6, s7, s8, s9⟩, l1, l2, l3⟩ := h
  have hd := gd_sm s5 (findM o.msgs id).toNat
  unfold freeO
  split
  · exact h'
  · split
    · exact h'
    · split
      · refine ⟨⟨s1, s2, s3, s4, set_all s5 (Msg.sm_claim hd false), s6, s7, ?_, s9⟩, by show o.rows.length ≤ _; omega, ?_, by show o.dead.length ≤ _; omega⟩
        · show (o.msgs.set _ _).length ≤ _; rw [List.length_set]; exact s8
        · show (o.msgs.set _ _).length ≤ _; rw [List.length_set]; omega
      · split
        · have he := List.length_eraseIdx_le o.msgs (findM o.msgs id).toNat
          refine ⟨⟨s1, s2, s3, s4, fun x hx => s5 x (List.mem_of_mem_eraseIdx hx), fun x hx => ?_, s7, ?_, ?_⟩, by show o.rows.length ≤ _; omega, ?_, ?_⟩
          · rcases List.mem_append.1 hx with hx | hx
            · exact s6 x hx
            · rw [List.mem_singleton.1 hx]; exact Msg.sm_tried hd
          · show (o.msgs.eraseIdx _).length ≤ _; omega
          · show (o.dead ++ [_]).length ≤ _; rw [List.length_append, List.length_singleton]; omega
          · show (o.msgs.eraseIdx _).length ≤ _; omega
          · show (o.dead ++ [_]).length ≤ _; rw [List.length_append, List.length_singleton]; omega
        · refine ⟨⟨s1, s2, s3, s4, set_all s5 (Msg.sm_tried hd), s6, s7, ?_, s9⟩, by show o.rows.length ≤ _; omega, ?_, by show o.dead.length ≤ _; omega⟩
          · show (o.msgs.set _ _).length ≤ _; rw [List.length_set]; exact s8
          · show (o.msgs.set _ _).length ≤ _; rw [List.length_set]; omega
theorem right_k {e : Eff} (h : e.right = true) : e.rightK = true := by
  unfold Eff.right at h
  rw [Bool.and_eq_true] at h
  exact h.2
theorem queueO_small {s : Stt} {o : Ob} {e : Eff} {n : Nat} (hn : n + 1 ≤ 140737488351232) (hr : e.right = true) (h : o.small n) : (queueO s o e).1.small (n + 1) := by
  have h' := h.more (Nat.le_succ n)
  have hf := freeO_small e.n e.tried hn h
  obtain ⟨⟨s1, s2, s3, s4, s5, s6, s7, s8, s9⟩, l1, l2, l3⟩ := h
  unfold queueO
  split
  · rename_i hk
    have hm : e.msg.right = true := by
      have := right_k hr
      unfold Eff.rightK at this
      rw [if_neg tO, if_neg tO, if_neg tO, if_pos hk, Bool.and_eq_true] at this
      exact this.2
    split
    · exact h'
    · split
      · exact h'
      · have ha : (addM o.msgs e.msg).length ≤ o.msgs.length + 1 := insAt_le _ _ _
        refine ⟨⟨s1, s2, s3, s4, fun x hx => ?_, s6, s7, ?_, s9⟩, by show o.rows.length ≤ _; omega, ?_, by show o.dead.length ≤ _; omega⟩
        · rcases insAt_mem (hx : x ∈ insAt o.msgs _ e.msg) with h1 | h1
          · exact s5 x h1
          · rw [h1]; exact Msg.sm_right hm
        · show (addM o.msgs e.msg).length ≤ _; omega
        · show (addM o.msgs e.msg).length ≤ _; omega
  · split
    · obtain ⟨c1, c2⟩ := cutM_all e.n s5
      exact ⟨⟨s1, s2, s3, s4, c1, s6, s7, Nat.le_trans c2 s8, s9⟩, by show o.rows.length ≤ _; omega, by show (cutM o.msgs e.n).1.length ≤ _; omega, by show o.dead.length ≤ _; omega⟩
    · split
      · split
        · exact h'
        · obtain ⟨c1, c2⟩ := claimM_all e.n true s5
          exact ⟨⟨s1, s2, s3, s4, c1, s6, s7, Nat.le_trans c2 s8, s9⟩, by show o.rows.length ≤ _; omega, by show (claimM o.msgs e.n true).1.length ≤ _; omega, by show o.dead.length ≤ _; omega⟩
      · split
        · exact hf
        · exact h'
theorem rw_sm {r : Rw} (h : r.right = true) : r.sm := by
  unfold Rw.right rwKey at h
  simp only [Bool.and_eq_true, decide_eq_true_eq] at h
  exact ⟨by omega, by omega⟩
theorem tableO_small {o : Ob} {e : Eff} {n : Nat} (hn : n + 1 ≤ 140737488351232) (hr : e.right = true) (h : o.small n) : (tableO o e).1.small (n + 1) := by
  obtain ⟨⟨s1, s2, s3, s4, s5, s6, s7, s8, s9⟩, l1, l2, l3⟩ := h
  unfold tableO
  split
  · rename_i hk
    have hm : Rw.right ⟨e.key, e.value⟩ = true := by
      have := right_k hr
      unfold Eff.rightK at this
      rw [if_neg tO, if_pos hk, Bool.and_eq_true] at this
      exact this.2
    have hl : (putR o.rows ⟨e.key, e.value⟩).length ≤ o.rows.length + 1 := by
      unfold putR
      split
      · rw [List.length_set]; omega
      · exact insAt_le _ _ _
    refine ⟨⟨s1, s2, s3, fun x hx => ?_, s5, s6, ?_, s8, s9⟩, ?_, by show o.msgs.length ≤ _; omega, by show o.dead.length ≤ _; omega⟩
    · have hx : x ∈ putR o.rows ⟨e.key, e.value⟩ := hx
      unfold putR at hx
      split at hx
      · rcases List.mem_or_eq_of_mem_set hx with h1 | h1
        · exact s4 x h1
        · rw [h1]; exact rw_sm hm
      · rcases insAt_mem hx with h1 | h1
        · exact s4 x h1
        · rw [h1]; exact rw_sm hm
    · show (putR o.rows ⟨e.key, e.value⟩).length ≤ _; omega
    · show (putR o.rows ⟨e.key, e.value⟩).length ≤ _; omega
  · have hl : (cutR o.rows e.key).1.length ≤ o.rows.length := by
      unfold cutR
      split
      · exact List.length_eraseIdx_le _ _
      · exact Nat.le_refl _
    refine ⟨⟨s1, s2, s3, fun x hx => ?_, s5, s6, ?_, s8, s9⟩, ?_, by show o.msgs.length ≤ _; omega, by show o.dead.length ≤ _; omega⟩
    · have hx : x ∈ (cutR o.rows e.key).1 := hx
      unfold cutR at hx
      split at hx
      · exact s4 x (List.mem_of_mem_eraseIdx hx)
      · exact s4 x hx
    · show (cutR o.rows e.key).1.length ≤ _; omega
    · show (cutR o.rows e.key).1.length ≤ _; omega
theorem ob_zero_small (n : Nat) : Ob.zero.small n := ⟨⟨tD, tD, tD, (fun _ h => by cases h), (fun _ h => by cases h), (fun _ h => by cases h), by decide, by decide, by decide⟩, Nat.zero_le _, Nat.zero_le _, Nat.zero_le _⟩
theorem doS_small {s : Stt} {n : Nat} (hn : n + 1 ≤ 140737488351232) (h : s.small n) (e : Eff) : (doS s e).1.small (n + 1) := by
  have h' := h.more (Nat.le_succ n)
  have hg : (s.objs.getD (findO s e.object).toNat Ob.zero).small n := by
    rcases gd_mem (l := s.objs) (i := (findO s e.object).toNat) (d := Ob.zero) with h1 | h1
    · exact h.obs _ h1
    · rw [h1]; exact ob_zero_small n
  unfold doS
  split
  · exact h'
  · rename_i hr
    have hr : e.right = true := by simpa using hr
    have hk := right_k hr
    split
    · rename_i hk1
      unfold makeS
      split
      · exact h'
      · split
        · exact h'
        · have hkk : (effName e.object && effKind e.n e.limit) = true := by
            unfold Eff.rightK at hk
            rwa [if_pos hk1] at hk
          rw [Bool.and_eq_true] at hkk
          refine ⟨h'.nx, ?_, fun o ho => ?_⟩
          · exact Nat.le_trans (insAt_le _ _ _) tO
          · rcases insAt_mem (ho : o ∈ insAt s.objs _ _) with h1 | h1
            · exact h'.obs o h1
            · rw [h1]
              have h2 := hkk.1
              have h3 := hkk.2
              unfold effName at h2
              rw [Bool.and_eq_true, decide_eq_true_eq, decide_eq_true_eq] at h2
              have h4 : (1 ≤ e.n ∧ e.n ≤ 2) ∧ 0 ≤ e.limit ∧ e.limit ≤ 1000 := by
                unfold effKind at h3
                split at h3
                · have := of_decide_eq_true h3; omega
                · split at h3
                  · rw [Bool.and_eq_true, decide_eq_true_eq, decide_eq_true_eq] at h3; omega
                  · cases h3
              exact ⟨⟨by show e.object.size ≤ _; omega, by show _ ≤ e.n ∧ e.n ≤ _; omega, by show _ ≤ e.limit ∧ e.limit ≤ _; omega, (fun _ h => by cases h), (fun _ h => by cases h), (fun _ h => by cases h), Nat.zero_le _, Nat.zero_le _, Nat.zero_le _⟩, Nat.zero_le _, Nat.zero_le _, Nat.zero_le _⟩
    · split
      · rename_i hk8
        unfold nextS
        split
        · exact h'
        · have hid : effId e.n = true := by
            unfold Eff.rightK at hk
            rwa [if_neg tO, if_neg tO, if_neg tO, if_neg tO, if_neg tO, if_pos hk8] at hk
          unfold effId at hid
          rw [Bool.and_eq_true, decide_eq_true_eq, decide_eq_true_eq] at hid
          exact ⟨by show _ ≤ e.n ∧ e.n ≤ _; omega, h'.len, h'.obs⟩
      · split
        · exact h'
        · split
          · exact h'
          · split
            · exact ⟨h'.nx, by show (s.objs.set _ _).length ≤ _; rw [List.length_set]; exact h'.len, set_all h'.obs (tableO_small hn hr hg)⟩
            · exact ⟨h'.nx, by show (s.objs.set _ _).length ≤ _; rw [List.length_set]; exact h'.len, set_all h'.obs (queueO_small hn hr hg)⟩
end Go.Proofs.YtkbhldicnamcdaaGreat.L
namespace Go.Proofs.YtkbhldicnamcdaaGreat.L
open Go Go.Proofs
attribute [local irreducible] pv fv pt fz RowF RowO rowP old pure_ elA Rd.int Rd.text Rd.flag Rd.msg Rd.rint Rd.rtext Rd.rflag Rd.rmsg
set_option maxRecDepth 100000
set_option linter.unusedSimpArgs false
set_option linter.unusedVariables false
theorem Oz.ok_of {o : Oz} {n : Nat} (h : o.x.small n) (hc : o.cap) : o.ok := ⟨h.1, hc⟩
theorem Oz.le_of {o : Oz} {n m : Nat} (h : o.x.small n) (hm : n ≤ m) : o.le m := ⟨by have := h.2.1; omega, by have := h.2.2.1; omega, by have := h.2.2.2; omega⟩
theorem Stt.small.oz {s : Sz} {n : Nat} (h : s.st.small n) {o : Oz} (ho : o ∈ s.l) : o.x.small n := h.obs o.x (List.mem_map_of_mem ho)
theorem Sz.len_of {s : Sz} {n : Nat} (h : s.st.small n) : s.l.length ≤ 1000000000 := by
  have := h.len
  rwa [show s.st.objs.length = s.l.length from List.length_map _] at this
theorem Sz.ok_of {s : Sz} {n : Nat} (h : s.st.small n) (hc : s.l.length ≤ s.c) (hcap : ∀ o ∈ s.l, o.cap) : s.ok :=
  ⟨h.nx, by have := Sz.len_of h; omega, hc, fun o ho => Oz.ok_of (h.oz ho) (hcap o ho)⟩
theorem Sz.few_of {s : Sz} {n : Nat} (h : s.st.small n) (hn : n ≤ 1000000000) : s.few := fun o ho => by
  have := h.oz ho
  have h2 := this.2.2.1
  have h3 := this.2.2.2
  omega
structure Sz.good (s : Sz) (n : Nat) : Prop where
  sm : s.st.small n
  room : s.l.length ≤ s.c
  cap : ∀ o ∈ s.l, o.cap
theorem Sz.zero_good (n : Nat) : Sz.good ⟨0, none, 0, []⟩ n := ⟨⟨tD, tD, fun o ho => by cases ho⟩, Nat.le_refl _, fun o ho => by cases ho⟩
theorem doAll_step {s : Stt} {e : Eff} {l : List Eff} (h : (doS s e).2 = 0) : doAll s (e :: l) = doAll (doS s e).1 l := by rw [doAll, if_pos h]
theorem doAll_stop {s : Stt} {e : Eff} {l : List Eff} (h : ¬ (doS s e).2 = 0) : doAll s (e :: l) = (⟨0, []⟩, (doS s e).2) := by rw [doAll, if_neg h]
set_option maxHeartbeats 3200000 in
theorem st_Apply (A : HP) (s : Sz) (n : Nat) (qe : Option Addr) (ce : Nat) (l : List Eff) (hA : IsRow A Kd.eff qe l) (hs : s.good n) (hn : n + l.length ≤ 100000000) : Fn Tryz.prog 44 [.agg s.cells.toArray, .slice qe l.length ce].toArray (A :: StL s)
    (fun r post => ∃ s' : Sz, r = .tuple #[.agg s'.cells.toArray, .int .i64 (applyS s.st l).2] ∧ s'.st = (applyS s.st l).1 ∧ post = A :: StL s' ∧ s'.good (n + l.length)) := by
  have hok := Sz.ok_of hs.sm hs.room hs.cap
  have hfew := Sz.few_of hs.sm tO
  have hlen := Sz.len_of hs.sm
  have hle : ∀ o ∈ s.l, o.le 1000000000 := fun o ho => Oz.le_of (hs.sm.oz ho) tO
  refine Fn.enter (N := 29) Tryz.func44 rfl Tryz.ntmps44 tK rfl (fun ρ L => ?_)
  refine K.seq <| K.region <| KO.loud rfl (l_box rfl rfl) ?_
  rintro _ _ ⟨b2, rfl, rfl⟩
  refine KO.loud rfl (l_alloc zo_47) ?_
  rintro _ _ ⟨b4, rfl, rfl⟩
  refine KO.q rfl (q_assign rfl) <| KO.done <| K.seq <| K.seq <| K.region <| KO.q rfl (q_loadN ck_47 rfl rfl tC) <| KO.loud rfl (OpL.callD rfl (h := st_Right _ (by assumption) (by assumption))) ?_
  rintro _ _ ⟨_, ⟨rfl, rfl⟩, rfl⟩
  refine KO.q rfl (q_not rfl) <| KO.done ?_
  refine K.bcond (s := 11) rfl (fun g11 => ?_) (fun g11 => ?_)
  · have hr : s.st.right = false := by simpa using g11
    have hap : applyS s.st l = (⟨0, []⟩, 1) := by unfold applyS; rw [if_pos hr]
    refine K.seq <| K.region <| KO.q rfl (q_as_sz (l_ := []) (q_build st_47 rfl tF) rfl) <| KO.loudN rfl (l_storeAll ck_47 rfl rfl ⟨rfl, rfl⟩ (sz_one _) tP) ?_
    rintro _ _ ⟨rfl, rfl⟩
    refine KO.q rfl (q_assign rfl) <| KO.done ?_
    refine K.ret (fn := Tryz.f44) Tryz.func44 (fun a w hk hs => resCT Tryz.results44 hk rfl ck_47 rfl (cells_pv tM w hs) rfl) (fun w hs => ?_)
    rw [hap]
    exact ⟨_, A :: StL ⟨0, none, 0, []⟩, rfl, ⟨⟨0, none, 0, []⟩, rfl, rfl, rfl, Sz.zero_good _⟩, (nestF_nil (rowF_nilA (k := Kd.oz) (hs.fit (M := [A]) tG (by repeat (first | exact Drop.refl | apply Drop.skip))))).fitD⟩
  · have hr : ¬ s.st.right = false := by simpa using g11
    have hap : applyS s.st l = doAll s.st l := by unfold applyS; rw [if_neg hr]
    rw [hap]
    refine K.skip <| K.seq <| K.region <| KO.q rfl (q_loadN ck_47 rfl rfl tC) <| KO.loud rfl (OpL.callD rfl (h := st_CloneO s hlen hle)) ?_
    rintro _ _ ⟨_, ⟨q', c', l', rfl, rfl, hm, hlc, hcap⟩, rfl⟩
    refine KO.st (fun w h => allO_freeze (h.pick tP)) <| KO.loudN rfl (l_storeAll ck_47 rfl rfl ⟨rfl, rfl⟩ (sz_one _) tP) ?_
    rintro _ _ ⟨rfl, rfl⟩
    refine KO.done <| K.seq <| K.seq ?_
    have hst0 : Sz.st ⟨s.next, q', c', l'⟩ = s.st := by unfold Sz.st; dsimp only; rw [hm]
    refine K.region <| KO.q rfl (q_move rfl) <| KO.q rfl (q_len Tryz.underlying64 rfl) <| KO.q rfl (q_move rfl) <| KO.done <| K.block ?_
    refine K.rounds2 (ι := { x : Nat × Sz // x.1 ≤ l.length ∧ doAll s.st l = doAll x.2.st (l.drop x.1) ∧ x.2.good (n + x.1) }) (fun x => [(17, .int .i64 x.1.1), (16, .int .i64 l.length), (15, .slice qe l.length ce), (2, .pointer (some ⟨b2, 0, none⟩)), (4, .pointer (some ⟨b4, 0, none⟩))]) (fun x => StO b2 x.1.2 ++ [A, pv b4 47 [.int .i64 0, .slice none 0 0]] ++ L) (fun x => l.length - x.1.1) ⟨(0, ⟨s.next, q', c', l'⟩), Nat.zero_le _, by rw [hst0]; rfl, ⟨by rw [hst0]; exact hs.sm, hlc, hcap⟩⟩ tS (fun w h => h.fitD) (fun x ih => ?_)
    obtain ⟨⟨i, sx⟩, hi, hd, hg⟩ := x
    dsimp only at hi hd hg ⊢
    refine K.seq <| K.region <| KO.q rfl (q_lt rfl rfl) <| KO.done <| K.seq ?_
    refine K.dcond (s := 18) rfl (fun g18 => ?_) (fun g18 => ?_)
    · obtain ⟨e, he⟩ : ∃ e, l[i]? = some e := ⟨_, List.getElem?_eq_getElem tO⟩
      have hdr : l.drop i = e :: l.drop (i + 1) := by
        obtain ⟨h1, h2⟩ := List.getElem?_eq_some_iff.1 he
        rw [← h2, List.getElem_cons_drop h1]
      have hgl := Sz.len_of hg.sm
      have hgle : ∀ o ∈ sx.l, o.le 1000000000 := fun o ho => Oz.le_of (hg.sm.oz ho) tO
      have hgr : ∀ o ∈ sx.l, ∀ m ∈ o.x.msgs, -9223372036854775808 ≤ m.retry := fun o ho m hm => ((hg.sm.oz ho).1.2.2.2.2.1 m hm).2.2.1.1
      have hsm := doS_small (n := n + i) tO hg.sm e
      refine K.skip <| K.seq <| K.block <| K.seq <| K.region <| KO.q rfl (q_ix (xs := l) i se_64 rfl rfl rfl hA tM rfl tO) <| KO.q rfl (q_ldEN (xs := l) (enc := Eff.cells) ck_58 rfl hA tM he) <| KO.loud rfl (l_alloc zo_58) ?_
      rintro _ _ ⟨b7, rfl, rfl⟩
      refine KO.loudN rfl (l_storeAll ck_58 rfl rfl ⟨rfl, rfl⟩ (eff_one _) tP) ?_
      rintro _ _ ⟨rfl, rfl⟩
      refine KO.done <| K.seq <| K.region <| KO.q rfl (q_loadN ck_58 rfl rfl tC) <| KO.loud rfl (OpL.callD rfl (h := st_do b2 sx e hg.room hgl hgle hg.cap hgr)) ?_
      rintro _ _ ⟨_, ⟨s', rfl, hs1, rfl, hs2, hs3⟩, rfl⟩
      refine KO.q rfl (q_assign rfl) <| KO.done <| K.seq <| K.region <| KO.q rfl (q_move rfl) <| KO.q rfl (q_ne rfl rfl) <| KO.done ?_
      refine K.dcond (s := 24) rfl (fun g24 => ?_) (fun g24 => ?_)
      · have hfin : doAll sx.st (l.drop i) = (⟨0, []⟩, (doS sx.st e).2) := by rw [hdr]; exact doAll_stop g24
        refine K.seq <| K.region <| KO.q rfl (q_as_sz (l_ := []) (q_build st_47 rfl tF) rfl) <| KO.q rfl (q_move rfl) <| KO.loudN rfl (l_storeAll ck_47 rfl rfl ⟨rfl, rfl⟩ (sz_one _) tP) ?_
        rintro _ _ ⟨rfl, rfl⟩
        refine KO.q rfl (q_assign rfl) <| KO.done ?_
        refine K.ret (fn := Tryz.f44) Tryz.func44 (fun a w hk hs => resCT Tryz.results44 hk rfl ck_47 rfl (cells_pv tM w hs) rfl) (fun w hs => ?_)
        rw [hd, hfin]
        exact ⟨_, A :: StL ⟨0, none, 0, []⟩, rfl, ⟨⟨0, none, 0, []⟩, rfl, rfl, rfl, Sz.zero_good _⟩, (nestF_nil (rowF_nilA (k := Kd.oz) (hs.fit (M := [A]) tG (by repeat (first | exact Drop.refl | apply Drop.skip))))).fitD⟩
      · have hfin : doAll sx.st (l.drop i) = doAll s'.st (l.drop (i + 1)) := by rw [hdr, hs1]; exact doAll_step (Decidable.not_not.1 g24)
        refine K.skip <| K.inBlock <| K.region <| KO.q rfl (q_add rfl rfl tN tN) <| KO.q rfl (q_move rfl) <| KO.done ?_
        exact K.weak tS (fun w h => h.fitD) (ih ⟨(i + 1, s'), by show i + 1 ≤ _; omega, by show doAll s.st l = doAll s'.st (l.drop (i + 1)); rw [hd, hfin], ⟨by rw [hs1, show n + (i + 1) = n + i + 1 by omega]; exact hsm, hs2, hs3⟩⟩ (by show l.length - (i + 1) < l.length - i; omega))
    · obtain rfl : i = l.length := by omega
      have hfin : doAll sx.st (l.drop l.length) = (sx.st, 0) := by rw [List.drop_length]; rfl
      clear ih
      refine K.exit rfl <| K.seq <| K.region <| KO.q rfl (q_loadN ck_47 rfl rfl tC) <| KO.loudN rfl (l_storeAll ck_47 rfl rfl ⟨rfl, rfl⟩ (sz_one _) tP) ?_
      rintro _ _ ⟨rfl, rfl⟩
      refine KO.q rfl (q_assign rfl) <| KO.done ?_
      refine K.ret (fn := Tryz.f44) Tryz.func44 (fun a w hk hs => resCT Tryz.results44 hk rfl ck_47 rfl (cells_pv tM w hs) rfl) (fun w hs => ?_)
      rw [hd, hfin]
      exact ⟨_, A :: StL sx, rfl, ⟨sx, rfl, rfl, rfl, hg⟩, ((rowO_freeze (e := 62) (cap := sx.c) (k := Kd.oz) (p := sx.q) (xs := sx.l) (hs.pick tP)).fit (M := A :: StL sx) tG (by repeat (first | exact Drop.refl | apply Drop.skip)))⟩
end Go.Proofs.YtkbhldicnamcdaaGreat.L
namespace Go.Proofs.YtkbhldicnamcdaaGreat.L
open Go Go.Proofs
attribute [local irreducible] pv fv pt fz RowF RowO rowP old pure_ elA Rd.int Rd.text Rd.flag Rd.msg Rd.rint Rd.rtext Rd.rflag Rd.rmsg
set_option maxRecDepth 100000
set_option linter.unusedSimpArgs false
set_option linter.unusedVariables false
def Ob.cnt (o : Ob) : Nat := 1 + o.rows.length + o.msgs.length + o.dead.length
def Sz.cnt (s : Sz) (i : Nat) : Nat := ((s.l.take i).map (fun o => o.x.cnt)).sum
theorem cnt_succ {s : Sz} {i : Nat} {o : Oz} (h : s.l[i]? = some o) : s.cnt (i + 1) = s.cnt i + o.x.cnt := by
  unfold Sz.cnt
  rw [List.take_add_one, h]; simp
def Rw.size (r : Rw) : Nat := 20 + r.key.size + r.value.size
def Msg.wt (m : Msg) : Nat := 60 + m.corr.size + m.body.size
def Ob.size (o : Ob) : Nat := 50 + o.name.size + (o.rows.map Rw.size).sum + (o.msgs.map Msg.wt).sum + (o.dead.map Msg.wt).sum
def Stt.size (s : Stt) : Nat := 16 + (s.objs.map Ob.size).sum
theorem sum_succ {α : Type} {f : α → Nat} {l : List α} {i : Nat} {x : α} (h : l[i]? = some x) : ((l.take (i + 1)).map f).sum = ((l.take i).map f).sum + f x := by
  rw [List.take_add_one, h]; simp
theorem sum_le_mul {α : Type} {f : α → Nat} {c : Nat} : ∀ (l : List α), (∀ x ∈ l, f x ≤ c) → (l.map f).sum ≤ l.length * c
  | [], _ => by simp
  | x :: l, h => by
    have h1 := h x List.mem_cons_self
    have h2 := sum_le_mul l (fun y hy => h y (List.mem_cons_of_mem _ hy))
    simp only [List.map_cons, List.sum_cons, List.length_cons, Nat.succ_mul]
    omega
theorem sum_take_le {α : Type} {f : α → Nat} (l : List α) (i : Nat) : ((l.take i).map f).sum ≤ (l.map f).sum := by
  conv => rhs; rw [← List.take_append_drop i l]
  rw [List.map_append, List.sum_append]; omega
theorem cnt_mono (s : Sz) (i : Nat) : s.cnt i ≤ s.cnt s.l.length := by
  unfold Sz.cnt
  rw [List.take_length]
  exact sum_take_le _ _
end Go.Proofs.YtkbhldicnamcdaaGreat.L
namespace Go.Proofs.YtkbhldicnamcdaaGreat.L
open Go Go.Proofs
attribute [local irreducible] pv fv pt fz RowF RowO rowP old pure_ elA Rd.int Rd.text Rd.flag Rd.msg Rd.rint Rd.rtext Rd.rflag Rd.rmsg
set_option maxRecDepth 100000
set_option linter.unusedSimpArgs false
set_option linter.unusedVariables false
theorem pv_effs {ρ : World} {L : List HP} {w : World} {b t : Nat} {cs : List Value} (xs : List Eff) (hcs : cs = xs.flatMap Eff.cells) (h : St ρ (pv b t cs :: L) w) : St ρ (RowF Kd.eff (some ⟨b, 0, none⟩) xs :: L) w := pv_flat xs hcs h
set_option maxHeartbeats 1600000 in
theorem st_Claims (s : Sz) (n : Nat) (hs : s.good n) (hn : (claimsS s.st).length ≤ 100000000) (hn2 : n ≤ 100000000) : Fn Tryz.prog 43 [.agg s.cells.toArray].toArray (StL s) (fun r post => ∃ po co, r = .slice po (claimsS s.st).length co ∧ post = [RowO Kd.eff 58 po co (claimsS s.st)]) := by
  have hlen := Sz.len_of hs.sm
  have hcl : claimsS s.st = s.l.flatMap (fun o => claimsO o.x) := by
    show (s.l.map (·.x)).flatMap claimsO = _
    rw [List.flatMap_map]
  rw [hcl] at hn
  refine Fn.enter (N := 35) Tryz.func43 rfl Tryz.ntmps43 tK rfl (fun ρ L => ?_)
  refine K.seq <| K.region <| KO.loud rfl (l_box rfl rfl) ?_
  rintro _ _ ⟨b1, rfl, rfl⟩
  refine KO.q rfl (q_assign rfl) <| KO.done <| K.seq <| K.region <| KO.q rfl (q_assign rfl) <| KO.done <| K.seq <| K.seq <| K.region <| KO.q rfl (q_field fo_47_1 rfl) <| KO.q rfl (q_load1D ck_45 rfl) ?_
  refine KO.q rfl (q_len Tryz.underlying45 rfl) <| KO.q rfl (q_move rfl) <| KO.done <| K.block ?_
  refine K.rounds2 (ι := { x : Nat × Option Addr × Nat // x.1 ≤ s.l.length }) (fun x => [(11, .int .i64 x.1.1), (10, .int .i64 s.l.length), (9, .slice s.q s.l.length s.c), (3, .slice x.1.2.1 ((s.l.take x.1.1).flatMap (fun o => claimsO o.x)).length x.1.2.2)]) (fun x => RowO Kd.eff 58 x.1.2.1 x.1.2.2 ((s.l.take x.1.1).flatMap (fun o => claimsO o.x)) :: StL s ++ L) (fun x => s.l.length - x.1.1) ⟨(0, none, 0), Nat.zero_le _⟩ tS (fun w h => rowO_nil (k := Kd.eff) 58 (h.fit (M := StL s) tG (by repeat (first | exact Drop.refl | apply Drop.skip)))) (fun x ih => ?_)
  obtain ⟨⟨i, po, co⟩, hi⟩ := x
  dsimp only at hi ⊢
  have hol := flatMap_take_le (fun o : Oz => claimsO o.x) s.l i
  obtain ⟨A, hA⟩ : ∃ A, A = (s.l.take i).flatMap (fun o => claimsO o.x) := ⟨_, rfl⟩
  rw [← hA] at hol ⊢
  refine K.seq <| K.region <| KO.q rfl (q_lt rfl rfl) <| KO.done <| K.seq ?_
  refine K.dcond (s := 12) rfl (fun g12 => ?_) (fun g12 => ?_)
  · obtain ⟨o, ho⟩ : ∃ o, s.l[i]? = some o := ⟨_, List.getElem?_eq_getElem tO⟩
    have hmo := List.mem_of_getElem? ho
    have hos := flatMap_take_succ (fun o : Oz => claimsO o.x) ho
    rw [← hA] at hos
    have hol2 := flatMap_take_le (fun o : Oz => claimsO o.x) s.l (i + 1)
    have hom := (hs.sm.oz hmo).2.2.1
    refine K.st (fun w h => nestF_at (l := s.l) tM hmo h) <| K.skip <| K.seq <| K.block <| K.seq <| K.region ?_
    first | refine KO.q rfl (q_ix _ se_45 rfl rfl rfl isF tM rfl tL) ?_ | refine KO.q rfl (q_ix _ se_45 rfl rfl rfl isO tM rfl tL) ?_
    first | refine KO.q rfl (q_ldEN ck_62 rfl isF tM tE) ?_ | refine KO.q rfl (q_ldEN ck_62 rfl isO tM tE) ?_
    refine KO.loud rfl (l_alloc zo_62) ?_
    rintro _ _ ⟨b5, rfl, rfl⟩
    refine KO.loudN rfl (l_storeAll ck_62 rfl rfl ⟨rfl, rfl⟩ (oz_one _) tP) ?_
    rintro _ _ ⟨rfl, rfl⟩
    refine KO.done <| K.seq <| K.region <| KO.q rfl (q_field fo_62_4 rfl) <| KO.q rfl (q_load1D ck_60 rfl) <| KO.q rfl (q_len Tryz.underlying60 rfl) <| KO.q rfl (q_move rfl) <| KO.done <| K.block ?_
    refine K.rounds2 (ι := { x : Nat × Option Addr × Nat // x.1 ≤ o.x.msgs.length }) (fun x => [(18, .int .i64 x.1.1), (17, .int .i64 o.x.msgs.length), (16, .slice o.z.q2 o.x.msgs.length o.z.c2), (3, .slice x.1.2.1 (A ++ claimsO { o.x with msgs := o.x.msgs.take x.1.1 }).length x.1.2.2), (5, .pointer (some ⟨b5, 0, none⟩)), (11, .int .i64 i), (10, .int .i64 s.l.length), (9, .slice s.q s.l.length s.c)]) (fun x => RowO Kd.eff 58 x.1.2.1 x.1.2.2 (A ++ claimsO { o.x with msgs := o.x.msgs.take x.1.1 }) :: RowF Kd.msg o.z.q2 o.x.msgs :: pv b5 62 o.cells :: StL s ++ L) (fun x => o.x.msgs.length - x.1.1) ⟨(0, po, co), Nat.zero_le _⟩ (by rw [show A ++ claimsO { o.x with msgs := o.x.msgs.take 0 } = A from List.append_nil _]; exact tS) (fun w h => by rw [show A ++ claimsO { o.x with msgs := o.x.msgs.take 0 } = A from List.append_nil _]; exact h.fitD) (fun x ih2 => ?_)
    obtain ⟨⟨j, px, cx⟩, hj⟩ := x
    dsimp only at hj ⊢
    obtain ⟨B, hB⟩ : ∃ B, B = A ++ claimsO { o.x with msgs := o.x.msgs.take j } := ⟨_, rfl⟩
    have hcj : (claimsO { o.x with msgs := o.x.msgs.take j }).length ≤ n := by
      unfold claimsO
      rw [List.length_map]
      refine Nat.le_trans (List.length_filter_le _ _) ?_
      show (o.x.msgs.take j).length ≤ n
      rw [List.length_take]; omega
    have hBl : B.length ≤ 1000000000 := by rw [hB, List.length_append]; omega
    rw [← hB]
    refine K.seq <| K.region <| KO.q rfl (q_lt rfl rfl) <| KO.done <| K.seq ?_
    refine K.dcond (s := 19) rfl (fun g19 => ?_) (fun g19 => ?_)
    · obtain ⟨m, hm⟩ : ∃ m, o.x.msgs[j]? = some m := ⟨_, List.getElem?_eq_getElem tO⟩
      have hcs : claimsO { o.x with msgs := o.x.msgs.take (j + 1) } = claimsO { o.x with msgs := o.x.msgs.take j } ++ (if m.claimed = true then [⟨7, o.x.name, ⟨#[]⟩, ⟨#[]⟩, m.id, 0, true, ⟨0, 0, 0, false, ⟨#[]⟩, ⟨#[]⟩⟩⟩] else []) := by
        unfold claimsO
        show ((o.x.msgs.take (j + 1)).filter _).map _ = ((o.x.msgs.take j).filter _).map _ ++ _
        rw [filter_take_succ (fun m : Msg => m.claimed) hm, List.map_append]
        cases hmc : m.claimed <;> simp [hmc]
      refine K.skip <| K.seq <| K.block <| K.seq <| K.region ?_
      first | refine KO.q rfl (q_ix _ se_60 rfl rfl rfl isF tM rfl tL) ?_ | refine KO.q rfl (q_ix _ se_60 rfl rfl rfl isO tM rfl tL) ?_
      first | refine KO.q rfl (q_ldEN ck_56 rfl isF tM tE) ?_ | refine KO.q rfl (q_ldEN ck_56 rfl isO tM tE) ?_
      refine KO.loud rfl (l_alloc zo_56) ?_
      rintro _ _ ⟨b7, rfl, rfl⟩
      refine KO.loudN rfl (l_storeAll ck_56 rfl rfl ⟨rfl, rfl⟩ (msg_one _) tP) ?_
      rintro _ _ ⟨rfl, rfl⟩
      refine KO.done <| K.seq <| K.region <| KO.q rfl (q_field fo_56_3 rfl) <| KO.q rfl (q_load1D ck_4 rfl) <| KO.done ?_
      first | refine K.dcond (s := 23) rfl (fun g23 => ?_) (fun g23 => ?_) | refine K.bcond (s := 23) rfl (fun g23 => ?_) (fun g23 => ?_)
      · have hmc : m.claimed = true := by simpa using g23
        have hz : A ++ claimsO { o.x with msgs := o.x.msgs.take (j + 1) } = B ++ [⟨7, o.x.name, ⟨#[]⟩, ⟨#[]⟩, m.id, 0, true, ⟨0, 0, 0, false, ⟨#[]⟩, ⟨#[]⟩⟩⟩] := by rw [hcs, if_pos hmc, ← List.append_assoc, ← hB]
        refine K.region <| KO.q rfl (q_move rfl) <| KO.q rfl (q_field fo_62_0 rfl) <| KO.q rfl (q_load1D ck_9 rfl) <| KO.q rfl (q_field fo_56_0 rfl) <| KO.q rfl (q_load1D ck_3 rfl) <| KO.q rfl (q_as_eff (q_build st_58 rfl tF) (by rfl)) <| KO.loud rfl (l_slice1 sz_64_1 rfl rfl ⟨rfl, rfl, rfl⟩) ?_
        rintro _ _ ⟨b30, rfl, rfl⟩
        refine KO.loud rfl (l_append Kd.eff (ys := [⟨7, o.x.name, ⟨#[]⟩, ⟨#[]⟩, m.id, 0, true, ⟨0, 0, 0, false, ⟨#[]⟩, ⟨#[]⟩⟩⟩]) se_64 Tryz.underlying64 ⟨_, ze_58, rfl⟩ tD rfl rfl tP isP tM rfl rfl (by show (2 * (B.length + 1) + 768) * _ ≤ _; omega)) ?_
        rintro _ _ ⟨pn, dn, rfl, rfl⟩
        refine KO.q rfl (q_assign rfl) <| KO.done <| K.inBlock <| K.region <| KO.q rfl (q_add rfl rfl tN tN) <| KO.q rfl (q_move rfl) <| KO.done ?_
        exact K.weak (E' := [(18, .int .i64 ((j + 1 : Nat) : Int)), (17, .int .i64 o.x.msgs.length), (16, .slice o.z.q2 o.x.msgs.length o.z.c2), (3, .slice pn (A ++ claimsO { o.x with msgs := o.x.msgs.take (j + 1) }).length dn), (5, .pointer (some ⟨b5, 0, none⟩)), (11, .int .i64 i), (10, .int .i64 s.l.length), (9, .slice s.q s.l.length s.c)]) (by rw [hz]; exact tS) (fun w h => by rw [hz]; exact h.fitD) (ih2 ⟨(j + 1, pn, dn), by show j + 1 ≤ _; omega⟩ (by show o.x.msgs.length - (j + 1) < o.x.msgs.length - j; omega))
      · have hmc : ¬ m.claimed = true := by simpa using g23
        have hz : A ++ claimsO { o.x with msgs := o.x.msgs.take (j + 1) } = B := by rw [hcs, if_neg hmc, List.append_nil, ← hB]
        refine K.skip <| K.inBlock <| K.region <| KO.q rfl (q_add rfl rfl tN tN) <| KO.q rfl (q_move rfl) <| KO.done ?_
        exact K.weak (E' := [(18, .int .i64 ((j + 1 : Nat) : Int)), (17, .int .i64 o.x.msgs.length), (16, .slice o.z.q2 o.x.msgs.length o.z.c2), (3, .slice px (A ++ claimsO { o.x with msgs := o.x.msgs.take (j + 1) }).length cx), (5, .pointer (some ⟨b5, 0, none⟩)), (11, .int .i64 i), (10, .int .i64 s.l.length), (9, .slice s.q s.l.length s.c)]) (by rw [hz]; exact tS) (fun w h => by rw [hz]; exact h.fitD) (ih2 ⟨(j + 1, px, cx), by show j + 1 ≤ _; omega⟩ (by show o.x.msgs.length - (j + 1) < o.x.msgs.length - j; omega))
    · obtain rfl : j = o.x.msgs.length := by omega
      have hBA : (s.l.take (i + 1)).flatMap (fun o => claimsO o.x) = B := by rw [hos, hB, List.take_length]
      clear ih2
      refine K.exit rfl <| K.inBlock <| K.region <| KO.q rfl (q_add rfl rfl tN tN) <| KO.q rfl (q_move rfl) <| KO.done ?_
      exact K.weak (E' := [(11, .int .i64 ((i + 1 : Nat) : Int)), (10, .int .i64 s.l.length), (9, .slice s.q s.l.length s.c), (3, .slice px ((s.l.take (i + 1)).flatMap (fun o => claimsO o.x)).length cx)]) (by rw [hBA]; exact tS) (fun w h => by rw [hBA]; exact h.fitD) (ih ⟨(i + 1, px, cx), by show i + 1 ≤ _; omega⟩ (by show s.l.length - (i + 1) < s.l.length - i; omega))
  · obtain rfl : i = s.l.length := by omega
    rw [List.take_length] at hA
    have hfin : claimsS s.st = A := by rw [hcl, hA]
    clear ih
    refine K.exit rfl <| K.seq <| K.region <| KO.q rfl (q_move rfl) <| KO.q rfl (q_assign rfl) <| KO.done ?_
    refine kr1 Tryz.func43 Tryz.results43 rfl (fun w hs => ?_)
    rw [hfin]
    exact ⟨_, [RowO Kd.eff 58 po co A], rfl, ⟨po, co, rfl, rfl⟩, hs.fitD⟩
end Go.Proofs.YtkbhldicnamcdaaGreat.L
namespace Go.Proofs.YtkbhldicnamcdaaGreat.L
open Go
def RdM (α : Type) := Rd → α × Rd
def RdM.bind {α β : Type} (r : RdM α) (k : α → RdM β) : RdM β := fun s => k (r s).1 (r s).2
def RdM.ret {α : Type} (a : α) : RdM α := fun s => (a, s)
def Sticky {α : Type} (r : RdM α) : Prop := ∀ s : Rd, s.f = true → (r s).2.f = true
def PreOK {α : Type} (r : RdM α) : Prop := Sticky r ∧ ∀ s t, Pre s t → (r t).2.f = false → Pre (r s).2 (r t).2 ∧ ((r s).2.f = true ∨ (r s).1 = (r t).1)
def AlikeOK {α : Type} (r r' : RdM α) : Prop := ∀ s t, Alike s t → Alike (r s).2 (r' t).2 ∧ (r s).1 = (r' t).1
theorem PreOK.ret {α : Type} (a : α) : PreOK (RdM.ret a) := ⟨fun _ h => h, fun _ _ h _ => ⟨h, .inr rfl⟩⟩
theorem PreOK.bind {α β : Type} {r : RdM α} {k : α → RdM β} (h : PreOK r) (hk : ∀ a, PreOK (k a)) : PreOK (RdM.bind r k) := by
  refine ⟨fun s hs => (hk _).1 _ (h.1 s hs), fun s t hp ht => ?_⟩
  have ht : (k (r t).1 (r t).2).2.f = false := ht
  have h1 : (r t).2.f = false := by
    cases hf : (r t).2.f with
    | false => rfl
    | true => rw [(hk _).1 _ hf] at ht; cases ht
  obtain ⟨p1, p2⟩ := h.2 s t hp h1
  show Pre (k (r s).1 (r s).2).2 (k (r t).1 (r t).2).2 ∧ _
  rcases p2 with hf | he
  · have : (k (r s).1 (r s).2).2.f = true := (hk _).1 _ hf
    exact ⟨.inl this, .inl this⟩
  · have := (hk (r t).1).2 _ _ p1 ht
    rw [← he] at this
    refine ⟨by rw [← he]; exact this.1, ?_⟩
    rcases this.2 with h | h
    · exact .inl h
    · exact .inr (by show (k (r s).1 (r s).2).1 = (k (r t).1 (r t).2).1; rw [← he]; exact h)
theorem AlikeOK.ret {α : Type} (a : α) : AlikeOK (RdM.ret a) (RdM.ret a) := fun _ _ h => ⟨h, rfl⟩
theorem AlikeOK.bind {α β : Type} {r r' : RdM α} {k k' : α → RdM β} (h : AlikeOK r r') (hk : ∀ a, AlikeOK (k a) (k' a)) : AlikeOK (RdM.bind r k) (RdM.bind r' k') := fun s t ha => by
  obtain ⟨h1, h2⟩ := h s t ha
  have := hk (r s).1 _ _ h1
  rw [h2] at this
  show Alike (k (r s).1 (r s).2).2 (k' (r' t).1 (r' t).2).2 ∧ (k (r s).1 (r s).2).1 = (k' (r' t).1 (r' t).2).1
  rw [h2]
  exact this
theorem pre_int : PreOK (Rd.int : RdM Int) := ⟨fun s h => by rw [Rd.int_f h]; exact h, fun _ _ h ht => h.int ht⟩
theorem pre_text : PreOK (Rd.text : RdM ByteArray) := ⟨fun s h => by rw [Rd.text_f h]; exact h, fun _ _ h ht => h.text ht⟩
theorem pre_flag : PreOK (Rd.flag : RdM Bool) := ⟨fun s h => by rw [Rd.flag_f h]; exact h, fun _ _ h ht => h.flag ht⟩
theorem pre_msgT : PreOK (Rd.msgT : RdM Msg) := by
  have e : (Rd.msgT : RdM Msg) = RdM.bind (Rd.int : RdM Int) fun a => RdM.bind (Rd.int : RdM Int) fun b => RdM.bind (Rd.int : RdM Int) fun c => RdM.bind (Rd.flag : RdM Bool) fun d => RdM.bind (Rd.text : RdM ByteArray) fun e => RdM.bind (Rd.text : RdM ByteArray) fun f => RdM.ret ⟨a, b, c, d, e, f⟩ := rfl
  rw [e]
  exact pre_int.bind fun _ => pre_int.bind fun _ => pre_int.bind fun _ => pre_flag.bind fun _ => pre_text.bind fun _ => pre_text.bind fun _ => .ret _
theorem Rd.msg_snd (s : Rd) : s.msg.2 = s.msgT.2 := by unfold Rd.msg; split <;> rfl
theorem pre_msg : PreOK (Rd.msg : RdM Msg) := by
  refine ⟨fun s h => by rw [Rd.msg_snd]; exact pre_msgT.1 s h, fun s t hp ht => ?_⟩
  rw [Rd.msg_snd] at ht
  have := pre_msgT.2 s t hp ht
  rw [Rd.msg_snd, Rd.msg_snd]
  refine ⟨this.1, ?_⟩
  cases hf : s.msgT.2.f with
  | true => exact .inl rfl
  | false =>
    refine .inr ?_
    have h2 := this.2.resolve_left (by rw [hf]; simp)
    unfold Rd.msg
    rw [if_neg (by rw [hf]; simp), if_neg (by rw [ht]; simp)]
    exact h2
def Rd.eff (s : Rd) : Eff × Rd :=
  let a := s.int; let b := a.2.text; let c := b.2.text; let d := c.2.text; let e := d.2.int; let f := e.2.int; let g := f.2.flag; let h := g.2.msg
  (⟨a.1, b.1, c.1, d.1, e.1, f.1, g.1, h.1⟩, h.2)
theorem eff_is : (Rd.eff : RdM Eff) = RdM.bind (Rd.int : RdM Int) fun a => RdM.bind (Rd.text : RdM ByteArray) fun b => RdM.bind (Rd.text : RdM ByteArray) fun c => RdM.bind (Rd.text : RdM ByteArray) fun d => RdM.bind (Rd.int : RdM Int) fun e => RdM.bind (Rd.int : RdM Int) fun f => RdM.bind (Rd.flag : RdM Bool) fun g => RdM.bind (Rd.msg : RdM Msg) fun h => RdM.ret ⟨a, b, c, d, e, f, g, h⟩ := rfl
def Rd.effs : Nat → Rd → Option (List Eff) × Rd
  | 0, s => (some [], s)
  | n + 1, s => if s.eff.2.f || !s.eff.1.right then (none, s.eff.2) else ((Rd.effs n s.eff.2).1.map (s.eff.1 :: ·), (Rd.effs n s.eff.2).2)
attribute [local irreducible] Rd.eff
theorem effs_zero (s : Rd) : Rd.effs 0 s = (some [], s) := rfl
theorem effs_succ (n : Nat) (s : Rd) : Rd.effs (n + 1) s = if s.eff.2.f || !s.eff.1.right then (none, s.eff.2) else ((Rd.effs n s.eff.2).1.map (s.eff.1 :: ·), (Rd.effs n s.eff.2).2) := rfl
def effRead (b : List UInt8) : Option (List Eff) :=
  let a := Rd.int ⟨b, false⟩
  if a.2.f = true ∨ a.1 < 0 ∨ 10000 < a.1 then none else
  match (Rd.effs a.1.toNat a.2).1 with
  | none => none
  | some l => if (Rd.effs a.1.toNat a.2).2.done then some l else none
def tcut (s : ByteArray) : ByteArray := ⟨((bytesOf s).take 65535).toArray⟩
theorem tcut_size (s : ByteArray) : (tcut s).size = min s.size 65535 := by
  show ((bytesOf s).take 65535).toArray.size = _
  rw [List.size_toArray, List.length_take, bytesOf_length, Nat.min_comm]
theorem tcut_eq {s : ByteArray} (h : s.size ≤ 65535) : tcut s = s := by
  unfold tcut
  rw [List.take_of_length_le (by rw [bytesOf_length]; exact h), bytesOf_mk]
def Msg.tcut (m : Msg) : Msg := { m with corr := L.tcut m.corr, body := L.tcut m.body }
def Eff.tcut (e : Eff) : Eff := { e with object := L.tcut e.object, key := L.tcut e.key, value := L.tcut e.value, msg := e.msg.tcut }
def Eff.bytes (e : Eff) : List UInt8 := wInt e.kind ++ wText e.object ++ wText e.key ++ wText e.value ++ wInt e.n ++ wInt e.limit ++ wFlag e.tried ++ e.msg.bytes
def effsBytes (l : List Eff) : List UInt8 := wInt l.length ++ l.flatMap Eff.bytes
theorem Rd.text_appC (s : ByteArray) (r : List UInt8) : Rd.text ⟨wText s ++ r, false⟩ = (tcut s, ⟨r, false⟩) := Rd.text_app s r
theorem Rd.msg_appC (m : Msg) (hf : m.fits) (r : List UInt8) : Rd.msg ⟨m.bytes ++ r, false⟩ = (m.tcut, ⟨r, false⟩) := by
  obtain ⟨h1, h2, h3, _⟩ := hf
  have e : m.bytes ++ r = wInt m.id ++ (wInt m.pri ++ (wInt m.retry ++ (wFlag m.claimed ++ (wText m.corr ++ (wText m.body ++ r))))) := by simp [Msg.bytes]
  have hT : Rd.msgT ⟨m.bytes ++ r, false⟩ = (m.tcut, ⟨r, false⟩) := by
    unfold Rd.msgT
    rw [e]
    simp only [Rd.int_app h1.1 h1.2, Rd.int_app h2.1 h2.2, Rd.int_app h3.1 h3.2, Rd.flag_app, Rd.text_appC]
    rfl
  unfold Rd.msg
  rw [hT, if_neg (by simp)]
theorem Rd.eff_app (e : Eff) (hf : e.fits) (r : List UInt8) : Rd.eff ⟨e.bytes ++ r, false⟩ = (e.tcut, ⟨r, false⟩) := by
  obtain ⟨h1, _, _, _, h2, h3, _, h4⟩ := hf
  have q : e.bytes ++ r = wInt e.kind ++ (wText e.object ++ (wText e.key ++ (wText e.value ++ (wInt e.n ++ (wInt e.limit ++ (wFlag e.tried ++ (e.msg.bytes ++ r))))))) := by simp [Eff.bytes]
  unfold Rd.eff
  rw [q]
  simp only [Rd.int_app h1.1 h1.2, Rd.int_app h2.1 h2.2, Rd.int_app h3.1 h3.2, Rd.flag_app, Rd.text_appC, Rd.msg_appC _ h4]
  rfl
theorem effName_size {s : ByteArray} (h : effName s = true) : s.size ≤ 16 := by simp [effName] at h; omega
theorem rwKey_size {s : ByteArray} (h : rwKey s = true) : s.size ≤ 40 := by simp [rwKey] at h; omega
theorem right_small {e : Eff} (h : e.right = true) : e.object.size ≤ 100 ∧ e.key.size ≤ 100 ∧ e.value.size ≤ 100 ∧ e.msg.corr.size ≤ 100 ∧ e.msg.body.size ≤ 100 := by
  unfold Eff.right at h
  simp only [Bool.and_eq_true, decide_eq_true_iff] at h
  obtain ⟨hn, hk⟩ := h
  have s1 : ∀ {a b : Bool}, (a && b) = true → a = true := fun h => ((Bool.and_eq_true _ _).mp h).1
  have s2 : ∀ {a b : Bool}, (a && b) = true → b = true := fun h => ((Bool.and_eq_true _ _).mp h).2
  unfold Eff.rightK at hk
  unfold Eff.named at hn
  dsimp only at hn
  have ho : ∀ {b : Bool}, (effName e.object && b) = true → e.object.size ≤ 100 := fun h => by have := effName_size (s1 h); omega
  split at hk
  · rename_i k
    rw [if_pos k] at hn
    rw [eff_ext] at hn
    obtain ⟨_, _, h3, h4, _, _, _, h8⟩ := hn
    have h8 : e.msg = ⟨0, 0, 0, false, ⟨#[]⟩, ⟨#[]⟩⟩ := h8
    have h3 : e.key = ⟨#[]⟩ := h3
    have h4 : e.value = ⟨#[]⟩ := h4
    rw [h3, h4, h8]
    exact ⟨ho hk, by decide, by decide, by decide, by decide⟩
  · rename_i k1
    rw [if_neg k1] at hn
    split at hk
    · rename_i k
      rw [if_pos k] at hn
      rw [eff_ext] at hn
      obtain ⟨_, _, h3, h4, _, _, _, h8⟩ := hn
      have h8 : e.msg = ⟨0, 0, 0, false, ⟨#[]⟩, ⟨#[]⟩⟩ := h8
      rw [h8]
      have hr := s2 hk
      unfold Rw.right at hr
      have a1 := rwKey_size (s1 hr)
      have a2 := s2 hr
      simp at a2 a1
      exact ⟨ho hk, by omega, by omega, by decide, by decide⟩
    · rename_i k2
      rw [if_neg k2] at hn
      split at hk
      · rename_i k
        rw [if_pos k] at hn
        rw [eff_ext] at hn
        obtain ⟨_, _, h3, h4, _, _, _, h8⟩ := hn
        have h8 : e.msg = ⟨0, 0, 0, false, ⟨#[]⟩, ⟨#[]⟩⟩ := h8
        have h4 : e.value = ⟨#[]⟩ := h4
        rw [h8, h4]
        have a1 := rwKey_size (s2 hk)
        exact ⟨ho hk, by omega, by decide, by decide, by decide⟩
      · rename_i k3
        rw [if_neg k3] at hn
        split at hk
        · rename_i k
          rw [if_pos k] at hn
          rw [eff_ext] at hn
          obtain ⟨_, _, h3, h4, _, _, _, h8⟩ := hn
          have h3 : e.key = ⟨#[]⟩ := h3
          have h4 : e.value = ⟨#[]⟩ := h4
          rw [h3, h4]
          have hm := s2 hk
          simp [Msg.right] at hm
          exact ⟨ho hk, by decide, by decide, by omega, by omega⟩
        · rename_i k4
          rw [if_neg k4] at hn
          have rest : ∀ {o : ByteArray} {n l : Int} {t : Bool}, e = ⟨e.kind, o, ⟨#[]⟩, ⟨#[]⟩, n, l, t, ⟨0, 0, 0, false, ⟨#[]⟩, ⟨#[]⟩⟩⟩ → o.size ≤ 100 → e.object.size ≤ 100 ∧ e.key.size ≤ 100 ∧ e.value.size ≤ 100 ∧ e.msg.corr.size ≤ 100 ∧ e.msg.body.size ≤ 100 := fun {o n l t} h h1 => by
            rw [eff_ext] at h
            obtain ⟨_, h2, h3, h4, _, _, _, h8⟩ := h
            have h2 : e.object = o := h2
            have h3 : e.key = ⟨#[]⟩ := h3
            have h4 : e.value = ⟨#[]⟩ := h4
            have h8 : e.msg = ⟨0, 0, 0, false, ⟨#[]⟩, ⟨#[]⟩⟩ := h8
            rw [h2, h3, h4, h8]
            exact ⟨h1, by decide, by decide, by decide, by decide⟩
          split at hk
          · rename_i k
            by_cases k56 : e.kind = 5 ∨ e.kind = 6
            · rw [if_pos k56] at hn; exact rest hn (ho hk)
            · rw [if_neg k56, if_pos tO] at hn; exact rest hn (ho hk)
          · rename_i k5
            split at hk
            · rename_i k
              rw [if_neg tO, if_neg tO, if_pos k] at hn
              exact rest hn tD
            · cases hk
theorem Eff.tcut_eq {e : Eff} (h : e.object.size ≤ 65535 ∧ e.key.size ≤ 65535 ∧ e.value.size ≤ 65535 ∧ e.msg.corr.size ≤ 65535 ∧ e.msg.body.size ≤ 65535) : e.tcut = e := by
  obtain ⟨h1, h2, h3, h4, h5⟩ := h
  rw [eff_ext]
  exact ⟨rfl, L.tcut_eq h1, L.tcut_eq h2, L.tcut_eq h3, rfl, rfl, rfl, by rw [msg_ext]; exact ⟨rfl, rfl, rfl, rfl, L.tcut_eq h4, L.tcut_eq h5⟩⟩
theorem Eff.tcut_right (e : Eff) : e.tcut.right = e.right := by
  have key : e.tcut.right = true → e.tcut = e := fun h => by
    obtain ⟨h1, h2, h3, h4, h5⟩ := right_small h
    have h1 : (L.tcut e.object).size ≤ 100 := h1
    have h2 : (L.tcut e.key).size ≤ 100 := h2
    have h3 : (L.tcut e.value).size ≤ 100 := h3
    have h4 : (L.tcut e.msg.corr).size ≤ 100 := h4
    have h5 : (L.tcut e.msg.body).size ≤ 100 := h5
    rw [tcut_size] at h1 h2 h3 h4 h5
    exact Eff.tcut_eq ⟨by omega, by omega, by omega, by omega, by omega⟩
  cases h : e.tcut.right with
  | true => rw [← key h, h]
  | false =>
    cases h2 : e.right with
    | false => rfl
    | true =>
      obtain ⟨h1, h3, h4, h5, h6⟩ := right_small h2
      rw [Eff.tcut_eq ⟨by omega, by omega, by omega, by omega, by omega⟩, h2] at h
      cases h
theorem effs_app : ∀ (l : List Eff) (r : List UInt8), (∀ e ∈ l, e.fits) → (l.all Eff.right = true → Rd.effs l.length ⟨l.flatMap Eff.bytes ++ r, false⟩ = (some l, ⟨r, false⟩)) ∧ (l.all Eff.right = false → (Rd.effs l.length ⟨l.flatMap Eff.bytes ++ r, false⟩).1 = none)
  | [], r, _ => ⟨fun _ => rfl, fun h => by cases h⟩
  | e :: l, r, hf => by
    have ih := effs_app l r (fun x hx => hf x (List.mem_cons_of_mem _ hx))
    have he := Rd.eff_app e (hf e List.mem_cons_self) (l.flatMap Eff.bytes ++ r)
    have q : (e :: l).flatMap Eff.bytes ++ r = e.bytes ++ (l.flatMap Eff.bytes ++ r) := by simp
    rw [q, List.length_cons, effs_succ, he]
    dsimp only
    rw [Eff.tcut_right, List.all_cons]
    cases hr : e.right with
    | false => exact ⟨fun h => by simp at h, fun _ => by simp⟩
    | true =>
      obtain ⟨h1, h3, h4, h5, h6⟩ := right_small hr
      rw [Eff.tcut_eq ⟨by omega, by omega, by omega, by omega, by omega⟩]
      refine ⟨fun h => ?_, fun h => ?_⟩
      · have := ih.1 (by simpa using h)
        simp [this]
      · have := ih.2 (by simpa using h)
        simp [this]
theorem effRead_of {b : List UInt8} {n : Int} {s : Rd} (h : Rd.int ⟨b, false⟩ = (n, s)) : effRead b = if s.f = true ∨ n < 0 ∨ 10000 < n then none else match (Rd.effs n.toNat s).1 with | none => none | some l => if (Rd.effs n.toNat s).2.done then some l else none := by
  unfold effRead
  simp only [h]
theorem effRead_bytes (l : List Eff) (r : List UInt8) (hl : l.length ≤ 10000) (hf : ∀ e ∈ l, e.fits) : effRead (effsBytes l ++ r) = if l.all Eff.right = true ∧ r = [] then some l else none := by
  have hi : Rd.int ⟨effsBytes l ++ r, false⟩ = ((l.length : Int), ⟨l.flatMap Eff.bytes ++ r, false⟩) := by
    unfold effsBytes
    rw [List.append_assoc]
    exact Rd.int_app tO tO _
  rw [effRead_of hi]
  have hc : ¬ ((Rd.mk (l.flatMap Eff.bytes ++ r) false).f = true ∨ (l.length : Int) < 0 ∨ 10000 < (l.length : Int)) := by
    rintro (h | h | h)
    · cases h
    · omega
    · omega
  rw [if_neg hc, Int.toNat_natCast]
  obtain ⟨h1, h2⟩ := effs_app l r hf
  cases ha : l.all Eff.right with
  | false => rw [h2 ha]; simp
  | true =>
    rw [h1 ha]
    cases r with
    | nil => simp [Rd.done]
    | cons c r => simp [Rd.done]
theorem effsBytes_length (l : List Eff) : (effsBytes l).length ≤ 8 + l.length * 400000 := by
  have key : ∀ l : List Eff, (l.flatMap Eff.bytes).length ≤ l.length * 400000 := fun l => by
    induction l with
    | nil => simp
    | cons e l ih =>
      have : e.bytes.length ≤ 400000 := by
        have := e.msg.bytes_length
        unfold Eff.bytes
        simp only [List.length_append, wInt_length, wFlag_length, wText_length]
        omega
      simp only [List.flatMap_cons, List.length_append, List.length_cons]
      omega
  have := key l
  unfold effsBytes
  rw [List.length_append, wInt_length]
  omega
end Go.Proofs.YtkbhldicnamcdaaGreat.L
namespace Go.Proofs.YtkbhldicnamcdaaGreat.L
open Go Go.Proofs
attribute [local irreducible] pv fv pt fz RowF RowO rowP old pure_ elA
set_option maxRecDepth 100000
set_option linter.unusedSimpArgs false
set_option linter.unusedVariables false
def effPre (l : List Eff) (i : Nat) : List UInt8 := wInt l.length ++ (l.take i).flatMap Eff.bytes
theorem effPre_zero (l : List Eff) : [] ++ wInt l.length = effPre l 0 := by simp [effPre]
theorem effPre_succ {l : List Eff} {i : Nat} {e : Eff} (h : l[i]? = some e) : effPre l (i + 1) = effPre l i ++ wInt e.kind ++ wText e.object ++ wText e.key ++ wText e.value ++ wInt e.n ++ wInt e.limit ++ wFlag e.tried ++ e.msg.bytes := by
  unfold effPre
  rw [List.take_add_one, h]
  simp [Eff.bytes]
theorem effPre_all (l : List Eff) : effPre l l.length = effsBytes l := by simp [effPre, effsBytes]
theorem effPre_len (l : List Eff) (i : Nat) (hi : i ≤ l.length) : (effPre l i).length ≤ 8 + i * 400000 := by
  have h := effsBytes_length (l.take i)
  have e : (effPre l i).length = (effsBytes (l.take i)).length := by simp [effPre, effsBytes, wInt_length]
  rw [List.length_take, Nat.min_eq_left hi] at h
  omega
set_option maxHeartbeats 800000 in
theorem eff_Bytes (q : Option Addr) (cap : Nat) (l : List Eff) (hl : l.length ≤ 100000) : Fn Tryz.prog 56 [.slice q l.length cap].toArray [RowF Kd.eff q l]
    (fun r post => ∃ q' cap', r = .slice q' (effsBytes l).length cap' ∧ post = [RowF Kd.u8 q' (effsBytes l)] ∧ (effsBytes l).length ≤ cap') := by
  refine Fn.enter (N := 53) Tryz.func56 rfl Tryz.ntmps56 tK rfl (fun ρ L => ?_)
  refine K.seq <| K.region <| KO.q rfl (q_assign rfl) <| KO.done <| K.seq <| K.region <| KO.q rfl (q_build st_150 rfl tF) <| KO.loud rfl (l_box rfl rfl) ?_
  rintro _ _ ⟨b7, rfl, rfl⟩
  refine KO.q rfl (q_assign rfl) <| KO.done <| K.st (fun w h => rowO_nil (k := Kd.u8) 5 h) <| K.seq <| K.region <| KO.q rfl (q_move rfl) <| KO.q rfl (q_move rfl) <| KO.q rfl (q_len Tryz.underlying64 rfl) <| KO.loud rfl (OpL.callE rfl (wr_Int b7 none 0 [] _ (by simp))) ?_
  rintro _ _ ⟨_, ⟨q0, c0, rfl, rfl⟩, rfl⟩
  refine KO.done <| K.seq <| K.seq <| K.region <| KO.q rfl (q_move rfl) <| KO.q rfl (q_len Tryz.underlying64 rfl) <| KO.q rfl (q_move rfl) <| KO.done <| K.block ?_
  rw [effPre_zero]
  refine K.rounds2 (ι := { x : Nat × Option Addr × Nat // x.1 ≤ l.length }) (fun x => [(14, .int .i64 x.1.1), (13, .int .i64 l.length), (12, .slice q l.length cap), (3, .pointer (some ⟨b7, 0, none⟩))]) (fun x => WrL b7 x.1.2.1 x.1.2.2 (effPre l x.1.1) ++ (RowF Kd.eff q l :: L)) (fun x => l.length - x.1.1) ⟨(0, q0, c0), Nat.zero_le _⟩ tS (fun w h => h.fitD) (fun x ih => ?_)
  obtain ⟨⟨i, q', cap'⟩, hi⟩ := x
  have hpl := effPre_len l i hi
  dsimp only at hi ⊢
  refine K.seq <| K.region <| KO.q rfl (q_lt rfl rfl) <| KO.done <| K.seq ?_
  refine K.dcond (s := 15) rfl (fun g15 => ?_) (fun g15 => ?_)
  · obtain ⟨e, he⟩ : ∃ e, l[i]? = some e := ⟨_, List.getElem?_eq_getElem tO⟩
    have hml := e.msg.bytes_length
    refine K.skip <| K.seq <| K.block <| K.seq <| K.region ?_
    first | refine KO.q rfl (q_ix _ se_64 rfl rfl rfl isF tM rfl tL) ?_ | refine KO.q rfl (q_ix _ se_64 rfl rfl rfl isO tM rfl tL) ?_
    first | refine KO.q rfl (q_ldEN ck_58 rfl isF tM tE) ?_ | refine KO.q rfl (q_ldEN ck_58 rfl isO tM tE) ?_
    refine KO.loud rfl (l_alloc zo_58) ?_
    rintro _ _ ⟨b5, rfl, rfl⟩
    refine KO.loudN rfl (l_storeAll ck_58 rfl rfl ⟨rfl, rfl⟩ (eff_one _) tP) ?_
    rintro _ _ ⟨rfl, rfl⟩
    refine KO.done <| K.seq <| K.region <| KO.q rfl (q_move rfl) <| KO.q rfl (q_field fo_58_0 rfl) <| KO.q rfl (q_load1D ck_3 rfl) ?_
    refine KO.loud rfl (OpL.callD rfl (h := wr_Int _ _ _ _ _ (by first | omega | (simp [wInt_length, wFlag_length, wText_length]; omega)))) ?_
    rintro _ _ ⟨_, ⟨q1, c1, rfl, rfl⟩, rfl⟩
    refine KO.done <| K.seq <| K.region <| KO.q rfl (q_move rfl) <| KO.q rfl (q_field fo_58_1 rfl) <| KO.q rfl (q_load1D ck_9 rfl) ?_
    refine KO.loud rfl (OpL.callD rfl (h := wr_TextA _ _ _ _ _ (by first | omega | (simp [wInt_length, wFlag_length, wText_length]; omega)))) ?_
    rintro _ _ ⟨_, ⟨q2, c2, rfl, rfl⟩, rfl⟩
    refine KO.done <| K.seq <| K.region <| KO.q rfl (q_move rfl) <| KO.q rfl (q_field fo_58_2 rfl) <| KO.q rfl (q_load1D ck_9 rfl) ?_
    refine KO.loud rfl (OpL.callD rfl (h := wr_TextA _ _ _ _ _ (by first | omega | (simp [wInt_length, wFlag_length, wText_length]; omega)))) ?_
    rintro _ _ ⟨_, ⟨q3, c3, rfl, rfl⟩, rfl⟩
    refine KO.done <| K.seq <| K.region <| KO.q rfl (q_move rfl) <| KO.q rfl (q_field fo_58_3 rfl) <| KO.q rfl (q_load1D ck_9 rfl) ?_
    refine KO.loud rfl (OpL.callD rfl (h := wr_TextA _ _ _ _ _ (by first | omega | (simp [wInt_length, wFlag_length, wText_length]; omega)))) ?_
    rintro _ _ ⟨_, ⟨q4, c4, rfl, rfl⟩, rfl⟩
    refine KO.done <| K.seq <| K.region <| KO.q rfl (q_move rfl) <| KO.q rfl (q_field fo_58_4 rfl) <| KO.q rfl (q_load1D ck_3 rfl) ?_
    refine KO.loud rfl (OpL.callD rfl (h := wr_Int _ _ _ _ _ (by first | omega | (simp [wInt_length, wFlag_length, wText_length]; omega)))) ?_
    rintro _ _ ⟨_, ⟨q5, c5, rfl, rfl⟩, rfl⟩
    refine KO.done <| K.seq <| K.region <| KO.q rfl (q_move rfl) <| KO.q rfl (q_field fo_58_5 rfl) <| KO.q rfl (q_load1D ck_3 rfl) ?_
    refine KO.loud rfl (OpL.callD rfl (h := wr_Int _ _ _ _ _ (by first | omega | (simp [wInt_length, wFlag_length, wText_length]; omega)))) ?_
    rintro _ _ ⟨_, ⟨q6, c6, rfl, rfl⟩, rfl⟩
    refine KO.done <| K.seq <| K.region <| KO.q rfl (q_move rfl) <| KO.q rfl (q_field fo_58_6 rfl) <| KO.q rfl (q_load1D ck_4 rfl) ?_
    refine KO.loud rfl (OpL.callD rfl (h := wr_Flag _ _ _ _ _ (by first | omega | (simp [wInt_length, wFlag_length, wText_length]; omega)))) ?_
    rintro _ _ ⟨_, ⟨q7, c7, rfl, rfl⟩, rfl⟩
    refine KO.done <| K.region <| KO.q rfl (q_move rfl) <| KO.q rfl (q_field fo_58_7 rfl) <| KO.q rfl (q_ldPS sub_eff_msg msg_sz ck_56 rfl tM) ?_
    refine KO.loud rfl (OpL.callD rfl (h := msg_WriteA _ _ _ _ _ (by first | omega | (simp [wInt_length, wFlag_length, wText_length]; omega)))) ?_
    rintro _ _ ⟨_, ⟨q8, c8, rfl, rfl⟩, rfl⟩
    refine KO.done <| K.inBlock <| K.region <| KO.q rfl (q_add rfl rfl tN tN) <| KO.q rfl (q_move rfl) <| KO.done ?_
    rw [← effPre_succ he]
    exact K.weak tS (fun w h => h.fitD) (ih ⟨(i + 1, q8, c8), by show i + 1 ≤ l.length; omega⟩ (by show l.length - (i + 1) < l.length - i; omega))
  · obtain rfl : i = l.length := by omega
    rw [effPre_all] at hpl ⊢
    refine K.exit rfl <| K.seq <| K.region <| KO.q rfl (q_move rfl) ?_
    refine KO.loud rfl (OpL.callD rfl (h := wr_Bytes _ _ _ _ (by first | omega | (simp [wInt_length, wFlag_length, wText_length]; omega)))) ?_
    rintro _ _ ⟨_, ⟨q9, c9, rfl, rfl, hc9⟩, rfl⟩
    refine KO.q rfl (q_assign rfl) <| KO.done ?_
    refine kr1 Tryz.func56 Tryz.results56 rfl (fun w hs => ?_)
    exact ⟨_, [RowF Kd.u8 q9 (effsBytes l)], rfl, ⟨q9, c9, rfl, rfl, hc9⟩, hs.fitD⟩
end Go.Proofs.YtkbhldicnamcdaaGreat.L
namespace Go.Proofs.YtkbhldicnamcdaaGreat.L
open Go Go.Proofs
attribute [local irreducible] pv fv pt fz RowF RowO rowP old pure_ elA Rd.int Rd.text Rd.flag Rd.msg Rd.rint Rd.rtext Rd.rflag Rd.rmsg
set_option maxRecDepth 100000
set_option linter.unusedSimpArgs false
set_option linter.unusedVariables false
set_option maxHeartbeats 800000 in
theorem eff_read (p : Nat) (q : Option Addr) (cap : Nat) (s : Rd) (hc : s.bs.length ≤ cap) : Fn Tryz.prog 131 [.pointer (some ⟨p, 0, none⟩)].toArray (RdL p q cap s)
    (fun r post => ∃ q' cap', r = .agg s.eff.1.cells.toArray ∧ post = RdL p q' cap' s.eff.2 ∧ s.eff.2.bs.length ≤ cap') := by
  refine Fn.enter (N := 29) Tryz.func131 rfl Tryz.ntmps131 tK rfl (fun ρ L => ?_)
  refine K.seq <| K.region <| KO.loud rfl (l_alloc zo_58) ?_
  rintro _ _ ⟨b2, rfl, rfl⟩
  refine KO.done <| K.seq <| K.region <| KO.q rfl (q_move rfl) <| KO.loud rfl (OpL.callD rfl (h := rd_Int _ _ _ _ (by assumption))) ?_
  rintro _ _ ⟨_, ⟨q1, c1, rfl, rfl, hc1⟩, rfl⟩
  refine KO.q rfl (q_as_eff (q_build st_58 rfl tF) (by rfl)) <| KO.loud rfl (l_alloc zo_58) ?_
  rintro _ _ ⟨b3, rfl, rfl⟩
  refine KO.loudN rfl (l_storeAll ck_58 rfl rfl ⟨rfl, rfl⟩ (eff_one _) tP) ?_
  rintro _ _ ⟨rfl, rfl⟩
  refine KO.done <| K.seq <| K.region <| KO.q rfl (q_move rfl) <| KO.loud rfl (OpL.callD rfl (h := rd_Text _ _ _ _ (by assumption))) ?_
  rintro _ _ ⟨_, ⟨q2, c2, rfl, rfl, hc2⟩, rfl⟩
  refine KO.q rfl (q_field fo_58_1 rfl) <| KO.loudN rfl (l_store1 ck_9 rfl rfl rfl tP tA) ?_
  rintro _ _ ⟨rfl, rfl⟩
  refine KO.done <| K.seq <| K.region <| KO.q rfl (q_move rfl) <| KO.loud rfl (OpL.callD rfl (h := rd_Text _ _ _ _ (by assumption))) ?_
  rintro _ _ ⟨_, ⟨q3, c3, rfl, rfl, hc3⟩, rfl⟩
  refine KO.q rfl (q_field fo_58_2 rfl) <| KO.loudN rfl (l_store1 ck_9 rfl rfl rfl tP tA) ?_
  rintro _ _ ⟨rfl, rfl⟩
  refine KO.done <| K.seq <| K.region <| KO.q rfl (q_move rfl) <| KO.loud rfl (OpL.callD rfl (h := rd_Text _ _ _ _ (by assumption))) ?_
  rintro _ _ ⟨_, ⟨q4, c4, rfl, rfl, hc4⟩, rfl⟩
  refine KO.q rfl (q_field fo_58_3 rfl) <| KO.loudN rfl (l_store1 ck_9 rfl rfl rfl tP tA) ?_
  rintro _ _ ⟨rfl, rfl⟩
  refine KO.done <| K.seq <| K.region <| KO.q rfl (q_move rfl) <| KO.loud rfl (OpL.callD rfl (h := rd_Int _ _ _ _ (by assumption))) ?_
  rintro _ _ ⟨_, ⟨q5, c5, rfl, rfl, hc5⟩, rfl⟩
  refine KO.q rfl (q_field fo_58_4 rfl) <| KO.loudN rfl (l_store1 ck_3 rfl rfl rfl tP tA) ?_
  rintro _ _ ⟨rfl, rfl⟩
  refine KO.done <| K.seq <| K.region <| KO.q rfl (q_move rfl) <| KO.loud rfl (OpL.callD rfl (h := rd_Int _ _ _ _ (by assumption))) ?_
  rintro _ _ ⟨_, ⟨q6, c6, rfl, rfl, hc6⟩, rfl⟩
  refine KO.q rfl (q_field fo_58_5 rfl) <| KO.loudN rfl (l_store1 ck_3 rfl rfl rfl tP tA) ?_
  rintro _ _ ⟨rfl, rfl⟩
  refine KO.done <| K.seq <| K.region <| KO.q rfl (q_move rfl) <| KO.loud rfl (OpL.callD rfl (h := rd_Flag _ _ _ _ (by assumption))) ?_
  rintro _ _ ⟨_, ⟨q7, c7, rfl, rfl, hc7⟩, rfl⟩
  refine KO.q rfl (q_field fo_58_6 rfl) <| KO.loudN rfl (l_store1 ck_4 rfl rfl rfl tP tA) ?_
  rintro _ _ ⟨rfl, rfl⟩
  refine KO.done <| K.seq <| K.region <| KO.q rfl (q_move rfl) <| KO.loud rfl (OpL.callD rfl (h := msg_Read _ _ _ _ (by assumption))) ?_
  rintro _ _ ⟨_, ⟨q8, c8, rfl, rfl, hc8⟩, rfl⟩
  refine KO.q rfl (q_field fo_58_7 rfl) <| KO.loudN rfl (l_storeN ck_56 rfl rfl rfl (msg_one _) tP tSN) ?_
  rintro _ _ ⟨rfl, rfl⟩
  refine KO.done <| K.seq <| K.region <| KO.q rfl (q_as_eff (q_loadN ck_58 rfl rfl tC) (by rfl)) <| KO.loudN rfl (l_storeAll ck_58 rfl rfl ⟨rfl, rfl⟩ (eff_one _) tP) ?_
  rintro _ _ ⟨rfl, rfl⟩
  refine KO.done ?_
  refine K.ret (fn := Tryz.f131) Tryz.func131 (fun a w hk hs => resC Tryz.results131 hk rfl ck_58 rfl (cells_pv tM w hs)) (fun w hs => ?_)
  exact ⟨_, RdL p q8 c8 s.eff.2, rfl, ⟨q8, c8, rfl, rfl, hc8⟩, hs.fitD⟩
attribute [local irreducible] Rd.eff
set_option maxHeartbeats 800000 in
theorem eff_Read (q : Option Addr) (cap : Nat) (bs : List UInt8) (hb : bs.length ≤ 1099511627776) : Fn Tryz.prog 70 [.slice q bs.length cap].toArray [RowF Kd.u8 q bs]
    (fun r post => ∃ q' cap', r = .tuple #[.slice q' ((effRead bs).getD []).length cap', .int .i64 (if (effRead bs).isSome then 0 else 11)] ∧ post = [RowF Kd.eff q' ((effRead bs).getD [])] ∧ ((effRead bs).getD []).length ≤ cap') := by
  obtain ⟨n0, s0, ha⟩ : ∃ n0 s0, Rd.int ⟨bs, false⟩ = (n0, s0) := ⟨_, _, rfl⟩
  refine Fn.enter (N := 43) Tryz.func70 rfl Tryz.ntmps70 tK rfl (fun ρ L => ?_)
  refine K.seq <| K.region <| KO.q rfl (q_assign rfl) <| KO.q rfl (q_assign rfl) <| KO.done <| K.seq <| K.region <| KO.q rfl (q_move rfl) <| KO.loud rfl (OpL.callD rfl (h := rd_New _ _ _ tN)) ?_
  rintro _ _ ⟨_, ⟨p1, q1, c1, rfl, rfl, hc1⟩, rfl⟩
  refine KO.q rfl (q_assign rfl) <| KO.done <| K.seq <| K.region <| KO.q rfl (q_move rfl) <| KO.loud rfl (OpL.callD rfl (h := rd_Int _ _ _ _ (by assumption))) ?_
  rintro _ _ ⟨_, ⟨q2, c2, rfl, rfl, hc2⟩, rfl⟩
  refine KO.q rfl (q_assign rfl) <| KO.done ?_
  simp only [ha] at hc2 ⊢
  refine K.seq <| K.seq <| K.region <| KO.q rfl (q_move rfl) <| KO.loud rfl (OpL.callD rfl (h := rd_Failed _ _ _ _)) ?_
  rintro _ _ ⟨_, ⟨rfl, rfl⟩, rfl⟩
  refine KO.q rfl (q_move rfl) ?_
  refine KO.split 14 rfl (fun g14 => ?_) (fun g14 => ?_)
  · refine KO.skip rfl <| KO.skip rfl <| KO.q rfl (q_pickT rfl rfl) <| KO.q rfl (q_move rfl) <| KO.skip rfl <| KO.skip rfl <| KO.q rfl (q_pickT rfl rfl) <| KO.done <| K.yes rfl <| K.seq ?_
    have hr : effRead bs = none := by rw [effRead_of ha, if_pos (by simp [*])]
    refine K.region <| KO.q rfl (q_assign rfl) <| KO.q rfl (q_assign rfl) <| KO.done ?_
    refine kr2 Tryz.func70 Tryz.results70 rfl rfl (fun w hs => ?_)
    rw [hr]
    first
      | exact ⟨_, [RowF Kd.eff none []], rfl, ⟨none, 0, rfl, rfl, Nat.le_refl _⟩, (rowF_nil (k := Kd.eff) none hs).fitD⟩
      | exact ⟨_, [RowF Kd.eff p2 acc], rfl, ⟨p2, cap2, rfl, rfl, hcap⟩, hs.fitD⟩
  · refine KO.q rfl (q_move rfl) <| KO.q rfl (q_lt rfl rfl) <| KO.q rfl (q_pickF rfl rfl) <| KO.q rfl (q_move rfl) ?_
    refine KO.dsplit 18 rfl (fun g18 => ?_) (fun g18 => ?_)
    · refine KO.skip rfl <| KO.skip rfl <| KO.q rfl (q_pickT rfl rfl) <| KO.done <| K.yes rfl <| K.seq ?_
      have hr : effRead bs = none := by rw [effRead_of ha, if_pos (by simp [*])]
      refine K.region <| KO.q rfl (q_assign rfl) <| KO.q rfl (q_assign rfl) <| KO.done ?_
      refine kr2 Tryz.func70 Tryz.results70 rfl rfl (fun w hs => ?_)
      rw [hr]
      first
        | exact ⟨_, [RowF Kd.eff none []], rfl, ⟨none, 0, rfl, rfl, Nat.le_refl _⟩, (rowF_nil (k := Kd.eff) none hs).fitD⟩
        | exact ⟨_, [RowF Kd.eff p2 acc], rfl, ⟨p2, cap2, rfl, rfl, hcap⟩, hs.fitD⟩
    · refine KO.q rfl (q_move rfl) <| KO.q rfl (q_gt rfl rfl) <| KO.q rfl (q_pickF rfl rfl) <| KO.done ?_
      refine K.dcond (s := 21) rfl (fun g21 => ?_) (fun g21 => ?_)
      · refine K.seq ?_
        have hr : effRead bs = none := by rw [effRead_of ha, if_pos (by simp [*])]
        refine K.region <| KO.q rfl (q_assign rfl) <| KO.q rfl (q_assign rfl) <| KO.done ?_
        refine kr2 Tryz.func70 Tryz.results70 rfl rfl (fun w hs => ?_)
        rw [hr]
        first
          | exact ⟨_, [RowF Kd.eff none []], rfl, ⟨none, 0, rfl, rfl, Nat.le_refl _⟩, (rowF_nil (k := Kd.eff) none hs).fitD⟩
          | exact ⟨_, [RowF Kd.eff p2 acc], rfl, ⟨p2, cap2, rfl, rfl, hcap⟩, hs.fitD⟩
      · refine K.skip <| K.seq <| K.region <| KO.q rfl (q_assign rfl) <| KO.done <| K.seq <| K.seq ?_
        have hc : ¬ (s0.f = true ∨ n0 < 0 ∨ 10000 < n0) := by
          rintro (h | h | h)
          · simp_all
          · omega
          · omega
        have hr0 := effRead_of ha
        rw [if_neg hc] at hr0
        obtain ⟨n, rfl⟩ : ∃ n : Nat, n0 = n := ⟨n0.toNat, by omega⟩
        rw [Int.toNat_natCast] at hr0
        refine K.st (fun w h => rowO_nil (k := Kd.eff) 58 h) <| K.region <| KO.q rfl (q_move rfl) <| KO.q rfl (q_move rfl) <| KO.done <| K.block ?_
        refine K.rounds2 (ι := { x : Nat × List Eff × Rd × Option Addr × Nat × Option Addr × Nat // x.1 ≤ n ∧ x.2.1.length = x.1 ∧ x.2.2.1.bs.length ≤ x.2.2.2.2.1 ∧ Rd.effs n s0 = ((Rd.effs (n - x.1) x.2.2.1).1.map (x.2.1 ++ ·), (Rd.effs (n - x.1) x.2.2.1).2) }) (fun x => [(23, .int .i64 x.1.1), (22, .int .i64 n), (6, .slice x.1.2.2.2.2.2.1 x.1.2.1.length x.1.2.2.2.2.2.2), (4, .pointer (some ⟨p1, 0, none⟩))]) (fun x => RdL p1 x.1.2.2.2.1 x.1.2.2.2.2.1 x.1.2.2.1 ++ [RowO Kd.eff 58 x.1.2.2.2.2.2.1 x.1.2.2.2.2.2.2 x.1.2.1] ++ L) (fun x => n - x.1.1) ⟨(0, [], s0, q2, c2, none, 0), Nat.zero_le _, rfl, hc2, by simp⟩ tS (fun w h => h.fitD) (fun x ih => ?_)
        obtain ⟨⟨i, acc, s, q', c', p2, cap2⟩, hi, hl, hcs, hinv⟩ := x
        dsimp only at hi hl hcs hinv ⊢
        refine K.seq <| K.region <| KO.q rfl (q_lt rfl rfl) <| KO.done <| K.seq ?_
        refine K.dcond (s := 24) rfl (fun g24 => ?_) (fun g24 => ?_)
        · have hst := effs_succ (n - (i + 1)) s
          rw [show n - (i + 1) + 1 = n - i by omega] at hst
          refine K.skip <| K.seq <| K.block <| K.seq <| K.region <| KO.q rfl (q_move rfl) <| KO.loud rfl (OpL.callD rfl (h := eff_read _ _ _ _ (by assumption))) ?_
          rintro _ _ ⟨_, ⟨q4, c4, rfl, rfl, hc4⟩, rfl⟩
          refine KO.loud rfl (l_alloc zo_58) ?_
          rintro _ _ ⟨b7, rfl, rfl⟩
          refine KO.loudN rfl (l_storeAll ck_58 rfl rfl ⟨rfl, rfl⟩ (eff_one _) tP) ?_
          rintro _ _ ⟨rfl, rfl⟩
          refine KO.done <| K.seq <| K.seq <| K.region <| KO.q rfl (q_move rfl) <| KO.loud rfl (OpL.callD rfl (h := rd_Failed _ _ _ _)) ?_
          rintro _ _ ⟨_, ⟨rfl, rfl⟩, rfl⟩
          refine KO.q rfl (q_move rfl) ?_
          refine KO.split 29 rfl (fun g29 => ?_) (fun g29 => ?_)
          · refine KO.skip rfl <| KO.skip rfl <| KO.skip rfl <| KO.q rfl (q_pickT rfl rfl) <| KO.done <| K.yes rfl <| K.seq ?_
            have hr : effRead bs = none := by
              rw [hr0, hinv, hst, if_pos (by simp [*])]
              rfl
            refine K.region <| KO.q rfl (q_assign rfl) <| KO.q rfl (q_assign rfl) <| KO.done ?_
            refine kr2 Tryz.func70 Tryz.results70 rfl rfl (fun w hs => ?_)
            rw [hr]
            first
              | exact ⟨_, [RowF Kd.eff none []], rfl, ⟨none, 0, rfl, rfl, Nat.le_refl _⟩, (rowF_nil (k := Kd.eff) none hs).fitD⟩
              | exact ⟨_, [RowF Kd.eff p2 acc], rfl, ⟨p2, cap2, rfl, rfl, hcap⟩, hs.fitD⟩
          · refine KO.q rfl (q_loadN ck_58 rfl rfl tC) <| KO.loud rfl (OpL.callD rfl (h := eff_Right _)) ?_
            rintro _ _ ⟨_, ⟨rfl, rfl⟩, rfl⟩
            refine KO.q rfl (q_not rfl) <| KO.q rfl (q_pickF rfl rfl) <| KO.done ?_
            refine K.bcond (s := 33) rfl (fun g33 => ?_) (fun g33 => ?_)
            · refine K.seq ?_
              have hr : effRead bs = none := by
                rw [hr0, hinv, hst, if_pos (by simp [*])]
                rfl
              refine K.region <| KO.q rfl (q_assign rfl) <| KO.q rfl (q_assign rfl) <| KO.done ?_
              refine kr2 Tryz.func70 Tryz.results70 rfl rfl (fun w hs => ?_)
              rw [hr]
              first
                | exact ⟨_, [RowF Kd.eff none []], rfl, ⟨none, 0, rfl, rfl, Nat.le_refl _⟩, (rowF_nil (k := Kd.eff) none hs).fitD⟩
                | exact ⟨_, [RowF Kd.eff p2 acc], rfl, ⟨p2, cap2, rfl, rfl, hcap⟩, hs.fitD⟩
            · refine K.skip <| K.region <| KO.q rfl (q_move rfl) <| KO.q rfl (q_loadN ck_58 rfl rfl tC) <| KO.loud rfl (l_slice1 sz_64_1 rfl rfl ⟨rfl, rfl, rfl⟩) ?_
              rintro _ _ ⟨b36, rfl, rfl⟩
              refine KO.loud rfl (l_append Kd.eff se_64 Tryz.underlying64 ⟨_, ze_58, rfl⟩ tD rfl rfl tP isP tM rfl rfl (by simp; omega)) ?_
              rintro _ _ ⟨p3, cap3, rfl, rfl⟩
              refine KO.q rfl (q_assign rfl) <| KO.done <| K.inBlock <| K.region <| KO.q rfl (q_add rfl rfl tN tN) <| KO.q rfl (q_move rfl) <| KO.done ?_
              have hst2 : Rd.effs (n - i) s = ((Rd.effs (n - (i + 1)) s.eff.2).1.map (s.eff.1 :: ·), (Rd.effs (n - (i + 1)) s.eff.2).2) := by rw [hst, if_neg (by simp_all)]
              refine K.weak ?_ ?_ (ih ⟨(i + 1, acc ++ [s.eff.1], s.eff.2, q4, c4, p3, cap3), ?_, ?_, ?_, ?_⟩ ?_)
              · exact tS
              · intro w h
                exact h.fitD
              · show i + 1 ≤ n
                omega
              · show (acc ++ [s.eff.1]).length = i + 1
                simp [hl]
              · assumption
              · show Rd.effs n s0 = ((Rd.effs (n - (i + 1)) s.eff.2).1.map (acc ++ [s.eff.1] ++ ·), (Rd.effs (n - (i + 1)) s.eff.2).2)
                rw [hinv, hst2]
                cases (Rd.effs (n - (i + 1)) s.eff.2).1 <;> simp
              · show n - (i + 1) < n - i
                omega
        · have hz : Rd.effs n s0 = (some acc, s) := by
            rw [hinv, show n - i = 0 by omega]
            simp [effs_zero]
          refine K.exit rfl <| K.seq <| K.seq <| K.region <| KO.q rfl (q_move rfl) <| KO.loud rfl (OpL.callD rfl (h := rd_Done _ _ _ _)) ?_
          rintro _ _ ⟨_, ⟨rfl, rfl⟩, rfl⟩
          refine KO.q rfl (q_not rfl) <| KO.done ?_
          refine K.bcond (s := 41) rfl (fun g41 => ?_) (fun g41 => ?_)
          · refine K.seq ?_
            have hr : effRead bs = none := by
              rw [hr0, hz]
              dsimp only
              rw [if_neg (by simpa using g41)]
            refine K.region <| KO.q rfl (q_assign rfl) <| KO.q rfl (q_assign rfl) <| KO.done ?_
            refine kr2 Tryz.func70 Tryz.results70 rfl rfl (fun w hs => ?_)
            rw [hr]
            first
              | exact ⟨_, [RowF Kd.eff none []], rfl, ⟨none, 0, rfl, rfl, Nat.le_refl _⟩, (rowF_nil (k := Kd.eff) none hs).fitD⟩
              | exact ⟨_, [RowF Kd.eff p2 acc], rfl, ⟨p2, cap2, rfl, rfl, hcap⟩, hs.fitD⟩
          · refine K.skip <| K.seq ?_
            have hr : effRead bs = some acc := by
              rw [hr0, hz]
              dsimp only
              rw [if_pos (by simpa using g41)]
            refine K.fact (rowO_cap tM) (fun hcap => ?_)
            refine K.st (fun w h => rowO_freeze (h.pick tP)) <| K.region <| KO.q rfl (q_move rfl) <| KO.q rfl (q_assign rfl) <| KO.q rfl (q_assign rfl) <| KO.done ?_
            refine kr2 Tryz.func70 Tryz.results70 rfl rfl (fun w hs => ?_)
            rw [hr]
            first
              | exact ⟨_, [RowF Kd.eff none []], rfl, ⟨none, 0, rfl, rfl, Nat.le_refl _⟩, (rowF_nil (k := Kd.eff) none hs).fitD⟩
              | exact ⟨_, [RowF Kd.eff p2 acc], rfl, ⟨p2, cap2, rfl, rfl, hcap⟩, hs.fitD⟩
end Go.Proofs.YtkbhldicnamcdaaGreat.L

