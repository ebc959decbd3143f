/- Whatever stays at a crash, the state behind all changes that were answered OK is there, or also the one more that was not; no condition. -/
import Derived.Test.YtkbhldicnamcdaaGreatKeepSureB
open Go.Proofs.Tryz
set_option linter.unusedVariables false
set_option linter.unusedSimpArgs false
set_option maxRecDepth 100000
namespace Go.Proofs.YtkbhldicnamcdaaGreat.L
open Go Go.Proofs
attribute [local irreducible] pv fv pt fz RowF RowO rowP old pure_ elA Rd.int Rd.text Rd.flag Rd.msg Rd.rint Rd.rtext Rd.rflag Rd.rmsg
def Oz.cap (o : Oz) : Prop := o.x.rows.length ≤ o.z.c1 ∧ o.x.msgs.length ≤ o.z.c2 ∧ o.x.dead.length ≤ o.z.c3
def Oz.le (o : Oz) (n : Nat) : Prop := o.x.rows.length ≤ n ∧ o.x.msgs.length ≤ n ∧ o.x.dead.length ≤ n
abbrev ObO (o : Oz) : List HP := [RowO Kd.rw 136 o.z.q1 o.z.c1 o.x.rows, RowO Kd.msg 56 o.z.q2 o.z.c2 o.x.msgs, RowO Kd.msg 56 o.z.q3 o.z.c3 o.x.dead]
theorem obO_freeze {o : Oz} {ρ : World} {L : List HP} {w : World} (h : St ρ (ObO o ++ L) w) : St ρ (ObL o ++ L) w := by
 have h1 := rO h
 have h2 := rO (h1.pick (.there .here))
 have h3 := rO (h2.pick (.there (.there .here)))
 exact h3.fitD
set_option maxHeartbeats 1600000 in
theorem dd_clone (o : Oz) (hl : o.le 1000000000) : Fn Tryz.prog 216 [.agg o.cells.toArray].toArray (ObL o) (fun r post => ∃ z, r = .agg (Oz.cells ⟨o.x, z⟩).toArray ∧ post = ObO ⟨o.x, z⟩ ∧ Oz.cap ⟨o.x, z⟩) := by
 obtain ⟨hl1, hl2, hl3⟩ := hl
 refine Fn.enter (N := 16) func216 rfl ntmps216 tK rfl (fun ρ L => ?_)
 refine ky<|kl (l_box rfl rfl) ?_
 rintro _ _ ⟨b1, rfl, rfl⟩
 refine kl (lL zo_62) ?_
 rintro _ _ ⟨b2, rfl, rfl⟩
 refine zm<|ke ?_
 refine K.via (ι := { z : ObQ // Oz.cap ⟨o.x, z⟩ }) (I := fun x => ([(1, .pointer (some ⟨b1, 0, none⟩)), (2, .pointer (some ⟨b2, 0, none⟩))], [pv b1 62 (Oz.cells ⟨o.x, x.1⟩), pv b2 62 [.string ⟨#[]⟩, .int .i64 0, .int .i64 0, .slice none 0 0, .slice none 0 0, .slice none 0 0]] ++ ObO ⟨o.x, x.1⟩ ++ L)) (fun x => ?_) (fun cont => ?_)
 ·obtain ⟨⟨qa, ca, qb, cb, qc, cc⟩, ha, hb, hc⟩ := x
  dsimp only at ha hb hc ⊢
  refine ky<|kq (q_as (qL ck_62 rfl rfl tC) (show _ = Oz.cells ⟨o.x, ⟨qa, ca, qb, cb, qc, cc⟩⟩ from rfl))<|kN rfl (lS ck_62 rfl rfl ⟨rfl, rfl⟩ (oz_one _) tP) ?_
  rintro _ _ ⟨rfl, rfl⟩
  refine zm ?_
  refine K.ret (fn := Tryz.f216) func216 (fun a w hk hs => resC results216 hk rfl ck_62 rfl (cP tM w hs)) (fun w hs => ?_)
  exact ⟨_, ObO ⟨o.x, ⟨qa, ca, qb, cb, qc, cc⟩⟩, rfl, ⟨⟨qa, ca, qb, cb, qc, cc⟩, rfl, rfl, ha, hb, hc⟩, hs.fitD⟩
 ·refine K.drawU (by repeat (first | apply SubL.pers | apply SubL.drop | exact SubL.none)) mixed ?_
  refine dq 0 rfl (qO fo_62_3 rfl)<|dq 3 rfl (qO fo_62_4 rfl)<|dq 6 rfl (qO fo_62_5 rfl) ?_
  refine D.all (rs := [1, 4, 7]) tK rfl (DAll.cons rfl tK (OpQ.loud (qD ck_59 rfl)) (.inr (by rintro _ _ ⟨rfl, rfl⟩ w h; exact h.subD)) rfl ?_ (DAll.cons rfl tK (OpQ.loud (qD ck_60 rfl)) (.inr (by rintro _ _ ⟨rfl, rfl⟩ w h; exact h.subD)) rfl ?_ (DAll.cons rfl tK (OpQ.loud (qD ck_60 rfl)) (.inr (by rintro _ _ ⟨rfl, rfl⟩ w h; exact h.subD)) rfl ?_ DAll.nil)))
  ·rintro _ _ ⟨rfl, rfl⟩
   refine D.all (rs := [2, 4, 7]) tK rfl (DAll.cons rfl tK (kc rfl (h := clone_rw (RowF Kd.rw o.z.q1 o.x.rows) o.z.q1 o.z.c1 o.x.rows isF hl1)) (.inr (by rintro _ _ ⟨_, ⟨qa, ca, rfl, rfl, ha⟩, rfl⟩ w h; exact h.subD)) rfl ?_ (DAll.cons rfl tK (OpQ.loud (qD ck_60 rfl)) (.inr (by rintro _ _ ⟨rfl, rfl⟩ w h; exact h.subD)) rfl ?_ (DAll.cons rfl tK (OpQ.loud (qD ck_60 rfl)) (.inr (by rintro _ _ ⟨rfl, rfl⟩ w h; exact h.subD)) rfl ?_ DAll.nil)))
   ·rintro _ _ ⟨_, ⟨qa, ca, rfl, rfl, ha⟩, rfl⟩
    refine D.all (rs := [4, 7]) tK rfl (DAll.cons rfl tK (OpQ.loud (qD ck_60 rfl)) (.inr (by rintro _ _ ⟨rfl, rfl⟩ w h; exact h.subD)) rfl ?_ (DAll.cons rfl tK (OpQ.loud (qD ck_60 rfl)) (.inr (by rintro _ _ ⟨rfl, rfl⟩ w h; exact h.subD)) rfl ?_ DAll.nil))
    ·rintro _ _ ⟨rfl, rfl⟩
     refine D.all (rs := [5, 7]) tK rfl (DAll.cons rfl tK (kc rfl (h := cM (RowF Kd.msg o.z.q2 o.x.msgs) o.z.q2 o.z.c2 o.x.msgs isF hl2)) (.inr (by rintro _ _ ⟨_, ⟨qb, cb, rfl, rfl, hb⟩, rfl⟩ w h; exact h.subD)) rfl ?_ (DAll.cons rfl tK (OpQ.loud (qD ck_60 rfl)) (.inl tK) rfl ?_ DAll.nil))
     ·rintro _ _ ⟨_, ⟨qb, cb, rfl, rfl, hb⟩, rfl⟩
      refine dq1 7 rfl (OpQ.loud (qD ck_60 rfl)) (.inl tK) ?_
      rintro _ _ ⟨rfl, rfl⟩
      refine dq 9 rfl (qO fo_62_3 rfl)<|dq1 8 rfl (kc rfl (h := cM (RowF Kd.msg o.z.q3 o.x.dead) o.z.q3 o.z.c3 o.x.dead isF hl3)) (.inr (by rintro _ _ ⟨_, ⟨qc, cc, rfl, rfl, hc⟩, rfl⟩ w h; exact h.subD)) ?_
      rintro _ _ ⟨_, ⟨qc, cc, rfl, rfl, hc⟩, rfl⟩
      refine dq1N 10 rfl (lA ck_59 rfl rfl rfl tP tA) (.inl tK) ?_
      rintro _ _ ⟨rfl, rfl⟩
      refine dq 11 rfl (qO fo_62_4 rfl)<|dq1N 12 rfl (lA ck_60 rfl rfl rfl tP tA) (.inl tK) ?_
      rintro _ _ ⟨rfl, rfl⟩
      refine dq 13 rfl (qO fo_62_5 rfl)<|dq1N 14 rfl (lA ck_60 rfl rfl rfl tP tA) (.inl tK) ?_
      rintro _ _ ⟨rfl, rfl⟩
      refine D.done tK ?_
      exact K.weak tS (fun w h => h.fitD) (cont ⟨⟨qa, ca, qb, cb, qc, cc⟩, ha, hb, hc⟩)
     ·rintro _ _ ⟨rfl, rfl⟩
      refine dq 9 rfl (qO fo_62_3 rfl)<|dq1 5 rfl (kc rfl (h := cM (RowF Kd.msg o.z.q2 o.x.msgs) o.z.q2 o.z.c2 o.x.msgs isF hl2)) (.inr (by rintro _ _ ⟨_, ⟨qb, cb, rfl, rfl, hb⟩, rfl⟩ w h; exact h.subD)) ?_
      rintro _ _ ⟨_, ⟨qb, cb, rfl, rfl, hb⟩, rfl⟩
      refine dq1 8 rfl (kc rfl (h := cM (RowF Kd.msg o.z.q3 o.x.dead) o.z.q3 o.z.c3 o.x.dead isF hl3)) (.inr (by rintro _ _ ⟨_, ⟨qc, cc, rfl, rfl, hc⟩, rfl⟩ w h; exact h.subD)) ?_
      rintro _ _ ⟨_, ⟨qc, cc, rfl, rfl, hc⟩, rfl⟩
      refine dq1N 10 rfl (lA ck_59 rfl rfl rfl tP tA) (.inl tK) ?_
      rintro _ _ ⟨rfl, rfl⟩
      refine dq 11 rfl (qO fo_62_4 rfl)<|dq1N 12 rfl (lA ck_60 rfl rfl rfl tP tA) (.inl tK) ?_
      rintro _ _ ⟨rfl, rfl⟩
      refine dq 13 rfl (qO fo_62_5 rfl)<|dq1N 14 rfl (lA ck_60 rfl rfl rfl tP tA) (.inl tK) ?_
      rintro _ _ ⟨rfl, rfl⟩
      refine D.done tK ?_
      exact K.weak tS (fun w h => h.fitD) (cont ⟨⟨qa, ca, qb, cb, qc, cc⟩, ha, hb, hc⟩)
    ·rintro _ _ ⟨rfl, rfl⟩
     refine dq1 4 rfl (OpQ.loud (qD ck_60 rfl)) (.inl tK) ?_
     rintro _ _ ⟨rfl, rfl⟩
     refine dq 9 rfl (qO fo_62_3 rfl)<|dq1 5 rfl (kc rfl (h := cM (RowF Kd.msg o.z.q2 o.x.msgs) o.z.q2 o.z.c2 o.x.msgs isF hl2)) (.inr (by rintro _ _ ⟨_, ⟨qb, cb, rfl, rfl, hb⟩, rfl⟩ w h; exact h.subD)) ?_
     rintro _ _ ⟨_, ⟨qb, cb, rfl, rfl, hb⟩, rfl⟩
     refine dq1 8 rfl (kc rfl (h := cM (RowF Kd.msg o.z.q3 o.x.dead) o.z.q3 o.z.c3 o.x.dead isF hl3)) (.inr (by rintro _ _ ⟨_, ⟨qc, cc, rfl, rfl, hc⟩, rfl⟩ w h; exact h.subD)) ?_
     rintro _ _ ⟨_, ⟨qc, cc, rfl, rfl, hc⟩, rfl⟩
     refine dq1N 10 rfl (lA ck_59 rfl rfl rfl tP tA) (.inl tK) ?_
     rintro _ _ ⟨rfl, rfl⟩
     refine dq 11 rfl (qO fo_62_4 rfl)<|dq1N 12 rfl (lA ck_60 rfl rfl rfl tP tA) (.inl tK) ?_
     rintro _ _ ⟨rfl, rfl⟩
     refine dq 13 rfl (qO fo_62_5 rfl)<|dq1N 14 rfl (lA ck_60 rfl rfl rfl tP tA) (.inl tK) ?_
     rintro _ _ ⟨rfl, rfl⟩
     refine D.done tK ?_
     exact K.weak tS (fun w h => h.fitD) (cont ⟨⟨qa, ca, qb, cb, qc, cc⟩, ha, hb, hc⟩)
   ·rintro _ _ ⟨rfl, rfl⟩
    refine D.all (rs := [2, 7]) tK rfl (DAll.cons rfl tK (kc rfl (h := clone_rw (RowF Kd.rw o.z.q1 o.x.rows) o.z.q1 o.z.c1 o.x.rows isF hl1)) (.inr (by rintro _ _ ⟨_, ⟨qa, ca, rfl, rfl, ha⟩, rfl⟩ w h; exact h.subD)) rfl ?_ (DAll.cons rfl tK (OpQ.loud (qD ck_60 rfl)) (.inl tK) rfl ?_ DAll.nil))
    ·rintro _ _ ⟨_, ⟨qa, ca, rfl, rfl, ha⟩, rfl⟩
     refine D.all (rs := [5, 7]) tK rfl (DAll.cons rfl tK (kc rfl (h := cM (RowF Kd.msg o.z.q2 o.x.msgs) o.z.q2 o.z.c2 o.x.msgs isF hl2)) (.inr (by rintro _ _ ⟨_, ⟨qb, cb, rfl, rfl, hb⟩, rfl⟩ w h; exact h.subD)) rfl ?_ (DAll.cons rfl tK (OpQ.loud (qD ck_60 rfl)) (.inl tK) rfl ?_ DAll.nil))
     ·rintro _ _ ⟨_, ⟨qb, cb, rfl, rfl, hb⟩, rfl⟩
      refine dq1 7 rfl (OpQ.loud (qD ck_60 rfl)) (.inl tK) ?_
      rintro _ _ ⟨rfl, rfl⟩
      refine dq 9 rfl (qO fo_62_3 rfl)<|dq1 8 rfl (kc rfl (h := cM (RowF Kd.msg o.z.q3 o.x.dead) o.z.q3 o.z.c3 o.x.dead isF hl3)) (.inr (by rintro _ _ ⟨_, ⟨qc, cc, rfl, rfl, hc⟩, rfl⟩ w h; exact h.subD)) ?_
      rintro _ _ ⟨_, ⟨qc, cc, rfl, rfl, hc⟩, rfl⟩
      refine dq1N 10 rfl (lA ck_59 rfl rfl rfl tP tA) (.inl tK) ?_
      rintro _ _ ⟨rfl, rfl⟩
      refine dq 11 rfl (qO fo_62_4 rfl)<|dq1N 12 rfl (lA ck_60 rfl rfl rfl tP tA) (.inl tK) ?_
      rintro _ _ ⟨rfl, rfl⟩
      refine dq 13 rfl (qO fo_62_5 rfl)<|dq1N 14 rfl (lA ck_60 rfl rfl rfl tP tA) (.inl tK) ?_
      rintro _ _ ⟨rfl, rfl⟩
      refine D.done tK ?_
      exact K.weak tS (fun w h => h.fitD) (cont ⟨⟨qa, ca, qb, cb, qc, cc⟩, ha, hb, hc⟩)
     ·rintro _ _ ⟨rfl, rfl⟩
      refine dq 9 rfl (qO fo_62_3 rfl)<|dq1 5 rfl (kc rfl (h := cM (RowF Kd.msg o.z.q2 o.x.msgs) o.z.q2 o.z.c2 o.x.msgs isF hl2)) (.inr (by rintro _ _ ⟨_, ⟨qb, cb, rfl, rfl, hb⟩, rfl⟩ w h; exact h.subD)) ?_
      rintro _ _ ⟨_, ⟨qb, cb, rfl, rfl, hb⟩, rfl⟩
      refine dq1 8 rfl (kc rfl (h := cM (RowF Kd.msg o.z.q3 o.x.dead) o.z.q3 o.z.c3 o.x.dead isF hl3)) (.inr (by rintro _ _ ⟨_, ⟨qc, cc, rfl, rfl, hc⟩, rfl⟩ w h; exact h.subD)) ?_
      rintro _ _ ⟨_, ⟨qc, cc, rfl, rfl, hc⟩, rfl⟩
      refine dq1N 10 rfl (lA ck_59 rfl rfl rfl tP tA) (.inl tK) ?_
      rintro _ _ ⟨rfl, rfl⟩
      refine dq 11 rfl (qO fo_62_4 rfl)<|dq1N 12 rfl (lA ck_60 rfl rfl rfl tP tA) (.inl tK) ?_
      rintro _ _ ⟨rfl, rfl⟩
      refine dq 13 rfl (qO fo_62_5 rfl)<|dq1N 14 rfl (lA ck_60 rfl rfl rfl tP tA) (.inl tK) ?_
      rintro _ _ ⟨rfl, rfl⟩
      refine D.done tK ?_
      exact K.weak tS (fun w h => h.fitD) (cont ⟨⟨qa, ca, qb, cb, qc, cc⟩, ha, hb, hc⟩)
    ·rintro _ _ ⟨rfl, rfl⟩
     refine dq1 2 rfl (kc rfl (h := clone_rw (RowF Kd.rw o.z.q1 o.x.rows) o.z.q1 o.z.c1 o.x.rows isF hl1)) (.inl tK) ?_
     rintro _ _ ⟨_, ⟨qa, ca, rfl, rfl, ha⟩, rfl⟩
     refine dq 9 rfl (qO fo_62_3 rfl)<|dq1 5 rfl (kc rfl (h := cM (RowF Kd.msg o.z.q2 o.x.msgs) o.z.q2 o.z.c2 o.x.msgs isF hl2)) (.inr (by rintro _ _ ⟨_, ⟨qb, cb, rfl, rfl, hb⟩, rfl⟩ w h; exact h.subD)) ?_
     rintro _ _ ⟨_, ⟨qb, cb, rfl, rfl, hb⟩, rfl⟩
     refine dq1 8 rfl (kc rfl (h := cM (RowF Kd.msg o.z.q3 o.x.dead) o.z.q3 o.z.c3 o.x.dead isF hl3)) (.inr (by rintro _ _ ⟨_, ⟨qc, cc, rfl, rfl, hc⟩, rfl⟩ w h; exact h.subD)) ?_
     rintro _ _ ⟨_, ⟨qc, cc, rfl, rfl, hc⟩, rfl⟩
     refine dq1N 10 rfl (lA ck_59 rfl rfl rfl tP tA) (.inl tK) ?_
     rintro _ _ ⟨rfl, rfl⟩
     refine dq 11 rfl (qO fo_62_4 rfl)<|dq1N 12 rfl (lA ck_60 rfl rfl rfl tP tA) (.inl tK) ?_
     rintro _ _ ⟨rfl, rfl⟩
     refine dq 13 rfl (qO fo_62_5 rfl)<|dq1N 14 rfl (lA ck_60 rfl rfl rfl tP tA) (.inl tK) ?_
     rintro _ _ ⟨rfl, rfl⟩
     refine D.done tK ?_
     exact K.weak tS (fun w h => h.fitD) (cont ⟨⟨qa, ca, qb, cb, qc, cc⟩, ha, hb, hc⟩)
   ·rintro _ _ ⟨rfl, rfl⟩
    refine D.all (rs := [2, 4]) tK rfl (DAll.cons rfl tK (kc rfl (h := clone_rw (RowF Kd.rw o.z.q1 o.x.rows) o.z.q1 o.z.c1 o.x.rows isF hl1)) (.inr (by rintro _ _ ⟨_, ⟨qa, ca, rfl, rfl, ha⟩, rfl⟩ w h; exact h.subD)) rfl ?_ (DAll.cons rfl tK (OpQ.loud (qD ck_60 rfl)) (.inl tK) rfl ?_ DAll.nil))
    ·rintro _ _ ⟨_, ⟨qa, ca, rfl, rfl, ha⟩, rfl⟩
     refine dq1 4 rfl (OpQ.loud (qD ck_60 rfl)) (.inl tK) ?_
     rintro _ _ ⟨rfl, rfl⟩
     refine dq 9 rfl (qO fo_62_3 rfl)<|dq1 5 rfl (kc rfl (h := cM (RowF Kd.msg o.z.q2 o.x.msgs) o.z.q2 o.z.c2 o.x.msgs isF hl2)) (.inr (by rintro _ _ ⟨_, ⟨qb, cb, rfl, rfl, hb⟩, rfl⟩ w h; exact h.subD)) ?_
     rintro _ _ ⟨_, ⟨qb, cb, rfl, rfl, hb⟩, rfl⟩
     refine dq1 8 rfl (kc rfl (h := cM (RowF Kd.msg o.z.q3 o.x.dead) o.z.q3 o.z.c3 o.x.dead isF hl3)) (.inr (by rintro _ _ ⟨_, ⟨qc, cc, rfl, rfl, hc⟩, rfl⟩ w h; exact h.subD)) ?_
     rintro _ _ ⟨_, ⟨qc, cc, rfl, rfl, hc⟩, rfl⟩
     refine dq1N 10 rfl (lA ck_59 rfl rfl rfl tP tA) (.inl tK) ?_
     rintro _ _ ⟨rfl, rfl⟩
     refine dq 11 rfl (qO fo_62_4 rfl)<|dq1N 12 rfl (lA ck_60 rfl rfl rfl tP tA) (.inl tK) ?_
     rintro _ _ ⟨rfl, rfl⟩
     refine dq 13 rfl (qO fo_62_5 rfl)<|dq1N 14 rfl (lA ck_60 rfl rfl rfl tP tA) (.inl tK) ?_
     rintro _ _ ⟨rfl, rfl⟩
     refine D.done tK ?_
     exact K.weak tS (fun w h => h.fitD) (cont ⟨⟨qa, ca, qb, cb, qc, cc⟩, ha, hb, hc⟩)
    ·rintro _ _ ⟨rfl, rfl⟩
     refine dq1 2 rfl (kc rfl (h := clone_rw (RowF Kd.rw o.z.q1 o.x.rows) o.z.q1 o.z.c1 o.x.rows isF hl1)) (.inl tK) ?_
     rintro _ _ ⟨_, ⟨qa, ca, rfl, rfl, ha⟩, rfl⟩
     refine dq 9 rfl (qO fo_62_3 rfl)<|dq1 5 rfl (kc rfl (h := cM (RowF Kd.msg o.z.q2 o.x.msgs) o.z.q2 o.z.c2 o.x.msgs isF hl2)) (.inr (by rintro _ _ ⟨_, ⟨qb, cb, rfl, rfl, hb⟩, rfl⟩ w h; exact h.subD)) ?_
     rintro _ _ ⟨_, ⟨qb, cb, rfl, rfl, hb⟩, rfl⟩
     refine dq1 8 rfl (kc rfl (h := cM (RowF Kd.msg o.z.q3 o.x.dead) o.z.q3 o.z.c3 o.x.dead isF hl3)) (.inr (by rintro _ _ ⟨_, ⟨qc, cc, rfl, rfl, hc⟩, rfl⟩ w h; exact h.subD)) ?_
     rintro _ _ ⟨_, ⟨qc, cc, rfl, rfl, hc⟩, rfl⟩
     refine dq1N 10 rfl (lA ck_59 rfl rfl rfl tP tA) (.inl tK) ?_
     rintro _ _ ⟨rfl, rfl⟩
     refine dq 11 rfl (qO fo_62_4 rfl)<|dq1N 12 rfl (lA ck_60 rfl rfl rfl tP tA) (.inl tK) ?_
     rintro _ _ ⟨rfl, rfl⟩
     refine dq 13 rfl (qO fo_62_5 rfl)<|dq1N 14 rfl (lA ck_60 rfl rfl rfl tP tA) (.inl tK) ?_
     rintro _ _ ⟨rfl, rfl⟩
     refine D.done tK ?_
     exact K.weak tS (fun w h => h.fitD) (cont ⟨⟨qa, ca, qb, cb, qc, cc⟩, ha, hb, hc⟩)
  ·rintro _ _ ⟨rfl, rfl⟩
   refine D.all (rs := [1, 7]) tK rfl (DAll.cons rfl tK (OpQ.loud (qD ck_59 rfl)) (.inr (by rintro _ _ ⟨rfl, rfl⟩ w h; exact h.subD)) rfl ?_ (DAll.cons rfl tK (OpQ.loud (qD ck_60 rfl)) (.inr (by rintro _ _ ⟨rfl, rfl⟩ w h; exact h.subD)) rfl ?_ DAll.nil))
   ·rintro _ _ ⟨rfl, rfl⟩
    refine D.all (rs := [2, 7]) tK rfl (DAll.cons rfl tK (kc rfl (h := clone_rw (RowF Kd.rw o.z.q1 o.x.rows) o.z.q1 o.z.c1 o.x.rows isF hl1)) (.inr (by rintro _ _ ⟨_, ⟨qa, ca, rfl, rfl, ha⟩, rfl⟩ w h; exact h.subD)) rfl ?_ (DAll.cons rfl tK (OpQ.loud (qD ck_60 rfl)) (.inl tK) rfl ?_ DAll.nil))
    ·rintro _ _ ⟨_, ⟨qa, ca, rfl, rfl, ha⟩, rfl⟩
     refine D.all (rs := [5, 7]) tK rfl (DAll.cons rfl tK (kc rfl (h := cM (RowF Kd.msg o.z.q2 o.x.msgs) o.z.q2 o.z.c2 o.x.msgs isF hl2)) (.inr (by rintro _ _ ⟨_, ⟨qb, cb, rfl, rfl, hb⟩, rfl⟩ w h; exact h.subD)) rfl ?_ (DAll.cons rfl tK (OpQ.loud (qD ck_60 rfl)) (.inl tK) rfl ?_ DAll.nil))
     ·rintro _ _ ⟨_, ⟨qb, cb, rfl, rfl, hb⟩, rfl⟩
      refine dq1 7 rfl (OpQ.loud (qD ck_60 rfl)) (.inl tK) ?_
      rintro _ _ ⟨rfl, rfl⟩
      refine dq 9 rfl (qO fo_62_3 rfl)<|dq1 8 rfl (kc rfl (h := cM (RowF Kd.msg o.z.q3 o.x.dead) o.z.q3 o.z.c3 o.x.dead isF hl3)) (.inr (by rintro _ _ ⟨_, ⟨qc, cc, rfl, rfl, hc⟩, rfl⟩ w h; exact h.subD)) ?_
      rintro _ _ ⟨_, ⟨qc, cc, rfl, rfl, hc⟩, rfl⟩
      refine dq1N 10 rfl (lA ck_59 rfl rfl rfl tP tA) (.inl tK) ?_
      rintro _ _ ⟨rfl, rfl⟩
      refine dq 11 rfl (qO fo_62_4 rfl)<|dq1N 12 rfl (lA ck_60 rfl rfl rfl tP tA) (.inl tK) ?_
      rintro _ _ ⟨rfl, rfl⟩
      refine dq 13 rfl (qO fo_62_5 rfl)<|dq1N 14 rfl (lA ck_60 rfl rfl rfl tP tA) (.inl tK) ?_
      rintro _ _ ⟨rfl, rfl⟩
      refine D.done tK ?_
      exact K.weak tS (fun w h => h.fitD) (cont ⟨⟨qa, ca, qb, cb, qc, cc⟩, ha, hb, hc⟩)
     ·rintro _ _ ⟨rfl, rfl⟩
      refine dq 9 rfl (qO fo_62_3 rfl)<|dq1 5 rfl (kc rfl (h := cM (RowF Kd.msg o.z.q2 o.x.msgs) o.z.q2 o.z.c2 o.x.msgs isF hl2)) (.inr (by rintro _ _ ⟨_, ⟨qb, cb, rfl, rfl, hb⟩, rfl⟩ w h; exact h.subD)) ?_
      rintro _ _ ⟨_, ⟨qb, cb, rfl, rfl, hb⟩, rfl⟩
      refine dq1 8 rfl (kc rfl (h := cM (RowF Kd.msg o.z.q3 o.x.dead) o.z.q3 o.z.c3 o.x.dead isF hl3)) (.inr (by rintro _ _ ⟨_, ⟨qc, cc, rfl, rfl, hc⟩, rfl⟩ w h; exact h.subD)) ?_
      rintro _ _ ⟨_, ⟨qc, cc, rfl, rfl, hc⟩, rfl⟩
      refine dq1N 10 rfl (lA ck_59 rfl rfl rfl tP tA) (.inl tK) ?_
      rintro _ _ ⟨rfl, rfl⟩
      refine dq 11 rfl (qO fo_62_4 rfl)<|dq1N 12 rfl (lA ck_60 rfl rfl rfl tP tA) (.inl tK) ?_
      rintro _ _ ⟨rfl, rfl⟩
      refine dq 13 rfl (qO fo_62_5 rfl)<|dq1N 14 rfl (lA ck_60 rfl rfl rfl tP tA) (.inl tK) ?_
      rintro _ _ ⟨rfl, rfl⟩
      refine D.done tK ?_
      exact K.weak tS (fun w h => h.fitD) (cont ⟨⟨qa, ca, qb, cb, qc, cc⟩, ha, hb, hc⟩)
    ·rintro _ _ ⟨rfl, rfl⟩
     refine dq1 2 rfl (kc rfl (h := clone_rw (RowF Kd.rw o.z.q1 o.x.rows) o.z.q1 o.z.c1 o.x.rows isF hl1)) (.inl tK) ?_
     rintro _ _ ⟨_, ⟨qa, ca, rfl, rfl, ha⟩, rfl⟩
     refine dq 9 rfl (qO fo_62_3 rfl)<|dq1 5 rfl (kc rfl (h := cM (RowF Kd.msg o.z.q2 o.x.msgs) o.z.q2 o.z.c2 o.x.msgs isF hl2)) (.inr (by rintro _ _ ⟨_, ⟨qb, cb, rfl, rfl, hb⟩, rfl⟩ w h; exact h.subD)) ?_
     rintro _ _ ⟨_, ⟨qb, cb, rfl, rfl, hb⟩, rfl⟩
     refine dq1 8 rfl (kc rfl (h := cM (RowF Kd.msg o.z.q3 o.x.dead) o.z.q3 o.z.c3 o.x.dead isF hl3)) (.inr (by rintro _ _ ⟨_, ⟨qc, cc, rfl, rfl, hc⟩, rfl⟩ w h; exact h.subD)) ?_
     rintro _ _ ⟨_, ⟨qc, cc, rfl, rfl, hc⟩, rfl⟩
     refine dq1N 10 rfl (lA ck_59 rfl rfl rfl tP tA) (.inl tK) ?_
     rintro _ _ ⟨rfl, rfl⟩
     refine dq 11 rfl (qO fo_62_4 rfl)<|dq1N 12 rfl (lA ck_60 rfl rfl rfl tP tA) (.inl tK) ?_
     rintro _ _ ⟨rfl, rfl⟩
     refine dq 13 rfl (qO fo_62_5 rfl)<|dq1N 14 rfl (lA ck_60 rfl rfl rfl tP tA) (.inl tK) ?_
     rintro _ _ ⟨rfl, rfl⟩
     refine D.done tK ?_
     exact K.weak tS (fun w h => h.fitD) (cont ⟨⟨qa, ca, qb, cb, qc, cc⟩, ha, hb, hc⟩)
   ·rintro _ _ ⟨rfl, rfl⟩
    refine dq1 1 rfl (OpQ.loud (qD ck_59 rfl)) (.inl tK) ?_
    rintro _ _ ⟨rfl, rfl⟩
    refine dq1 2 rfl (kc rfl (h := clone_rw (RowF Kd.rw o.z.q1 o.x.rows) o.z.q1 o.z.c1 o.x.rows isF hl1)) (.inl tK) ?_
    rintro _ _ ⟨_, ⟨qa, ca, rfl, rfl, ha⟩, rfl⟩
    refine dq 9 rfl (qO fo_62_3 rfl)<|dq1 5 rfl (kc rfl (h := cM (RowF Kd.msg o.z.q2 o.x.msgs) o.z.q2 o.z.c2 o.x.msgs isF hl2)) (.inr (by rintro _ _ ⟨_, ⟨qb, cb, rfl, rfl, hb⟩, rfl⟩ w h; exact h.subD)) ?_
    rintro _ _ ⟨_, ⟨qb, cb, rfl, rfl, hb⟩, rfl⟩
    refine dq1 8 rfl (kc rfl (h := cM (RowF Kd.msg o.z.q3 o.x.dead) o.z.q3 o.z.c3 o.x.dead isF hl3)) (.inr (by rintro _ _ ⟨_, ⟨qc, cc, rfl, rfl, hc⟩, rfl⟩ w h; exact h.subD)) ?_
    rintro _ _ ⟨_, ⟨qc, cc, rfl, rfl, hc⟩, rfl⟩
    refine dq1N 10 rfl (lA ck_59 rfl rfl rfl tP tA) (.inl tK) ?_
    rintro _ _ ⟨rfl, rfl⟩
    refine dq 11 rfl (qO fo_62_4 rfl)<|dq1N 12 rfl (lA ck_60 rfl rfl rfl tP tA) (.inl tK) ?_
    rintro _ _ ⟨rfl, rfl⟩
    refine dq 13 rfl (qO fo_62_5 rfl)<|dq1N 14 rfl (lA ck_60 rfl rfl rfl tP tA) (.inl tK) ?_
    rintro _ _ ⟨rfl, rfl⟩
    refine D.done tK ?_
    exact K.weak tS (fun w h => h.fitD) (cont ⟨⟨qa, ca, qb, cb, qc, cc⟩, ha, hb, hc⟩)
  ·rintro _ _ ⟨rfl, rfl⟩
   refine D.all (rs := [1, 4]) tK rfl (DAll.cons rfl tK (OpQ.loud (qD ck_59 rfl)) (.inr (by rintro _ _ ⟨rfl, rfl⟩ w h; exact h.subD)) rfl ?_ (DAll.cons rfl tK (OpQ.loud (qD ck_60 rfl)) (.inr (by rintro _ _ ⟨rfl, rfl⟩ w h; exact h.subD)) rfl ?_ DAll.nil))
   ·rintro _ _ ⟨rfl, rfl⟩
    refine D.all (rs := [2, 4]) tK rfl (DAll.cons rfl tK (kc rfl (h := clone_rw (RowF Kd.rw o.z.q1 o.x.rows) o.z.q1 o.z.c1 o.x.rows isF hl1)) (.inr (by rintro _ _ ⟨_, ⟨qa, ca, rfl, rfl, ha⟩, rfl⟩ w h; exact h.subD)) rfl ?_ (DAll.cons rfl tK (OpQ.loud (qD ck_60 rfl)) (.inl tK) rfl ?_ DAll.nil))
    ·rintro _ _ ⟨_, ⟨qa, ca, rfl, rfl, ha⟩, rfl⟩
     refine dq1 4 rfl (OpQ.loud (qD ck_60 rfl)) (.inl tK) ?_
     rintro _ _ ⟨rfl, rfl⟩
     refine dq 9 rfl (qO fo_62_3 rfl)<|dq1 5 rfl (kc rfl (h := cM (RowF Kd.msg o.z.q2 o.x.msgs) o.z.q2 o.z.c2 o.x.msgs isF hl2)) (.inr (by rintro _ _ ⟨_, ⟨qb, cb, rfl, rfl, hb⟩, rfl⟩ w h; exact h.subD)) ?_
     rintro _ _ ⟨_, ⟨qb, cb, rfl, rfl, hb⟩, rfl⟩
     refine dq1 8 rfl (kc rfl (h := cM (RowF Kd.msg o.z.q3 o.x.dead) o.z.q3 o.z.c3 o.x.dead isF hl3)) (.inr (by rintro _ _ ⟨_, ⟨qc, cc, rfl, rfl, hc⟩, rfl⟩ w h; exact h.subD)) ?_
     rintro _ _ ⟨_, ⟨qc, cc, rfl, rfl, hc⟩, rfl⟩
     refine dq1N 10 rfl (lA ck_59 rfl rfl rfl tP tA) (.inl tK) ?_
     rintro _ _ ⟨rfl, rfl⟩
     refine dq 11 rfl (qO fo_62_4 rfl)<|dq1N 12 rfl (lA ck_60 rfl rfl rfl tP tA) (.inl tK) ?_
     rintro _ _ ⟨rfl, rfl⟩
     refine dq 13 rfl (qO fo_62_5 rfl)<|dq1N 14 rfl (lA ck_60 rfl rfl rfl tP tA) (.inl tK) ?_
     rintro _ _ ⟨rfl, rfl⟩
     refine D.done tK ?_
     exact K.weak tS (fun w h => h.fitD) (cont ⟨⟨qa, ca, qb, cb, qc, cc⟩, ha, hb, hc⟩)
    ·rintro _ _ ⟨rfl, rfl⟩
     refine dq1 2 rfl (kc rfl (h := clone_rw (RowF Kd.rw o.z.q1 o.x.rows) o.z.q1 o.z.c1 o.x.rows isF hl1)) (.inl tK) ?_
     rintro _ _ ⟨_, ⟨qa, ca, rfl, rfl, ha⟩, rfl⟩
     refine dq 9 rfl (qO fo_62_3 rfl)<|dq1 5 rfl (kc rfl (h := cM (RowF Kd.msg o.z.q2 o.x.msgs) o.z.q2 o.z.c2 o.x.msgs isF hl2)) (.inr (by rintro _ _ ⟨_, ⟨qb, cb, rfl, rfl, hb⟩, rfl⟩ w h; exact h.subD)) ?_
     rintro _ _ ⟨_, ⟨qb, cb, rfl, rfl, hb⟩, rfl⟩
     refine dq1 8 rfl (kc rfl (h := cM (RowF Kd.msg o.z.q3 o.x.dead) o.z.q3 o.z.c3 o.x.dead isF hl3)) (.inr (by rintro _ _ ⟨_, ⟨qc, cc, rfl, rfl, hc⟩, rfl⟩ w h; exact h.subD)) ?_
     rintro _ _ ⟨_, ⟨qc, cc, rfl, rfl, hc⟩, rfl⟩
     refine dq1N 10 rfl (lA ck_59 rfl rfl rfl tP tA) (.inl tK) ?_
     rintro _ _ ⟨rfl, rfl⟩
     refine dq 11 rfl (qO fo_62_4 rfl)<|dq1N 12 rfl (lA ck_60 rfl rfl rfl tP tA) (.inl tK) ?_
     rintro _ _ ⟨rfl, rfl⟩
     refine dq 13 rfl (qO fo_62_5 rfl)<|dq1N 14 rfl (lA ck_60 rfl rfl rfl tP tA) (.inl tK) ?_
     rintro _ _ ⟨rfl, rfl⟩
     refine D.done tK ?_
     exact K.weak tS (fun w h => h.fitD) (cont ⟨⟨qa, ca, qb, cb, qc, cc⟩, ha, hb, hc⟩)
   ·rintro _ _ ⟨rfl, rfl⟩
    refine dq1 1 rfl (OpQ.loud (qD ck_59 rfl)) (.inl tK) ?_
    rintro _ _ ⟨rfl, rfl⟩
    refine dq1 2 rfl (kc rfl (h := clone_rw (RowF Kd.rw o.z.q1 o.x.rows) o.z.q1 o.z.c1 o.x.rows isF hl1)) (.inl tK) ?_
    rintro _ _ ⟨_, ⟨qa, ca, rfl, rfl, ha⟩, rfl⟩
    refine dq 9 rfl (qO fo_62_3 rfl)<|dq1 5 rfl (kc rfl (h := cM (RowF Kd.msg o.z.q2 o.x.msgs) o.z.q2 o.z.c2 o.x.msgs isF hl2)) (.inr (by rintro _ _ ⟨_, ⟨qb, cb, rfl, rfl, hb⟩, rfl⟩ w h; exact h.subD)) ?_
    rintro _ _ ⟨_, ⟨qb, cb, rfl, rfl, hb⟩, rfl⟩
    refine dq1 8 rfl (kc rfl (h := cM (RowF Kd.msg o.z.q3 o.x.dead) o.z.q3 o.z.c3 o.x.dead isF hl3)) (.inr (by rintro _ _ ⟨_, ⟨qc, cc, rfl, rfl, hc⟩, rfl⟩ w h; exact h.subD)) ?_
    rintro _ _ ⟨_, ⟨qc, cc, rfl, rfl, hc⟩, rfl⟩
    refine dq1N 10 rfl (lA ck_59 rfl rfl rfl tP tA) (.inl tK) ?_
    rintro _ _ ⟨rfl, rfl⟩
    refine dq 11 rfl (qO fo_62_4 rfl)<|dq1N 12 rfl (lA ck_60 rfl rfl rfl tP tA) (.inl tK) ?_
    rintro _ _ ⟨rfl, rfl⟩
    refine dq 13 rfl (qO fo_62_5 rfl)<|dq1N 14 rfl (lA ck_60 rfl rfl rfl tP tA) (.inl tK) ?_
    rintro _ _ ⟨rfl, rfl⟩
    refine D.done tK ?_
    exact K.weak tS (fun w h => h.fitD) (cont ⟨⟨qa, ca, qb, cb, qc, cc⟩, ha, hb, hc⟩)
theorem dd_Where (o : Oz) (id : Int) (hl : o.le 1000000000) : Fn Tryz.prog 226 [.agg o.cells.toArray, .int .i64 id].toArray (ObL o) (fun r post => r = .int .i64 (whereM o.x id) ∧ post = []) := by
 obtain ⟨hl1, hl2, hl3⟩ := hl
 refine Fn.enter (N := 17) func226 rfl ntmps226 tK rfl (fun ρ L => ?_)
 refine ky<|kl (l_box rfl rfl) ?_
 rintro _ _ ⟨b2, rfl, rfl⟩
 refine ka rfl<|zm<|ke<|kB<|ky<|kq (qO fo_62_4 rfl)<|kq (qD ck_60 rfl)<|km rfl<|kl (kc rfl (h := qu_Find (RowF Kd.msg o.z.q2 o.x.msgs) o.z.q2 o.z.c2 o.x.msgs id isF hl2)) ?_
 rintro _ _ ⟨_, ⟨rfl, rfl⟩, rfl⟩
 refine kq (q_ge rfl rfl)<|ka rfl<|zm ?_
 refine kD (s := 5) rfl (fun g5 => ?_) (fun g5 => ?_)
 ·have hr : whereM o.x id = 1 := by unfold whereM; rw [if_pos g5]
  refine ky<|ka rfl<|zm ?_
  refine kr1 func226 results226 rfl (fun w hs => ?_)
  rw [hr]
  exact ⟨_, [], rfl, ⟨rfl, rfl⟩, hs.fitD⟩
 ·refine ky<|kq (qO fo_62_5 rfl)<|kq (qD ck_60 rfl)<|km rfl<|kl (kc rfl (h := qu_Find (RowF Kd.msg o.z.q3 o.x.dead) o.z.q3 o.z.c3 o.x.dead id isF hl3)) ?_
  rintro _ _ ⟨_, ⟨rfl, rfl⟩, rfl⟩
  refine kq (q_ge rfl rfl)<|ka rfl<|zm ?_
  refine kD (s := 11) rfl (fun g11 => ?_) (fun g11 => ?_)
  ·have hr : whereM o.x id = 2 := by unfold whereM; rw [if_neg g5, if_pos g11]
   refine ky<|ka rfl<|zm ?_
   refine kr1 func226 results226 rfl (fun w hs => ?_)
   rw [hr]
   exact ⟨_, [], rfl, ⟨rfl, rfl⟩, hs.fitD⟩
  ·have hr : whereM o.x id = 0 := by unfold whereM; rw [if_neg g5, if_neg g11]
   refine za<|zd<|ky<|ka rfl<|zm ?_
   refine kr1 func226 results226 rfl (fun w hs => ?_)
   rw [hr]
   exact ⟨_, [], rfl, ⟨rfl, rfl⟩, hs.fitD⟩
set_option maxHeartbeats 3200000 in
theorem dd_Free (o : Oz) (id : Int) (tried : Bool) (hl : o.le 1000000000) (hs0 : ∀ m ∈ o.x.msgs, -9223372036854775808 ≤ m.retry) : Fn Tryz.prog 196 [.agg o.cells.toArray, .int .i64 id, .bool tried].toArray (ObL o) (fun r post => ∃ z, r = .tuple #[.agg (Oz.cells ⟨(freeO o.x id tried).1, z⟩).toArray, .bool (freeO o.x id tried).2] ∧ post = ObL ⟨(freeO o.x id tried).1, z⟩ ∧ Oz.cap ⟨(freeO o.x id tried).1, z⟩) := by
 have hl' := hl
 obtain ⟨hl1, hl2, hl3⟩ := hl
 refine Fn.enter (N := 68) func196 rfl ntmps196 tK rfl (fun ρ L => ?_)
 refine ky<|kl (l_box rfl rfl) ?_
 rintro _ _ ⟨b3, rfl, rfl⟩
 refine kl (lL zo_62) ?_
 rintro _ _ ⟨b6, rfl, rfl⟩
 refine ka rfl<|kz<|kq (qL ck_62 rfl rfl tC)<|kl (kc rfl (h := dd_clone o hl')) ?_
 rintro _ _ ⟨_, ⟨z, rfl, rfl, hcap⟩, rfl⟩
 refine kN rfl (lS ck_62 rfl rfl ⟨rfl, rfl⟩ (oz_one _) tP) ?_
 rintro _ _ ⟨rfl, rfl⟩
 refine zm<|ke ?_
 obtain ⟨qa, ca, qb, cb, qc, cc⟩ := z
 obtain ⟨ha, hb, hc⟩ := hcap
 have ha : o.x.rows.length ≤ ca := ha
 have hb : o.x.msgs.length ≤ cb := hb
 have hc : o.x.dead.length ≤ cc := hc
 refine kr<|kq (qO fo_62_4 rfl)<|kq (qD ck_60 rfl)<|km rfl<|kl (kc rfl (h := qu_Find (RowO Kd.msg 56 qb cb o.x.msgs) qb cb o.x.msgs id isO hl2)) ?_
 rintro _ _ ⟨_, ⟨rfl, rfl⟩, rfl⟩
 refine ka rfl<|zm<|ke<|ky<|km rfl<|kq (q_lt rfl rfl)<|km rfl ?_
 refine KO.dsplit 19 rfl (fun g19 => ?_) (fun g19 => ?_)
 ·have hr : freeO o.x id tried = (o.x, false) := by unfold freeO; rw [if_pos g19]
  refine zq<|zq<|zq<|zq<|zq<|zq<|zq<|kq (qT rfl rfl)<|zm<|K.yes rfl<|ky<|kq (qL ck_62 rfl rfl tC)<|kN rfl (lS ck_62 rfl rfl ⟨rfl, rfl⟩ (oz_one _) tP) ?_
  rintro _ _ ⟨rfl, rfl⟩
  refine ka rfl<|zm ?_
  refine K.ret (fn := Tryz.f196) func196 (fun a w hk hs => resCT results196 hk rfl ck_62 rfl (cP tM w hs) rfl) (fun w hs => ?_)
  rw [hr]
  exact ⟨_, ObL ⟨o.x, ⟨qa, ca, qb, cb, qc, cc⟩⟩, rfl, ⟨⟨qa, ca, qb, cb, qc, cc⟩, rfl, rfl, ha, hb, hc⟩, obO_freeze (o := ⟨o.x, ⟨qa, ca, qb, cb, qc, cc⟩⟩) (hs.fit (M := ObO ⟨o.x, ⟨qa, ca, qb, cb, qc, cc⟩⟩) tG (by repeat (first | exact Drop.refl | apply Drop.skip)))⟩
 ·obtain ⟨i, x, hx, hi, _⟩ := idxP_nat g19
  have hi : findM o.x.msgs id = (i : Int) := hi
  have hil := (List.getElem?_eq_some_iff.1 hx).1
  have hgd : o.x.msgs.getD (findM o.x.msgs id).toNat ⟨0, 0, 0, false, ⟨#[]⟩, ⟨#[]⟩⟩ = x := by rw [hi, Int.toNat_natCast]; exact gd_at hx
  have hx0 := hs0 x (List.mem_of_getElem? hx)
  refine kq (qO fo_62_4 rfl)<|kq (qD ck_60 rfl)<|km rfl<|kq (q_ix (xs := o.x.msgs) i se_60 rfl rfl hi isO tM rfl hil)<|kq (qE fo_56_3 rfl)<|kq (q_ldE (xs := o.x.msgs) ck_4 rfl isO tM hx rfl)<|kq (q_not rfl)<|kq (qF rfl rfl)<|zm ?_
  refine kT (s := 27) rfl (fun g27 => ?_) (fun g27 => ?_)
  ·have hr : freeO o.x id tried = (o.x, false) := by unfold freeO; rw [if_neg g19, hgd, if_pos (by simpa using g27)]
   refine ky<|kq (qL ck_62 rfl rfl tC)<|kN rfl (lS ck_62 rfl rfl ⟨rfl, rfl⟩ (oz_one _) tP) ?_
   rintro _ _ ⟨rfl, rfl⟩
   refine ka rfl<|zm ?_
   refine K.ret (fn := Tryz.f196) func196 (fun a w hk hs => resCT results196 hk rfl ck_62 rfl (cP tM w hs) rfl) (fun w hs => ?_)
   rw [hr]
   exact ⟨_, ObL ⟨o.x, ⟨qa, ca, qb, cb, qc, cc⟩⟩, rfl, ⟨⟨qa, ca, qb, cb, qc, cc⟩, rfl, rfl, ha, hb, hc⟩, obO_freeze (o := ⟨o.x, ⟨qa, ca, qb, cb, qc, cc⟩⟩) (hs.fit (M := ObO ⟨o.x, ⟨qa, ca, qb, cb, qc, cc⟩⟩) tG (by repeat (first | exact Drop.refl | apply Drop.skip)))⟩
  ·have hcl : ¬ x.claimed = false := by simpa using g27
   refine za<|ke<|ky<|km rfl<|kq (q_not rfl)<|zm ?_
   refine kT (s := 30) rfl (fun g30 => ?_) (fun g30 => ?_)
   ·have hr : freeO o.x id tried = ({ o.x with msgs := o.x.msgs.set i { x with claimed := false } }, true) := by unfold freeO; rw [if_neg g19, hgd, if_neg hcl, if_pos (by simpa using g30), hi]; rfl
    have hsl : (o.x.msgs.set i { x with claimed := false }).length = o.x.msgs.length := List.length_set
    refine ky<|kq (qO fo_62_4 rfl)<|kq (qD ck_60 rfl)<|km rfl<|kq (q_ix (xs := o.x.msgs) i se_60 rfl rfl hi isO tM rfl hil)<|kq (qE fo_56_3 rfl)<|kN rfl (lP (el := x) { x with claimed := false } ck_4 rfl rfl rfl tP hx tD rfl) ?_
    rintro _ _ ⟨rfl, rfl⟩
    refine kz<|kq (q_as (qL ck_62 rfl rfl tC) (show _ = Oz.cells ⟨{ o.x with msgs := o.x.msgs.set i { x with claimed := false } }, ⟨qa, ca, qb, cb, qc, cc⟩⟩ by show _ = [_, _, _, _, Value.slice qb (o.x.msgs.set i { x with claimed := false }).length cb, _]; rw [hsl]; rfl))<|kN rfl (lS ck_62 rfl rfl ⟨rfl, rfl⟩ (oz_one _) tP) ?_
    rintro _ _ ⟨rfl, rfl⟩
    refine ka rfl<|zm ?_
    refine K.ret (fn := Tryz.f196) func196 (fun a w hk hs => resCT results196 hk rfl ck_62 rfl (cP tM w hs) rfl) (fun w hs => ?_)
    rw [hr]
    exact ⟨_, ObL ⟨{ o.x with msgs := o.x.msgs.set i { x with claimed := false } }, ⟨qa, ca, qb, cb, qc, cc⟩⟩, rfl, ⟨⟨qa, ca, qb, cb, qc, cc⟩, rfl, rfl, ha, by show (o.x.msgs.set i _).length ≤ cb; rw [hsl]; exact hb, hc⟩, obO_freeze (o := ⟨{ o.x with msgs := o.x.msgs.set i { x with claimed := false } }, ⟨qa, ca, qb, cb, qc, cc⟩⟩) (hs.fit (M := ObO ⟨{ o.x with msgs := o.x.msgs.set i { x with claimed := false } }, ⟨qa, ca, qb, cb, qc, cc⟩⟩) tG (by repeat (first | exact Drop.refl | apply Drop.skip)))⟩
   ·have htr : ¬ tried = false := by simpa using g30
    refine za<|ke<|K.drawS [pv b3 62 (Oz.cells ⟨o.x, ⟨qa, ca, qb, cb, qc, cc⟩⟩), RowO Kd.msg 56 qb cb o.x.msgs] (fun _ h => h.subD) mixed<|dq 0 rfl (qO fo_62_4 rfl)<|dq 1 rfl (qD ck_60 rfl)<|dq 2 rfl (q_move rfl)<|dq 3 rfl (q_ix (xs := o.x.msgs) i se_60 rfl rfl hi isO tM rfl hil)<|dq 4 rfl (q_ldEN (xs := o.x.msgs) ck_56 rfl isO tM hx)<|dq 5 rfl (qO fo_62_2 rfl)<|dq 6 rfl (qD ck_3 rfl) ?_
    refine D.all (rs := [7, 11]) tK rfl (DAll.cons rfl tK (kc rfl (h := msg_Tried x o.x.limit hx0)) (.inr (by rintro _ _ ⟨_, ⟨rfl, rfl⟩, rfl⟩ w h; exact h.subD)) rfl ?_ (DAll.cons rfl tK (lL zo_56) (.inr (by rintro _ _ ⟨b9, rfl, rfl⟩ w h; exact h.subD)) rfl ?_ DAll.nil))
    ·rintro _ _ ⟨_, ⟨rfl, rfl⟩, rfl⟩
     refine dq 8 rfl (q_move rfl)<|dq 9 rfl (qX rfl rfl)<|dq 10 rfl (qX rfl rfl)<|dq1 11 rfl (lL zo_56) (.inr (by rintro _ _ ⟨b9, rfl, rfl⟩ w h; exact h.subD)) ?_
     rintro _ _ ⟨b9, rfl, rfl⟩
     refine dq1N 12 rfl (lS ck_56 rfl rfl ⟨rfl, rfl⟩ (msg_one _) tP) (.inr (by rintro _ _ ⟨rfl, rfl⟩ w h; exact h.subD)) ?_
     rintro _ _ ⟨rfl, rfl⟩
     refine dq 13 rfl (q_assign rfl)<|D.done tK<|ke<|ky<|km rfl<|zm ?_
     first | refine kD (s := 48) rfl (fun g48 => ?_) (fun g48 => ?_) | refine kT (s := 48) rfl (fun g48 => ?_) (fun g48 => ?_)
     ·have hr : freeO o.x id tried = ({ o.x with msgs := o.x.msgs.eraseIdx i, dead := o.x.dead ++ [x.tried] }, true) := by unfold freeO; rw [if_neg g19, hgd, if_neg hcl, if_neg htr, if_pos g48, hi]; rfl
      rw [hi]
      refine ky<|kq (qO fo_62_4 rfl)<|kq (qD ck_60 rfl)<|km rfl<|km rfl<|kq (q_add rfl rfl tN tN)<|kl (kc rfl (h := del_msg qb cb o.x.msgs i hil hb tO)) ?_
      rintro _ _ ⟨_, ⟨rfl, rfl⟩, rfl⟩
      refine kq (qO fo_62_4 rfl)<|kN rfl (lA ck_60 rfl rfl rfl tP tA) ?_
      rintro _ _ ⟨rfl, rfl⟩
      refine zm<|kr<|kq (qO fo_62_5 rfl)<|kq (qD ck_60 rfl)<|kq (qL ck_56 rfl rfl tC)<|kl (lO sz_60_1 rfl rfl ⟨rfl, rfl, rfl⟩) ?_
      rintro _ _ ⟨b59, rfl, rfl⟩
      refine kl (lX Kd.msg (ys := [x.tried]) se_60 underlying60 ⟨_, ze_msg, rfl⟩ tD rfl rfl tP isP tM rfl rfl (by show (2 * (o.x.dead.length + 1) + 768) * 64 ≤ _; omega)) ?_
      rintro _ _ ⟨pn, dn, rfl, rfl⟩
      refine kq (qO fo_62_5 rfl)<|kN rfl (lA ck_60 rfl rfl rfl tP tA) ?_
      rintro _ _ ⟨rfl, rfl⟩
      refine kz<|kq (q_as (qL ck_62 rfl rfl tC) (show _ = Oz.cells ⟨{ o.x with msgs := o.x.msgs.eraseIdx i, dead := o.x.dead ++ [x.tried] }, ⟨qa, ca, qb, cb, pn, dn⟩⟩ from rfl))<|kN rfl (lS ck_62 rfl rfl ⟨rfl, rfl⟩ (oz_one _) tP) ?_
      rintro _ _ ⟨rfl, rfl⟩
      refine ka rfl<|zm ?_
      refine K.ret (fn := Tryz.f196) func196 (fun a w hk hs => resCT results196 hk rfl ck_62 rfl (cP tM w hs) rfl) (fun w hs => ?_)
      rw [hr]
      have hc1 := rC (e := 56) (k := Kd.msg) (p := qb) (cap := cb) (xs := o.x.msgs.eraseIdx i) tM w hs
      have hc2 := rC (e := 56) (k := Kd.msg) (p := pn) (cap := dn) (xs := o.x.dead ++ [x.tried]) tM w hs
      exact ⟨_, ObL ⟨{ o.x with msgs := o.x.msgs.eraseIdx i, dead := o.x.dead ++ [x.tried] }, ⟨qa, ca, qb, cb, pn, dn⟩⟩, rfl, ⟨⟨qa, ca, qb, cb, pn, dn⟩, rfl, rfl, ha, hc1, hc2⟩, obO_freeze (o := ⟨{ o.x with msgs := o.x.msgs.eraseIdx i, dead := o.x.dead ++ [x.tried] }, ⟨qa, ca, qb, cb, pn, dn⟩⟩) (hs.fit (M := ObO ⟨{ o.x with msgs := o.x.msgs.eraseIdx i, dead := o.x.dead ++ [x.tried] }, ⟨qa, ca, qb, cb, pn, dn⟩⟩) tG (by repeat (first | exact Drop.refl | apply Drop.skip)))⟩
     ·have hr : freeO o.x id tried = ({ o.x with msgs := o.x.msgs.set i x.tried }, true) := by unfold freeO; rw [if_neg g19, hgd, if_neg hcl, if_neg htr, if_neg g48, hi]; rfl
      have hsl : (o.x.msgs.set i x.tried).length = o.x.msgs.length := List.length_set
      refine kr<|kq (qO fo_62_4 rfl)<|kq (qD ck_60 rfl)<|km rfl<|kq (qL ck_56 rfl rfl tC)<|kq (q_ix (xs := o.x.msgs) i se_60 rfl rfl hi isO tM rfl hil)<|kN rfl (l_storeEN x.tried ck_56 rfl rfl tP hil) ?_
      rintro _ _ ⟨rfl, rfl⟩
      refine kz<|kq (q_as (qL ck_62 rfl rfl tC) (show _ = Oz.cells ⟨{ o.x with msgs := o.x.msgs.set i x.tried }, ⟨qa, ca, qb, cb, qc, cc⟩⟩ by show _ = [_, _, _, _, Value.slice qb (o.x.msgs.set i x.tried).length cb, _]; rw [hsl]; rfl))<|kN rfl (lS ck_62 rfl rfl ⟨rfl, rfl⟩ (oz_one _) tP) ?_
      rintro _ _ ⟨rfl, rfl⟩
      refine ka rfl<|zm ?_
      refine K.ret (fn := Tryz.f196) func196 (fun a w hk hs => resCT results196 hk rfl ck_62 rfl (cP tM w hs) rfl) (fun w hs => ?_)
      rw [hr]
      exact ⟨_, ObL ⟨{ o.x with msgs := o.x.msgs.set i x.tried }, ⟨qa, ca, qb, cb, qc, cc⟩⟩, rfl, ⟨⟨qa, ca, qb, cb, qc, cc⟩, rfl, rfl, ha, by show (o.x.msgs.set i _).length ≤ cb; rw [hsl]; exact hb, hc⟩, obO_freeze (o := ⟨{ o.x with msgs := o.x.msgs.set i x.tried }, ⟨qa, ca, qb, cb, qc, cc⟩⟩) (hs.fit (M := ObO ⟨{ o.x with msgs := o.x.msgs.set i x.tried }, ⟨qa, ca, qb, cb, qc, cc⟩⟩) tG (by repeat (first | exact Drop.refl | apply Drop.skip)))⟩
    ·rintro _ _ ⟨b9, rfl, rfl⟩
     refine dq1 7 rfl (kc rfl (h := msg_Tried x o.x.limit hx0)) (.inr (by rintro _ _ ⟨_, ⟨rfl, rfl⟩, rfl⟩ w h; exact h.subD)) ?_
     rintro _ _ ⟨_, ⟨rfl, rfl⟩, rfl⟩
     refine dq 8 rfl (q_move rfl)<|dq 9 rfl (qX rfl rfl)<|dq 10 rfl (qX rfl rfl)<|dq1N 12 rfl (lS ck_56 rfl rfl ⟨rfl, rfl⟩ (msg_one _) tP) (.inr (by rintro _ _ ⟨rfl, rfl⟩ w h; exact h.subD)) ?_
     rintro _ _ ⟨rfl, rfl⟩
     refine dq 13 rfl (q_assign rfl)<|D.done tK<|ke<|ky<|km rfl<|zm ?_
     first | refine kD (s := 48) rfl (fun g48 => ?_) (fun g48 => ?_) | refine kT (s := 48) rfl (fun g48 => ?_) (fun g48 => ?_)
     ·have hr : freeO o.x id tried = ({ o.x with msgs := o.x.msgs.eraseIdx i, dead := o.x.dead ++ [x.tried] }, true) := by unfold freeO; rw [if_neg g19, hgd, if_neg hcl, if_neg htr, if_pos g48, hi]; rfl
      rw [hi]
      refine ky<|kq (qO fo_62_4 rfl)<|kq (qD ck_60 rfl)<|km rfl<|km rfl<|kq (q_add rfl rfl tN tN)<|kl (kc rfl (h := del_msg qb cb o.x.msgs i hil hb tO)) ?_
      rintro _ _ ⟨_, ⟨rfl, rfl⟩, rfl⟩
      refine kq (qO fo_62_4 rfl)<|kN rfl (lA ck_60 rfl rfl rfl tP tA) ?_
      rintro _ _ ⟨rfl, rfl⟩
      refine zm<|kr<|kq (qO fo_62_5 rfl)<|kq (qD ck_60 rfl)<|kq (qL ck_56 rfl rfl tC)<|kl (lO sz_60_1 rfl rfl ⟨rfl, rfl, rfl⟩) ?_
      rintro _ _ ⟨b59, rfl, rfl⟩
      refine kl (lX Kd.msg (ys := [x.tried]) se_60 underlying60 ⟨_, ze_msg, rfl⟩ tD rfl rfl tP isP tM rfl rfl (by show (2 * (o.x.dead.length + 1) + 768) * 64 ≤ _; omega)) ?_
      rintro _ _ ⟨pn, dn, rfl, rfl⟩
      refine kq (qO fo_62_5 rfl)<|kN rfl (lA ck_60 rfl rfl rfl tP tA) ?_
      rintro _ _ ⟨rfl, rfl⟩
      refine kz<|kq (q_as (qL ck_62 rfl rfl tC) (show _ = Oz.cells ⟨{ o.x with msgs := o.x.msgs.eraseIdx i, dead := o.x.dead ++ [x.tried] }, ⟨qa, ca, qb, cb, pn, dn⟩⟩ from rfl))<|kN rfl (lS ck_62 rfl rfl ⟨rfl, rfl⟩ (oz_one _) tP) ?_
      rintro _ _ ⟨rfl, rfl⟩
      refine ka rfl<|zm ?_
      refine K.ret (fn := Tryz.f196) func196 (fun a w hk hs => resCT results196 hk rfl ck_62 rfl (cP tM w hs) rfl) (fun w hs => ?_)
      rw [hr]
      have hc1 := rC (e := 56) (k := Kd.msg) (p := qb) (cap := cb) (xs := o.x.msgs.eraseIdx i) tM w hs
      have hc2 := rC (e := 56) (k := Kd.msg) (p := pn) (cap := dn) (xs := o.x.dead ++ [x.tried]) tM w hs
      exact ⟨_, ObL ⟨{ o.x with msgs := o.x.msgs.eraseIdx i, dead := o.x.dead ++ [x.tried] }, ⟨qa, ca, qb, cb, pn, dn⟩⟩, rfl, ⟨⟨qa, ca, qb, cb, pn, dn⟩, rfl, rfl, ha, hc1, hc2⟩, obO_freeze (o := ⟨{ o.x with msgs := o.x.msgs.eraseIdx i, dead := o.x.dead ++ [x.tried] }, ⟨qa, ca, qb, cb, pn, dn⟩⟩) (hs.fit (M := ObO ⟨{ o.x with msgs := o.x.msgs.eraseIdx i, dead := o.x.dead ++ [x.tried] }, ⟨qa, ca, qb, cb, pn, dn⟩⟩) tG (by repeat (first | exact Drop.refl | apply Drop.skip)))⟩
     ·have hr : freeO o.x id tried = ({ o.x with msgs := o.x.msgs.set i x.tried }, true) := by unfold freeO; rw [if_neg g19, hgd, if_neg hcl, if_neg htr, if_neg g48, hi]; rfl
      have hsl : (o.x.msgs.set i x.tried).length = o.x.msgs.length := List.length_set
      refine kr<|kq (qO fo_62_4 rfl)<|kq (qD ck_60 rfl)<|km rfl<|kq (qL ck_56 rfl rfl tC)<|kq (q_ix (xs := o.x.msgs) i se_60 rfl rfl hi isO tM rfl hil)<|kN rfl (l_storeEN x.tried ck_56 rfl rfl tP hil) ?_
      rintro _ _ ⟨rfl, rfl⟩
      refine kz<|kq (q_as (qL ck_62 rfl rfl tC) (show _ = Oz.cells ⟨{ o.x with msgs := o.x.msgs.set i x.tried }, ⟨qa, ca, qb, cb, qc, cc⟩⟩ by show _ = [_, _, _, _, Value.slice qb (o.x.msgs.set i x.tried).length cb, _]; rw [hsl]; rfl))<|kN rfl (lS ck_62 rfl rfl ⟨rfl, rfl⟩ (oz_one _) tP) ?_
      rintro _ _ ⟨rfl, rfl⟩
      refine ka rfl<|zm ?_
      refine K.ret (fn := Tryz.f196) func196 (fun a w hk hs => resCT results196 hk rfl ck_62 rfl (cP tM w hs) rfl) (fun w hs => ?_)
      rw [hr]
      exact ⟨_, ObL ⟨{ o.x with msgs := o.x.msgs.set i x.tried }, ⟨qa, ca, qb, cb, qc, cc⟩⟩, rfl, ⟨⟨qa, ca, qb, cb, qc, cc⟩, rfl, rfl, ha, by show (o.x.msgs.set i _).length ≤ cb; rw [hsl]; exact hb, hc⟩, obO_freeze (o := ⟨{ o.x with msgs := o.x.msgs.set i x.tried }, ⟨qa, ca, qb, cb, qc, cc⟩⟩) (hs.fit (M := ObO ⟨{ o.x with msgs := o.x.msgs.set i x.tried }, ⟨qa, ca, qb, cb, qc, cc⟩⟩) tG (by repeat (first | exact Drop.refl | apply Drop.skip)))⟩
theorem idxP_map {α β : Type} (p : β → Bool) (f : α → β) (l : List α) : idxP p (l.map f) = idxP (fun x => p (f x)) l := by
 unfold idxP
 rw [List.findIdx?_map]
 rfl
abbrev StO (b : Nat) (s : Sz) : List HP := [pv b 47 s.cells, RowO Kd.oz 62 s.q s.c s.l, NestF s.l]
theorem st_told (ok : Bool) (n : Int) : Fn Tryz.prog 191 [.bool ok, .int .i64 n].toArray [] (fun r post => r = .int .i64 (if ok = true then 0 else n) ∧ post = []) := by
 refine Fn.enter (N := 7) func191 rfl ntmps191 tK rfl (fun ρ L => ?_)
 refine ky<|ka rfl<|zm<|ke<|ky<|km rfl<|zm ?_
 first | refine kD (s := 5) rfl (fun g5 => ?_) (fun g5 => ?_) | refine kT (s := 5) rfl (fun g5 => ?_) (fun g5 => ?_)
 ·rw [if_pos (by simpa using g5)]
  refine ky<|ka rfl<|zm ?_
  refine kr1 func191 results191 rfl (fun w hs => ?_)
  exact ⟨_, [], rfl, ⟨rfl, rfl⟩, hs.fitD⟩
 ·rw [if_neg (by simpa using g5)]
  refine za<|ky<|km rfl<|ka rfl<|zm ?_
  refine kr1 func191 results191 rfl (fun w hs => ?_)
  exact ⟨_, [], rfl, ⟨rfl, rfl⟩, hs.fitD⟩
theorem st_next (b : Nat) (s : Sz) (n : Int) : Fn Tryz.prog 137 [.pointer (some ⟨b, 0, none⟩), .int .i64 n].toArray (StO b s) (fun r post => ∃ s' : Sz, r = .int .i64 (nextS s.st n).2 ∧ s'.st = (nextS s.st n).1 ∧ s'.q = s.q ∧ s'.c = s.c ∧ s'.l = s.l ∧ post = StO b s') := by
 obtain ⟨nx, q, c, l⟩ := s
 refine Fn.enter (N := 15) func137 rfl ntmps137 tK rfl (fun ρ L => ?_)
 refine ky<|ka rfl<|zm<|ke<|ky<|km rfl<|km rfl<|kq (qN rfl)<|kq (qO fo_47_0 rfl)<|kq (qD ck_3 rfl)<|kq (q_lt rfl rfl)<|zm ?_
 refine kD (s := 10) rfl (fun g10 => ?_) (fun g10 => ?_)
 ·have hr : nextS (Sz.st ⟨nx, q, c, l⟩) n = (Sz.st ⟨nx, q, c, l⟩, 1) := by unfold nextS; rw [if_pos (show n < (Sz.st ⟨nx, q, c, l⟩).next from g10)]
  refine ky<|ka rfl<|zm ?_
  refine kr1 func137 results137 rfl (fun w hs => ?_)
  rw [hr]
  first
   | exact ⟨_, StO b ⟨nx, q, c, l⟩, rfl, ⟨⟨nx, q, c, l⟩, rfl, rfl, rfl, rfl, rfl, rfl⟩, hs.fitD⟩
   | exact ⟨_, StO b ⟨n, q, c, l⟩, rfl, ⟨⟨n, q, c, l⟩, rfl, rfl, rfl, rfl, rfl, rfl⟩, hs.fitD⟩
 ·have hr : nextS (Sz.st ⟨nx, q, c, l⟩) n = (Sz.st ⟨n, q, c, l⟩, 0) := by unfold nextS; rw [if_neg (show ¬ n < (Sz.st ⟨nx, q, c, l⟩).next from g10)]; rfl
  refine za<|ky<|km rfl<|km rfl<|kq (qN rfl)<|kq (qO fo_47_0 rfl)<|kN rfl (lA ck_3 rfl rfl rfl tP tA) ?_
  rintro _ _ ⟨rfl, rfl⟩
  refine kz<|ka rfl<|zm ?_
  refine kr1 func137 results137 rfl (fun w hs => ?_)
  rw [hr]
  first
   | exact ⟨_, StO b ⟨nx, q, c, l⟩, rfl, ⟨⟨nx, q, c, l⟩, rfl, rfl, rfl, rfl, rfl, rfl⟩, hs.fitD⟩
   | exact ⟨_, StO b ⟨n, q, c, l⟩, rfl, ⟨⟨n, q, c, l⟩, rfl, rfl, rfl, rfl, rfl, rfl⟩, hs.fitD⟩
theorem sf1 (l : List Oz) (b : Nat) (name : ByteArray) (x : Oz) : Fn Tryz.prog 188 [.agg x.cells.toArray, .pointer (some ⟨b, 0, none⟩)].toArray [pv b 9 [.string name], NestF l] (fun v post => v = .bool (decide (x.x.name = name)) ∧ post = [pv b 9 [.string name]]) := by
 refine Fn.enter (N := 8) func188 rfl ntmps188 tK rfl (fun ρ L => ?_)
 refine ky<|kl (l_box rfl rfl) ?_
 rintro _ _ ⟨b2, rfl, rfl⟩
 refine ka rfl<|kz<|kq (qO fo_62_0 rfl)<|kq (qD ck_9 rfl)<|kq (qD ck_9 rfl)<|kq (q_seq rfl rfl)<|ka rfl<|zm ?_
 refine kr1 func188 results188 rfl (fun w hs => ?_)
 exact ⟨_, [pv b 9 [.string name]], rfl, ⟨rfl, rfl⟩, hs.fitD⟩
theorem st_Find (A : HP) (s : Sz) (name : ByteArray) (hA : IsRow A Kd.oz s.q s.l) (hl : s.l.length ≤ 1000000000) : Fn Tryz.prog 138 [.agg s.cells.toArray, .string name].toArray [A, NestF s.l] (fun r post => r = .int .i64 (findO s.st name) ∧ post = [A]) := by
 have hm : findO s.st name = idxP (fun o : Oz => decide (o.x.name = name)) s.l := idxP_map _ _ _
 refine Fn.enter (N := 9) func138 rfl ntmps138 tK rfl (fun ρ L => ?_)
 refine ky<|kl (l_box rfl rfl) ?_
 rintro _ _ ⟨b2, rfl, rfl⟩
 refine kl (l_box rfl rfl) ?_
 rintro _ _ ⟨b3, rfl, rfl⟩
 refine ka rfl<|kz<|kq (qO fo_47_1 rfl)<|kq (qD ck_45 rfl)<|kq (q_func rfl rfl)<|kl (kc rfl (h := ixg_oz A (pv b3 9 [.string name]) (NestF s.l) s.q s.c s.l hA 188 [.pointer (some ⟨b3, 0, none⟩)] (fun o => decide (o.x.name = name)) tO (fun x _ => sf1 s.l b3 name x))) ?_
 rintro _ _ ⟨_, ⟨rfl, rfl⟩, rfl⟩
 refine ka rfl<|zm ?_
 refine kr1 func138 results138 rfl (fun w hs => ?_)
 rw [hm]
 exact ⟨_, [A], rfl, ⟨rfl, rfl⟩, hs.fitD⟩
theorem sh1 (l : List Oz) (b : Nat) (id : Int) (x : Oz) (hx : x ∈ l) (hl : x.le 1000000000) : Fn Tryz.prog 225 [.agg x.cells.toArray, .pointer (some ⟨b, 0, none⟩)].toArray [pv b 3 [.int .i64 id], NestF l] (fun v post => v = .bool (decide (whereM x.x id ≠ 0)) ∧ post = [pv b 3 [.int .i64 id]]) := by
 refine Fn.enter (N := 8) func225 rfl ntmps225 tK rfl (fun ρ L => ?_)
 refine ky<|kl (l_box rfl rfl) ?_
 rintro _ _ ⟨b2, rfl, rfl⟩
 refine ka rfl<|zm<|ke<|K.st (fun w h => nA (l := l) tM hx h)<|kr<|kq (qL ck_62 rfl rfl tC)<|kq (qD ck_3 rfl)<|kl (kc rfl (h := dd_Where x id hl)) ?_
 rintro _ _ ⟨_, ⟨rfl, rfl⟩, rfl⟩
 refine kq (q_ne rfl rfl)<|ka rfl<|zm ?_
 refine kr1 func225 results225 rfl (fun w hs => ?_)
 exact ⟨_, [pv b 3 [.int .i64 id]], rfl, ⟨rfl, rfl⟩, hs.fitD⟩
theorem st_has (A : HP) (s : Sz) (id : Int) (hA : IsRow A Kd.oz s.q s.l) (hl : s.l.length ≤ 1000000000) (hle : ∀ o ∈ s.l, o.le 1000000000) : Fn Tryz.prog 212 [.agg s.cells.toArray, .int .i64 id].toArray [A, NestF s.l] (fun r post => r = .bool (hasM s.st id) ∧ post = [A]) := by
 have hm : hasM s.st id = s.l.any (fun o : Oz => decide (whereM o.x id ≠ 0)) := List.any_map
 refine Fn.enter (N := 9) func212 rfl ntmps212 tK rfl (fun ρ L => ?_)
 refine ky<|kl (l_box rfl rfl) ?_
 rintro _ _ ⟨b2, rfl, rfl⟩
 refine kl (l_box rfl rfl) ?_
 rintro _ _ ⟨b3, rfl, rfl⟩
 refine ka rfl<|kz<|kq (qO fo_47_1 rfl)<|kq (qD ck_45 rfl)<|kq (q_func rfl rfl)<|kl (kc rfl (h := cog_oz A (pv b3 3 [.int .i64 id]) (NestF s.l) s.q s.c s.l hA 225 [.pointer (some ⟨b3, 0, none⟩)] (fun o => decide (whereM o.x id ≠ 0)) tO (fun x hx => sh1 s.l b3 id x hx (hle x hx)))) ?_
 rintro _ _ ⟨_, ⟨rfl, rfl⟩, rfl⟩
 refine ka rfl<|zm ?_
 refine kr1 func212 results212 rfl (fun w hs => ?_)
 rw [hm]
 exact ⟨_, [A], rfl, ⟨rfl, rfl⟩, hs.fitD⟩
theorem sm1 (l : List Oz) (b : Nat) (e : Eff) (x : Oz) : Fn Tryz.prog 186 [.agg x.cells.toArray, .pointer (some ⟨b, 0, none⟩)].toArray [pv b 58 e.cells, NestF l] (fun v post => v = .bool (decide (0 < cmpB x.x.name e.object)) ∧ post = [pv b 58 e.cells]) := by
 refine Fn.enter (N := 10) func186 rfl ntmps186 tK rfl (fun ρ L => ?_)
 refine ky<|kl (l_box rfl rfl) ?_
 rintro _ _ ⟨b2, rfl, rfl⟩
 refine ka rfl<|kz<|kq (qO fo_62_0 rfl)<|kq (qD ck_9 rfl)<|kq (qO fo_58_1 rfl)<|kq (qD ck_9 rfl)<|kl (kc rfl (h := ord_Keys _ _)) ?_
 rintro _ _ ⟨_, ⟨rfl, rfl⟩, rfl⟩
 refine kq (q_gt rfl rfl)<|ka rfl<|zm ?_
 refine kr1 func186 results186 rfl (fun w hs => ?_)
 exact ⟨_, [pv b 58 e.cells], rfl, ⟨rfl, rfl⟩, hs.fitD⟩
set_option maxHeartbeats 1600000 in
theorem st_make1 (b : Nat) (s : Sz) (e : Eff) (hc : s.l.length ≤ s.c) (hl : s.l.length ≤ 1000000000) (hcap : ∀ o ∈ s.l, o.cap) : Fn Tryz.prog 136 [.pointer (some ⟨b, 0, none⟩), .agg e.cells.toArray].toArray (StO b s) (fun r post => ∃ s' : Sz, r = .int .i64 (makeS s.st e).2 ∧ s'.st = (makeS s.st e).1 ∧ post = StO b s' ∧ s'.l.length ≤ s'.c ∧ ∀ o ∈ s'.l, o.cap) := by
 obtain ⟨nx, q, c, l⟩ := s
 have hc : l.length ≤ c := hc
 have hl : l.length ≤ 1000000000 := hl
 have hpm : plc (fun o : Ob => decide (0 < cmpB o.name e.object)) (Sz.st ⟨nx, q, c, l⟩).objs = plc (fun o : Oz => decide (0 < cmpB o.x.name e.object)) l := by
  unfold plc
  rw [show (Sz.st ⟨nx, q, c, l⟩).objs = l.map (·.x) from rfl, idxP_map, List.length_map]
 refine Fn.enter (N := 49) func136 rfl ntmps136 tK rfl (fun ρ L => ?_)
 refine ky<|kl (l_box rfl rfl) ?_
 rintro _ _ ⟨b3, rfl, rfl⟩
 refine ka rfl<|zm<|ke<|ke<|K.drawS [pv b 47 (Sz.cells ⟨nx, q, c, l⟩), pv b3 58 e.cells] (fun _ h => h.subD) mixed<|dq 0 rfl (q_move rfl)<|dq 1 rfl (qN rfl)<|dq 2 rfl (q_as_sz (qL ck_47 rfl rfl tC) (by rfl))<|dq 3 rfl (qO fo_58_1 rfl)<|dq 4 rfl (qD ck_9 rfl)<|dq1 5 rfl (kc rfl (h := st_Find (RowO Kd.oz 62 q c l) ⟨nx, q, c, l⟩ e.object isO hl)) (.inr (by rintro _ _ ⟨_, ⟨rfl, rfl⟩, rfl⟩ w h; exact h.subD)) ?_
 rintro _ _ ⟨_, ⟨rfl, rfl⟩, rfl⟩
 refine dq 6 rfl (q_ge rfl rfl)<|D.done tK ?_
 refine kD (s := 12) rfl (fun g12 => ?_) (fun g12 => ?_)
 ·have hr : makeS (Sz.st ⟨nx, q, c, l⟩) e = (Sz.st ⟨nx, q, c, l⟩, 4) := by unfold makeS; rw [if_pos g12]
  refine ky<|ka rfl<|zm ?_
  refine kr1 func136 results136 rfl (fun w hs => ?_)
  rw [hr]
  exact ⟨_, StO b ⟨nx, q, c, l⟩, rfl, ⟨⟨nx, q, c, l⟩, rfl, rfl, rfl, hc, hcap⟩, hs.fitD⟩
 ·refine za<|ke<|ky<|km rfl<|kq (qN rfl)<|kq (qO fo_47_1 rfl)<|kq (qD ck_45 rfl)<|kq (qG underlying45 rfl)<|kq (q_ge rfl rfl)<|zm ?_
  refine kD (s := 18) rfl (fun g18 => ?_) (fun g18 => ?_)
  ·have g18 : (20 : Int) ≤ (l.length : Int) := g18
   have hr : makeS (Sz.st ⟨nx, q, c, l⟩) e = (Sz.st ⟨nx, q, c, l⟩, 6) := by unfold makeS; rw [if_neg g12, if_pos (by show 20 ≤ (l.map (·.x)).length; rw [List.length_map]; omega)]
   refine ky<|ka rfl<|zm ?_
   refine kr1 func136 results136 rfl (fun w hs => ?_)
   rw [hr]
   exact ⟨_, StO b ⟨nx, q, c, l⟩, rfl, ⟨⟨nx, q, c, l⟩, rfl, rfl, rfl, hc, hcap⟩, hs.fitD⟩
  ·have g18 : ¬ (20 : Int) ≤ (l.length : Int) := g18
   have hr0 : makeS (Sz.st ⟨nx, q, c, l⟩) e = (⟨nx, insAt (l.map (·.x)) (plc (fun o : Oz => decide (0 < cmpB o.x.name e.object)) l) ⟨e.object, e.n, e.limit, [], [], []⟩⟩, 0) := by unfold makeS; rw [if_neg g12, if_neg (by show ¬ 20 ≤ (l.map (·.x)).length; rw [List.length_map]; omega), hpm]; rfl
   refine za<|ky<|km rfl<|kq (qN rfl)<|kq (qO fo_47_1 rfl)<|kq (qD ck_45 rfl)<|kq (q_func rfl rfl)<|kl (kc rfl (h := ixg_oz (RowO Kd.oz 62 q c l) (pv b3 58 e.cells) (NestF l) q c l isO 186 [.pointer (some ⟨b3, 0, none⟩)] (fun o => decide (0 < cmpB o.x.name e.object)) tO (fun x _ => sm1 l b3 e x))) ?_
   rintro _ _ ⟨_, ⟨rfl, rfl⟩, rfl⟩
   refine ka rfl<|zm<|ke<|ky<|km rfl<|kq (q_lt rfl rfl)<|zm ?_
   refine kD (s := 26) rfl (fun g26 => ?_) (fun g26 => ?_)
   ·have hpl : plc (fun o : Oz => decide (0 < cmpB o.x.name e.object)) l = l.length := by unfold plc; rw [if_pos g26]
    rw [hpl] at hr0
    refine kr<|km rfl<|kq (qN rfl)<|kq (qO fo_47_1 rfl)<|kq (qD ck_45 rfl)<|kq (qG underlying45 rfl)<|ka rfl<|zm<|ke<|K.drawS [pv b 47 (Sz.cells ⟨nx, q, c, l⟩), pv b3 58 e.cells] (fun _ h => h.subD) mixed<|dq 0 rfl (q_move rfl)<|dq 1 rfl (q_move rfl)<|dq 2 rfl (qN rfl)<|dq 3 rfl (qO fo_47_1 rfl)<|dq 4 rfl (qD ck_45 rfl)<|dq 5 rfl (q_move rfl)<|dq 6 rfl (qO fo_58_1 rfl)<|dq 7 rfl (qD ck_9 rfl)<|dq 8 rfl (qO fo_58_4 rfl)<|dq 9 rfl (qD ck_3 rfl)<|dq 10 rfl (qO fo_58_5 rfl)<|dq 11 rfl (qD ck_3 rfl)<|dq 12 rfl (q_as_oz (rows_ := []) (msgs_ := []) (dead_ := []) (q_build st_62 rfl tF) rfl)<|dq1 13 rfl (lO sz_45_1 rfl rfl ⟨rfl, rfl, rfl⟩) (.inr (by rintro _ _ ⟨b45, rfl, rfl⟩ w h; exact h.subD)) ?_
    rintro _ _ ⟨b45, rfl, rfl⟩
    refine dq1 14 rfl (kc rfl (h := ins_oz q c l l.length b45 _ ⟨⟨e.object, e.n, e.limit, [], [], []⟩, ⟨none, 0, none, 0, none, 0⟩⟩ (Nat.le_refl _) hc hl)) (.inr (by rintro _ _ ⟨_, ⟨qn, cn, rfl, rfl, hcn⟩, rfl⟩ w h; exact h.subD)) ?_
    rintro _ _ ⟨_, ⟨qn, cn, rfl, rfl, hcn⟩, rfl⟩
    refine dq1 15 rfl (OpQ.loud (qN rfl)) (.inl tK) ?_
    rintro _ _ ⟨rfl, rfl⟩
    refine dq1 16 rfl (OpQ.loud (qO fo_47_1 rfl)) (.inl tK) ?_
    rintro _ _ ⟨rfl, rfl⟩
    refine dq1N 17 rfl (lA ck_45 rfl rfl rfl tP tA) (.inl tK) ?_
    rintro _ _ ⟨rfl, rfl⟩
    refine D.done tK<|ky<|ka rfl<|zm ?_
    refine kr1 func136 results136 rfl (fun w hs => ?_)
    rw [hr0]
    have hmem : ∀ (i : Nat) (o p : Oz), p ∈ insAt l i o → p ∈ l ∨ p = o := fun i o p hp => by
     unfold insAt at hp
     rcases List.mem_append.1 hp with hp | hp
     ·rcases List.mem_append.1 hp with hp | hp
      ·exact .inl (List.mem_of_mem_take hp)
      ·exact .inr (List.mem_singleton.1 hp)
     ·exact .inl (List.mem_of_mem_drop hp)
    exact ⟨_, StO b ⟨nx, qn, cn, insAt l _ ⟨⟨e.object, e.n, e.limit, [], [], []⟩, ⟨none, 0, none, 0, none, 0⟩⟩⟩, rfl, ⟨⟨nx, qn, cn, insAt l _ ⟨⟨e.object, e.n, e.limit, [], [], []⟩, ⟨none, 0, none, 0, none, 0⟩⟩⟩, rfl, (by
      unfold Sz.st insAt
      simp only [List.map_append, List.map_take, List.map_drop, List.map_cons, List.map_nil]), rfl, hcn, fun p hp => (hmem _ _ p hp).elim (hcap p) (fun h => by rw [h]; exact ⟨Nat.le_refl _, Nat.le_refl _, Nat.le_refl _⟩)⟩,
     (nestF_put (l := l) ⟨⟨e.object, e.n, e.limit, [], [], []⟩, ⟨none, 0, none, 0, none, 0⟩⟩ (hmem _ _) tM tM tM tM (rowF_nilA (k := Kd.rw) (rowF_nilA (k := Kd.msg) (hs.fit (M := [pv b 47 (Sz.cells ⟨nx, qn, cn, insAt l _ ⟨⟨e.object, e.n, e.limit, [], [], []⟩, ⟨none, 0, none, 0, none, 0⟩⟩⟩), RowO Kd.oz 62 qn cn (insAt l _ ⟨⟨e.object, e.n, e.limit, [], [], []⟩, ⟨none, 0, none, 0, none, 0⟩⟩), NestF l]) tG (by repeat (first | exact Drop.refl | apply Drop.skip)))))).fitD⟩
   ·obtain ⟨i, x, hx, hi, _⟩ := idxP_nat g26
    have hpl : plc (fun o : Oz => decide (0 < cmpB o.x.name e.object)) l = i := by unfold plc; rw [if_neg g26, hi]; rfl
    have hile : i ≤ l.length := by have := (List.getElem?_eq_some_iff.1 hx).1; omega
    rw [hpl] at hr0
    rw [hi]
    refine za<|ke<|K.drawS [pv b 47 (Sz.cells ⟨nx, q, c, l⟩), pv b3 58 e.cells] (fun _ h => h.subD) mixed<|dq 0 rfl (q_move rfl)<|dq 1 rfl (q_move rfl)<|dq 2 rfl (qN rfl)<|dq 3 rfl (qO fo_47_1 rfl)<|dq 4 rfl (qD ck_45 rfl)<|dq 5 rfl (q_move rfl)<|dq 6 rfl (qO fo_58_1 rfl)<|dq 7 rfl (qD ck_9 rfl)<|dq 8 rfl (qO fo_58_4 rfl)<|dq 9 rfl (qD ck_3 rfl)<|dq 10 rfl (qO fo_58_5 rfl)<|dq 11 rfl (qD ck_3 rfl)<|dq 12 rfl (q_as_oz (rows_ := []) (msgs_ := []) (dead_ := []) (q_build st_62 rfl tF) rfl)<|dq1 13 rfl (lO sz_45_1 rfl rfl ⟨rfl, rfl, rfl⟩) (.inr (by rintro _ _ ⟨b45, rfl, rfl⟩ w h; exact h.subD)) ?_
    rintro _ _ ⟨b45, rfl, rfl⟩
    refine dq1 14 rfl (kc rfl (h := ins_oz q c l i b45 _ ⟨⟨e.object, e.n, e.limit, [], [], []⟩, ⟨none, 0, none, 0, none, 0⟩⟩ hile hc hl)) (.inr (by rintro _ _ ⟨_, ⟨qn, cn, rfl, rfl, hcn⟩, rfl⟩ w h; exact h.subD)) ?_
    rintro _ _ ⟨_, ⟨qn, cn, rfl, rfl, hcn⟩, rfl⟩
    refine dq1 15 rfl (OpQ.loud (qN rfl)) (.inl tK) ?_
    rintro _ _ ⟨rfl, rfl⟩
    refine dq1 16 rfl (OpQ.loud (qO fo_47_1 rfl)) (.inl tK) ?_
    rintro _ _ ⟨rfl, rfl⟩
    refine dq1N 17 rfl (lA ck_45 rfl rfl rfl tP tA) (.inl tK) ?_
    rintro _ _ ⟨rfl, rfl⟩
    refine D.done tK<|ky<|ka rfl<|zm ?_
    refine kr1 func136 results136 rfl (fun w hs => ?_)
    rw [hr0]
    have hmem : ∀ (i : Nat) (o p : Oz), p ∈ insAt l i o → p ∈ l ∨ p = o := fun i o p hp => by
     unfold insAt at hp
     rcases List.mem_append.1 hp with hp | hp
     ·rcases List.mem_append.1 hp with hp | hp
      ·exact .inl (List.mem_of_mem_take hp)
      ·exact .inr (List.mem_singleton.1 hp)
     ·exact .inl (List.mem_of_mem_drop hp)
    exact ⟨_, StO b ⟨nx, qn, cn, insAt l _ ⟨⟨e.object, e.n, e.limit, [], [], []⟩, ⟨none, 0, none, 0, none, 0⟩⟩⟩, rfl, ⟨⟨nx, qn, cn, insAt l _ ⟨⟨e.object, e.n, e.limit, [], [], []⟩, ⟨none, 0, none, 0, none, 0⟩⟩⟩, rfl, (by
      unfold Sz.st insAt
      simp only [List.map_append, List.map_take, List.map_drop, List.map_cons, List.map_nil]), rfl, hcn, fun p hp => (hmem _ _ p hp).elim (hcap p) (fun h => by rw [h]; exact ⟨Nat.le_refl _, Nat.le_refl _, Nat.le_refl _⟩)⟩,
     (nestF_put (l := l) ⟨⟨e.object, e.n, e.limit, [], [], []⟩, ⟨none, 0, none, 0, none, 0⟩⟩ (hmem _ _) tM tM tM tM (rowF_nilA (k := Kd.rw) (rowF_nilA (k := Kd.msg) (hs.fit (M := [pv b 47 (Sz.cells ⟨nx, qn, cn, insAt l _ ⟨⟨e.object, e.n, e.limit, [], [], []⟩, ⟨none, 0, none, 0, none, 0⟩⟩⟩), RowO Kd.oz 62 qn cn (insAt l _ ⟨⟨e.object, e.n, e.limit, [], [], []⟩, ⟨none, 0, none, 0, none, 0⟩⟩), NestF l]) tG (by repeat (first | exact Drop.refl | apply Drop.skip)))))).fitD⟩
theorem row_put {q : Option Addr} {c : Nat} {l : List Oz} {i : Nat} {o' : Oz} {ρ : World} {L : List HP} {w : World} (h : St ρ ([RowO Kd.oz 62 q c (l.set i o'), NestF l] ++ ObL o' ++ L) w) : St ρ ([RowO Kd.oz 62 q c (l.set i o'), NestF (l.set i o')] ++ L) w :=
 (nestF_put (l := l) (l' := l.set i o') o' (fun p hp => List.mem_or_eq_of_mem_set hp) tM tM tM tM h).fitD
theorem set_le {l : List Oz} {i : Nat} {o' : Oz} {P : Oz → Prop} (h : ∀ o ∈ l, P o) (h' : P o') : ∀ o ∈ l.set i o', P o := fun o ho => (List.mem_or_eq_of_mem_set ho).elim (h o) (fun e => by rw [e]; exact h')
set_option maxHeartbeats 1600000 in
theorem st_add (b : Nat) (s : Sz) (i : Nat) (o : Oz) (m : Msg) (ho : s.l[i]? = some o) (hl : s.l.length ≤ 1000000000) (hle : ∀ o ∈ s.l, o.le 1000000000) : Fn Tryz.prog 192 [.pointer (some ⟨b, 0, none⟩), .pointer (some (elA s.q i 6 0)), .agg m.cells.toArray].toArray (StO b s)
  (fun r post => ∃ z, r = .int .i64 (if s.next ≤ m.id ∨ m.claimed = true then 1 else if hasM s.st m.id = true then 4 else 0) ∧ post = StO b ⟨s.next, s.q, s.c, s.l.set i ⟨(if s.next ≤ m.id ∨ m.claimed = true then o.x else if hasM s.st m.id = true then o.x else { o.x with msgs := addM o.x.msgs m }), z⟩⟩ ∧ (o.cap → Oz.cap ⟨(if s.next ≤ m.id ∨ m.claimed = true then o.x else if hasM s.st m.id = true then o.x else { o.x with msgs := addM o.x.msgs m }), z⟩)) := by
 obtain ⟨nx, q, c, l⟩ := s
 have ho : l[i]? = some o := ho
 have hol := hle o (List.mem_of_getElem? ho)
 obtain ⟨hl1, hl2, hl3⟩ := hol
 have hself : l.set i o = l := by
  obtain ⟨hi, rfl⟩ := List.getElem?_eq_some_iff.1 ho
  exact List.set_getElem_self hi
 refine Fn.enter (N := 35) func192 rfl ntmps192 tK rfl (fun ρ L => ?_)
 refine ky<|kl (l_box rfl rfl) ?_
 rintro _ _ ⟨b5, rfl, rfl⟩
 refine ka rfl<|zm<|ke<|kB<|ke<|K.drawS [pv b 47 (Sz.cells ⟨nx, q, c, l⟩), pv b5 56 m.cells] (fun _ h => h.subD) mixed<|dq 0 rfl (qO fo_56_0 rfl)<|dq 1 rfl (qD ck_3 rfl)<|dq 2 rfl (q_move rfl)<|dq 3 rfl (qN rfl)<|dq 4 rfl (qO fo_47_0 rfl)<|dq 5 rfl (qD ck_3 rfl)<|dq 6 rfl (q_ge rfl rfl)<|dq 7 rfl (q_move rfl) ?_
 refine D.dsplit 15 rfl (fun g15 => ?_) (fun g15 => ?_)
 ·have hr : (nx ≤ m.id ∨ m.claimed = true) := .inl g15
  refine dk 8 rfl<|dk 9 rfl<|dq 10 rfl (qT rfl rfl)<|dq 11 rfl (q_assign rfl)<|D.done tK<|K.yes rfl<|ky<|ka rfl<|zm ?_
  refine kr1 func192 results192 rfl (fun w hs => ?_)
  simp only [if_pos hr]
  exact ⟨_, StO b ⟨nx, q, c, l⟩, rfl, ⟨o.z, rfl, by rw [show (⟨o.x, o.z⟩ : Oz) = o from rfl, hself], fun h => h⟩, hs.fitD⟩
 ·refine dq 8 rfl (qO fo_56_3 rfl)<|dq 9 rfl (qD ck_4 rfl)<|dq 10 rfl (qF rfl rfl)<|dq 11 rfl (q_assign rfl)<|D.done tK ?_
  first | refine kD (s := 7) rfl (fun g7 => ?_) (fun g7 => ?_) | refine kT (s := 7) rfl (fun g7 => ?_) (fun g7 => ?_)
  ·have hr : (nx ≤ m.id ∨ m.claimed = true) := .inr (by simpa using g7)
   refine ky<|ka rfl<|zm ?_
   refine kr1 func192 results192 rfl (fun w hs => ?_)
   simp only [if_pos hr]
   exact ⟨_, StO b ⟨nx, q, c, l⟩, rfl, ⟨o.z, rfl, by rw [show (⟨o.x, o.z⟩ : Oz) = o from rfl, hself], fun h => h⟩, hs.fitD⟩
  ·have hr : ¬ (nx ≤ m.id ∨ m.claimed = true) := fun h => h.elim (fun h => g15 h) (fun h => by simp [h] at g7)
   refine ke<|K.drawS [pv b 47 (Sz.cells ⟨nx, q, c, l⟩), pv b5 56 m.cells] (fun _ h => h.subD) mixed<|dq 0 rfl (q_move rfl)<|dq 1 rfl (qN rfl)<|dq 2 rfl (q_as_sz (qL ck_47 rfl rfl tC) (by rfl))<|dq 3 rfl (qO fo_56_0 rfl)<|dq 4 rfl (qD ck_3 rfl)<|dq1 5 rfl (kc rfl (h := st_has (RowO Kd.oz 62 q c l) ⟨nx, q, c, l⟩ m.id isO hl hle)) (.inr (by rintro _ _ ⟨_, ⟨rfl, rfl⟩, rfl⟩ w h; exact h.subD)) ?_
   rintro _ _ ⟨_, ⟨rfl, rfl⟩, rfl⟩
   refine dq 6 rfl (q_assign rfl)<|D.done tK ?_
   refine kT (s := 19) rfl (fun g19 => ?_) (fun g19 => ?_)
   ·have hh : hasM (Sz.st ⟨nx, q, c, l⟩) m.id = true := by simpa using g19
    refine ky<|ka rfl<|zm ?_
    refine kr1 func192 results192 rfl (fun w hs => ?_)
    simp only [if_neg hr, if_pos hh]
    exact ⟨_, StO b ⟨nx, q, c, l⟩, rfl, ⟨o.z, rfl, by rw [show (⟨o.x, o.z⟩ : Oz) = o from rfl, hself], fun h => h⟩, hs.fitD⟩
   ·have hh : ¬ hasM (Sz.st ⟨nx, q, c, l⟩) m.id = true := by simpa using g19
    refine K.st (fun w h => nA (l := l) tM (List.mem_of_getElem? ho) h) ?_
    refine za<|zd<|ke<|K.drawS [pv b5 56 m.cells, RowO Kd.oz 62 q c l] (fun _ h => h.subD) mixed<|dq 0 rfl (q_move rfl)<|dq 1 rfl (q_move rfl)<|dq 2 rfl (qN rfl)<|dq 3 rfl (qE fo_62_4 rfl)<|dq 4 rfl (q_ldE (xs := l) ck_60 rfl isO tM ho rfl)<|dq 5 rfl (qL ck_56 rfl rfl tC)<|dq1 6 rfl (kc rfl (h := qu_Add o.z.q2 o.z.c2 o.x.msgs m hl2)) (.inr (by rintro _ _ ⟨_, ⟨qn, cn, rfl, rfl, hcn⟩, rfl⟩ w h; exact h.subD)) ?_
    rintro _ _ ⟨_, ⟨qn, cn, rfl, rfl, hcn⟩, rfl⟩
    refine dq1 7 rfl (OpQ.loud (qN rfl)) (.inl tK) ?_
    rintro _ _ ⟨rfl, rfl⟩
    refine dq1 8 rfl (OpQ.loud (qE fo_62_4 rfl)) (.inl tK) ?_
    rintro _ _ ⟨rfl, rfl⟩
    refine dq1N 9 rfl (lP (el := o) ⟨{ o.x with msgs := addM o.x.msgs m }, { o.z with q2 := qn, c2 := cn }⟩ ck_60 rfl rfl rfl tP ho tD rfl) (.inl tK) ?_
    rintro _ _ ⟨rfl, rfl⟩
    refine D.done tK<|ky<|ka rfl<|zm ?_
    refine kr1 func192 results192 rfl (fun w hs => ?_)
    simp only [if_neg hr, if_neg hh]
    exact ⟨_, StO b ⟨nx, q, c, l.set i ⟨{ o.x with msgs := addM o.x.msgs m }, { o.z with q2 := qn, c2 := cn }⟩⟩, rfl, ⟨{ o.z with q2 := qn, c2 := cn }, rfl, rfl, fun h => ⟨h.1, hcn, h.2.2⟩⟩, (row_put (o' := ⟨{ o.x with msgs := addM o.x.msgs m }, { o.z with q2 := qn, c2 := cn }⟩) ((rO (e := 56) (cap := cn) (k := Kd.msg) (p := qn) (xs := addM o.x.msgs m) (hs.pick tP)).fit (M := [RowO Kd.oz 62 q c (l.set i ⟨{ o.x with msgs := addM o.x.msgs m }, { o.z with q2 := qn, c2 := cn }⟩), NestF l] ++ ObL ⟨{ o.x with msgs := addM o.x.msgs m }, { o.z with q2 := qn, c2 := cn }⟩ ++ [pv b 47 (Sz.cells ⟨nx, q, c, l⟩)]) tG (by repeat (first | exact Drop.refl | apply Drop.skip)))).fit (M := StO b ⟨nx, q, c, l.set i ⟨{ o.x with msgs := addM o.x.msgs m }, { o.z with q2 := qn, c2 := cn }⟩⟩) (by dsimp only [StO, Sz.cells]; rw [List.length_set]; exact tG) (by repeat (first | exact Drop.refl | apply Drop.skip))⟩
set_option maxHeartbeats 1600000 in
theorem st_inTable (q : Option Addr) (c : Nat) (l : List Oz) (i : Nat) (o : Oz) (e : Eff) (ho : l[i]? = some o) (hol : o.le 1000000000) (hk : e.kind = 2 ∨ e.kind = 3) : Fn Tryz.prog 139 [.pointer (some (elA q i 6 0)), .agg e.cells.toArray].toArray [RowO Kd.oz 62 q c l, NestF l]
  (fun r post => ∃ z, r = .int .i64 (tableO o.x e).2 ∧ post = [RowO Kd.oz 62 q c (l.set i ⟨(tableO o.x e).1, z⟩), NestF (l.set i ⟨(tableO o.x e).1, z⟩)] ∧ (o.cap → Oz.cap ⟨(tableO o.x e).1, z⟩)) := by
 obtain ⟨hl1, hl2, hl3⟩ := hol
 refine Fn.enter (N := 37) func139 rfl ntmps139 tK rfl (fun ρ L => ?_)
 refine ky<|kl (l_box rfl rfl) ?_
 rintro _ _ ⟨b3, rfl, rfl⟩
 refine ka rfl<|zm<|ke<|ke ?_
 refine K.st (fun w h => nA (l := l) tM (List.mem_of_getElem? ho) h) ?_
 refine kr<|kq (qO fo_58_0 rfl)<|kq (qD ck_3 rfl)<|kq (q_eq rfl rfl)<|zm ?_
 refine kD (s := 8) rfl (fun g8 => ?_) (fun g8 => ?_)
 ·have hr : tableO o.x e = ({ o.x with rows := putR o.x.rows ⟨e.key, e.value⟩ }, 0) := by unfold tableO; rw [if_pos g8]
  refine ke<|K.drawS [pv b3 58 e.cells, RowO Kd.oz 62 q c l] (fun _ h => h.subD) mixed<|dq 0 rfl (q_move rfl)<|dq 1 rfl (q_move rfl)<|dq 2 rfl (qN rfl)<|dq 3 rfl (qE fo_62_3 rfl)<|dq 4 rfl (q_ldE (xs := l) ck_59 rfl isO tM ho rfl)<|dq 5 rfl (qO fo_58_2 rfl)<|dq 6 rfl (qD ck_9 rfl)<|dq 7 rfl (qO fo_58_3 rfl)<|dq 8 rfl (qD ck_9 rfl)<|dq 9 rfl (q_as_rw (q_build st_136 rfl tF) (by rfl))<|dq1 10 rfl (kc rfl (h := rw_Put o.z.q1 o.z.c1 o.x.rows ⟨e.key, e.value⟩ hl1)) (.inr (by rintro _ _ ⟨_, ⟨qn, cn, rfl, rfl, hcn⟩, rfl⟩ w h; exact h.subD)) ?_
  rintro _ _ ⟨_, ⟨qn, cn, rfl, rfl, hcn⟩, rfl⟩
  refine dq1 11 rfl (OpQ.loud (qN rfl)) (.inl tK) ?_
  rintro _ _ ⟨rfl, rfl⟩
  refine dq1 12 rfl (OpQ.loud (qE fo_62_3 rfl)) (.inl tK) ?_
  rintro _ _ ⟨rfl, rfl⟩
  refine dq1N 13 rfl (lP (el := o) ⟨{ o.x with rows := putR o.x.rows ⟨e.key, e.value⟩ }, { o.z with q1 := qn, c1 := cn }⟩ ck_59 rfl rfl rfl tP ho tD rfl) (.inl tK) ?_
  rintro _ _ ⟨rfl, rfl⟩
  refine D.done tK<|ky<|ka rfl<|zm ?_
  refine kr1 func139 results139 rfl (fun w hs => ?_)
  rw [hr]
  exact ⟨_, [RowO Kd.oz 62 q c (l.set i ⟨{ o.x with rows := putR o.x.rows ⟨e.key, e.value⟩ }, { o.z with q1 := qn, c1 := cn }⟩), NestF (l.set i ⟨{ o.x with rows := putR o.x.rows ⟨e.key, e.value⟩ }, { o.z with q1 := qn, c1 := cn }⟩)], rfl, ⟨{ o.z with q1 := qn, c1 := cn }, rfl, rfl, fun h => ⟨hcn, h.2⟩⟩, row_put (o' := ⟨{ o.x with rows := putR o.x.rows ⟨e.key, e.value⟩ }, { o.z with q1 := qn, c1 := cn }⟩) ((rO (e := 136) (cap := cn) (k := Kd.rw) (p := qn) (xs := putR o.x.rows ⟨e.key, e.value⟩) (hs.pick tP)).fit (M := [RowO Kd.oz 62 q c (l.set i ⟨{ o.x with rows := putR o.x.rows ⟨e.key, e.value⟩ }, { o.z with q1 := qn, c1 := cn }⟩), NestF l] ++ ObL ⟨{ o.x with rows := putR o.x.rows ⟨e.key, e.value⟩ }, { o.z with q1 := qn, c1 := cn }⟩) tG (by repeat (first | exact Drop.refl | apply Drop.skip)))⟩
 ·have hr : tableO o.x e = ({ o.x with rows := (cutR o.x.rows e.key).1 }, if (cutR o.x.rows e.key).2 = true then 0 else 7) := by unfold tableO; rw [if_neg g8]
  refine za<|ky<|ka rfl<|zm<|ke<|K.drawS [pv b3 58 e.cells, RowO Kd.oz 62 q c l] (fun _ h => h.subD) mixed<|dq 0 rfl (q_move rfl)<|dq 1 rfl (q_move rfl)<|dq 2 rfl (qN rfl)<|dq 3 rfl (qE fo_62_3 rfl)<|dq 4 rfl (q_ldE (xs := l) ck_59 rfl isO tM ho rfl)<|dq 5 rfl (qO fo_58_2 rfl)<|dq 6 rfl (qD ck_9 rfl)<|dq1 7 rfl (kc rfl (h := rw_Cut o.z.q1 o.z.c1 o.x.rows e.key hl1)) (.inr (by rintro _ _ ⟨_, ⟨qn, cn, rfl, rfl, hcn⟩, rfl⟩ w h; exact h.subD)) ?_
  rintro _ _ ⟨_, ⟨qn, cn, rfl, rfl, hcn⟩, rfl⟩
  refine dq 8 rfl (q_move rfl)<|dq 9 rfl (qX rfl rfl) ?_
  refine D.all (rs := [10, 11]) tK rfl (DAll.cons rfl tK (OpQ.loud (qX rfl rfl)) (.inr (by rintro _ _ ⟨rfl, rfl⟩ w h; exact h.subD)) rfl ?_ (DAll.cons rfl tK (OpQ.loud (qN rfl)) (.inl tK) rfl ?_ DAll.nil))
  ·rintro _ _ ⟨rfl, rfl⟩
   refine dq1 11 rfl (OpQ.loud (qN rfl)) (.inl tK) ?_
   rintro _ _ ⟨rfl, rfl⟩
   refine dq 12 rfl (qE fo_62_3 rfl)<|dq1N 13 rfl (lP (el := o) ⟨{ o.x with rows := (cutR o.x.rows e.key).1 }, { o.z with q1 := qn, c1 := cn }⟩ ck_59 rfl rfl rfl tP ho tD rfl) (.inl tK) ?_
   rintro _ _ ⟨rfl, rfl⟩
   refine dq1 14 rfl (OpQ.loud (q_assign rfl)) (.inl tK) ?_
   rintro _ _ ⟨rfl, rfl⟩
   refine D.done tK<|ky<|km rfl<|kl (kc rfl (h := st_told _ _)) ?_
   rintro _ _ ⟨_, ⟨rfl, rfl⟩, rfl⟩
   refine ka rfl<|zm ?_
   refine kr1 func139 results139 rfl (fun w hs => ?_)
   rw [hr]
   exact ⟨_, [RowO Kd.oz 62 q c (l.set i ⟨{ o.x with rows := (cutR o.x.rows e.key).1 }, { o.z with q1 := qn, c1 := cn }⟩), NestF (l.set i ⟨{ o.x with rows := (cutR o.x.rows e.key).1 }, { o.z with q1 := qn, c1 := cn }⟩)], rfl, ⟨{ o.z with q1 := qn, c1 := cn }, rfl, rfl, fun h => ⟨hcn, h.2⟩⟩, row_put (o' := ⟨{ o.x with rows := (cutR o.x.rows e.key).1 }, { o.z with q1 := qn, c1 := cn }⟩) ((rO (e := 136) (cap := cn) (k := Kd.rw) (p := qn) (xs := (cutR o.x.rows e.key).1) (hs.pick tP)).fit (M := [RowO Kd.oz 62 q c (l.set i ⟨{ o.x with rows := (cutR o.x.rows e.key).1 }, { o.z with q1 := qn, c1 := cn }⟩), NestF l] ++ ObL ⟨{ o.x with rows := (cutR o.x.rows e.key).1 }, { o.z with q1 := qn, c1 := cn }⟩) tG (by repeat (first | exact Drop.refl | apply Drop.skip)))⟩
  ·rintro _ _ ⟨rfl, rfl⟩
   refine dq 12 rfl (qE fo_62_3 rfl) ?_
   refine D.all (rs := [10, 13]) tK rfl (DAll.cons rfl tK (OpQ.loud (qX rfl rfl)) (.inr (by rintro _ _ ⟨rfl, rfl⟩ w h; exact h.subD)) rfl ?_ (DAll.consN rfl tK (lP (el := o) ⟨{ o.x with rows := (cutR o.x.rows e.key).1 }, { o.z with q1 := qn, c1 := cn }⟩ ck_59 rfl rfl rfl tP ho tD rfl) (.inl tK) rfl ?_ DAll.nil))
   ·rintro _ _ ⟨rfl, rfl⟩
    refine dq1N 13 rfl (lP (el := o) ⟨{ o.x with rows := (cutR o.x.rows e.key).1 }, { o.z with q1 := qn, c1 := cn }⟩ ck_59 rfl rfl rfl tP ho tD rfl) (.inl tK) ?_
    rintro _ _ ⟨rfl, rfl⟩
    refine dq1 14 rfl (OpQ.loud (q_assign rfl)) (.inl tK) ?_
    rintro _ _ ⟨rfl, rfl⟩
    refine D.done tK<|ky<|km rfl<|kl (kc rfl (h := st_told _ _)) ?_
    rintro _ _ ⟨_, ⟨rfl, rfl⟩, rfl⟩
    refine ka rfl<|zm ?_
    refine kr1 func139 results139 rfl (fun w hs => ?_)
    rw [hr]
    exact ⟨_, [RowO Kd.oz 62 q c (l.set i ⟨{ o.x with rows := (cutR o.x.rows e.key).1 }, { o.z with q1 := qn, c1 := cn }⟩), NestF (l.set i ⟨{ o.x with rows := (cutR o.x.rows e.key).1 }, { o.z with q1 := qn, c1 := cn }⟩)], rfl, ⟨{ o.z with q1 := qn, c1 := cn }, rfl, rfl, fun h => ⟨hcn, h.2⟩⟩, row_put (o' := ⟨{ o.x with rows := (cutR o.x.rows e.key).1 }, { o.z with q1 := qn, c1 := cn }⟩) ((rO (e := 136) (cap := cn) (k := Kd.rw) (p := qn) (xs := (cutR o.x.rows e.key).1) (hs.pick tP)).fit (M := [RowO Kd.oz 62 q c (l.set i ⟨{ o.x with rows := (cutR o.x.rows e.key).1 }, { o.z with q1 := qn, c1 := cn }⟩), NestF l] ++ ObL ⟨{ o.x with rows := (cutR o.x.rows e.key).1 }, { o.z with q1 := qn, c1 := cn }⟩) tG (by repeat (first | exact Drop.refl | apply Drop.skip)))⟩
   ·rintro _ _ ⟨rfl, rfl⟩
    refine dq1 10 rfl (OpQ.loud (qX rfl rfl)) (.inl tK) ?_
    rintro _ _ ⟨rfl, rfl⟩
    refine dq1 14 rfl (OpQ.loud (q_assign rfl)) (.inl tK) ?_
    rintro _ _ ⟨rfl, rfl⟩
    refine D.done tK<|ky<|km rfl<|kl (kc rfl (h := st_told _ _)) ?_
    rintro _ _ ⟨_, ⟨rfl, rfl⟩, rfl⟩
    refine ka rfl<|zm ?_
    refine kr1 func139 results139 rfl (fun w hs => ?_)
    rw [hr]
    exact ⟨_, [RowO Kd.oz 62 q c (l.set i ⟨{ o.x with rows := (cutR o.x.rows e.key).1 }, { o.z with q1 := qn, c1 := cn }⟩), NestF (l.set i ⟨{ o.x with rows := (cutR o.x.rows e.key).1 }, { o.z with q1 := qn, c1 := cn }⟩)], rfl, ⟨{ o.z with q1 := qn, c1 := cn }, rfl, rfl, fun h => ⟨hcn, h.2⟩⟩, row_put (o' := ⟨{ o.x with rows := (cutR o.x.rows e.key).1 }, { o.z with q1 := qn, c1 := cn }⟩) ((rO (e := 136) (cap := cn) (k := Kd.rw) (p := qn) (xs := (cutR o.x.rows e.key).1) (hs.pick tP)).fit (M := [RowO Kd.oz 62 q c (l.set i ⟨{ o.x with rows := (cutR o.x.rows e.key).1 }, { o.z with q1 := qn, c1 := cn }⟩), NestF l] ++ ObL ⟨{ o.x with rows := (cutR o.x.rows e.key).1 }, { o.z with q1 := qn, c1 := cn }⟩) tG (by repeat (first | exact Drop.refl | apply Drop.skip)))⟩
theorem stO_put {b : Nat} {nx : Int} {q : Option Addr} {c : Nat} {l : List Oz} {i : Nat} {o' : Oz} {ρ : World} {L : List HP} {w : World} (h : St ρ ([RowO Kd.oz 62 q c (l.set i o'), NestF l] ++ ObL o' ++ pv b 47 (Sz.cells ⟨nx, q, c, l⟩) :: L) w) : St ρ (StO b ⟨nx, q, c, l.set i o'⟩ ++ L) w := by
 have h1 := row_put h
 have e : Sz.cells ⟨nx, q, c, l.set i o'⟩ = Sz.cells ⟨nx, q, c, l⟩ := by unfold Sz.cells; rw [List.length_set]
 dsimp only [StO]
 rw [e]
 exact h1.fitD
set_option maxHeartbeats 3200000 in
theorem st_inQueue (b : Nat) (s : Sz) (i : Nat) (o : Oz) (e : Eff) (ho : s.l[i]? = some o) (hl : s.l.length ≤ 1000000000) (hle : ∀ o ∈ s.l, o.le 1000000000) (hs0 : ∀ m ∈ o.x.msgs, -9223372036854775808 ≤ m.retry) : Fn Tryz.prog 140 [.pointer (some ⟨b, 0, none⟩), .pointer (some (elA s.q i 6 0)), .agg e.cells.toArray].toArray (StO b s)
  (fun r post => ∃ z, r = .int .i64 (queueO s.st o.x e).2 ∧ post = StO b ⟨s.next, s.q, s.c, s.l.set i ⟨(queueO s.st o.x e).1, z⟩⟩ ∧ (o.cap → Oz.cap ⟨(queueO s.st o.x e).1, z⟩)) := by
 obtain ⟨nx, q, c, l⟩ := s
 have ho : l[i]? = some o := ho
 have hol := hle o (List.mem_of_getElem? ho)
 have hol' := hol
 obtain ⟨hl1, hl2, hl3⟩ := hol
 have hself : l.set i o = l := by
  obtain ⟨hi, rfl⟩ := List.getElem?_eq_some_iff.1 ho
  exact List.set_getElem_self hi
 refine Fn.enter (N := 74) func140 rfl ntmps140 tK rfl (fun ρ L => ?_)
 refine ky<|kl (l_box rfl rfl) ?_
 rintro _ _ ⟨b5, rfl, rfl⟩
 refine ka rfl<|kz<|ka rfl<|zm<|ke<|ky<|kq (qO fo_58_0 rfl)<|kq (qD ck_3 rfl)<|zm<|kB<|ky<|kq (q_eq rfl rfl)<|ka rfl<|zm ?_
 refine kD (s := 10) rfl (fun g10 => ?_) (fun g10 => ?_)
 ·have hq2 : (queueO (Sz.st ⟨nx, q, c, l⟩) o.x e).2 = (if nx ≤ e.msg.id ∨ e.msg.claimed = true then 1 else if hasM (Sz.st ⟨nx, q, c, l⟩) e.msg.id = true then 4 else 0) := by
   unfold queueO
   rw [if_pos g10]
   show (if nx ≤ e.msg.id ∨ e.msg.claimed = true then (o.x, 1) else if hasM (Sz.st ⟨nx, q, c, l⟩) e.msg.id = true then (o.x, 4) else ({ o.x with msgs := addM o.x.msgs e.msg }, 0)).2 = _
   split
   ·rfl
   ·split <;> rfl
  have hq1 : (queueO (Sz.st ⟨nx, q, c, l⟩) o.x e).1 = (if nx ≤ e.msg.id ∨ e.msg.claimed = true then o.x else if hasM (Sz.st ⟨nx, q, c, l⟩) e.msg.id = true then o.x else { o.x with msgs := addM o.x.msgs e.msg }) := by
   unfold queueO
   rw [if_pos g10]
   show (if nx ≤ e.msg.id ∨ e.msg.claimed = true then (o.x, 1) else if hasM (Sz.st ⟨nx, q, c, l⟩) e.msg.id = true then (o.x, 4) else ({ o.x with msgs := addM o.x.msgs e.msg }, 0)).1 = _
   split
   ·rfl
   ·split <;> rfl
  refine ky<|km rfl<|km rfl<|kq (qO fo_58_7 rfl)<|kq (q_ldPS sub_eff_msg msg_sz ck_56 rfl tM)<|kl (kc rfl (h := st_add b ⟨nx, q, c, l⟩ i o e.msg ho hl hle)) ?_
  rintro _ _ ⟨_, ⟨z, rfl, rfl, hz⟩, rfl⟩
  refine ka rfl<|zm ?_
  refine kr1 func140 results140 rfl (fun w hs => ?_)
  rw [hq2, hq1]
  exact ⟨_, _, rfl, ⟨z, rfl, rfl, hz⟩, hs.fitD⟩
 ·refine ky<|kq (q_eq rfl rfl)<|ka rfl<|zm ?_
  refine kD (s := 17) rfl (fun g17 => ?_) (fun g17 => ?_)
  ·have hr : queueO (Sz.st ⟨nx, q, c, l⟩) o.x e = ({ o.x with msgs := (cutM o.x.msgs e.n).1 }, if (cutM o.x.msgs e.n).2 = true then 0 else 7) := by unfold queueO; rw [if_neg g10, if_pos g17]
   refine K.st (fun w h => nA (l := l) tM (List.mem_of_getElem? ho) h) ?_
   refine K.drawS [pv b5 58 e.cells, RowO Kd.oz 62 q c l] (fun _ h => h.subD) mixed<|dq 0 rfl (q_move rfl)<|dq 1 rfl (q_move rfl)<|dq 2 rfl (qN rfl)<|dq 3 rfl (qE fo_62_4 rfl)<|dq 4 rfl (q_ldE (xs := l) ck_60 rfl isO tM ho rfl)<|dq 5 rfl (qO fo_58_4 rfl)<|dq 6 rfl (qD ck_3 rfl)<|dq1 7 rfl (kc rfl (h := qu_Cut o.z.q2 o.z.c2 o.x.msgs e.n hl2)) (.inr (by rintro _ _ ⟨_, ⟨qn, cn, rfl, rfl, hcn⟩, rfl⟩ w h; exact h.subD)) ?_
   rintro _ _ ⟨_, ⟨qn, cn, rfl, rfl, hcn⟩, rfl⟩
   refine dq 8 rfl (q_move rfl)<|dq 9 rfl (qX rfl rfl) ?_
   refine D.all (rs := [10, 11]) tK rfl (DAll.cons rfl tK (OpQ.loud (qX rfl rfl)) (.inr (by rintro _ _ ⟨rfl, rfl⟩ w h; exact h.subD)) rfl ?_ (DAll.cons rfl tK (OpQ.loud (qN rfl)) (.inl tK) rfl ?_ DAll.nil))
   ·rintro _ _ ⟨rfl, rfl⟩
    refine dq1 11 rfl (OpQ.loud (qN rfl)) (.inl tK) ?_
    rintro _ _ ⟨rfl, rfl⟩
    refine dq 12 rfl (qE fo_62_4 rfl)<|dq1N 13 rfl (lP (el := o) ⟨{ o.x with msgs := (cutM o.x.msgs e.n).1 }, { o.z with q2 := qn, c2 := cn }⟩ ck_60 rfl rfl rfl tP ho tD rfl) (.inl tK) ?_
    rintro _ _ ⟨rfl, rfl⟩
    refine dq1 14 rfl (OpQ.loud (q_assign rfl)) (.inl tK) ?_
    rintro _ _ ⟨rfl, rfl⟩
    refine D.done tK<|zd<|ky<|km rfl<|kl (kc rfl (h := st_told _ _)) ?_
    rintro _ _ ⟨_, ⟨rfl, rfl⟩, rfl⟩
    refine ka rfl<|zm ?_
    refine kr1 func140 results140 rfl (fun w hs => ?_)
    rw [hr]
    exact ⟨_, StO b ⟨nx, q, c, l.set i ⟨{ o.x with msgs := (cutM o.x.msgs e.n).1 }, { o.z with q2 := qn, c2 := cn }⟩⟩, rfl, ⟨{ o.z with q2 := qn, c2 := cn }, rfl, rfl, fun h => ⟨h.1, hcn, h.2.2⟩⟩, stO_put (o' := ⟨{ o.x with msgs := (cutM o.x.msgs e.n).1 }, { o.z with q2 := qn, c2 := cn }⟩) ((rO (e := 56) (cap := cn) (k := Kd.msg) (p := qn) (xs := (cutM o.x.msgs e.n).1) (hs.pick tP)).fit (M := [RowO Kd.oz 62 q c (l.set i ⟨{ o.x with msgs := (cutM o.x.msgs e.n).1 }, { o.z with q2 := qn, c2 := cn }⟩), NestF l] ++ ObL ⟨{ o.x with msgs := (cutM o.x.msgs e.n).1 }, { o.z with q2 := qn, c2 := cn }⟩ ++ [pv b 47 (Sz.cells ⟨nx, q, c, l⟩)]) tG (by repeat (first | exact Drop.refl | apply Drop.skip)))⟩
   ·rintro _ _ ⟨rfl, rfl⟩
    refine dq 12 rfl (qE fo_62_4 rfl) ?_
    refine D.all (rs := [10, 13]) tK rfl (DAll.cons rfl tK (OpQ.loud (qX rfl rfl)) (.inr (by rintro _ _ ⟨rfl, rfl⟩ w h; exact h.subD)) rfl ?_ (DAll.consN rfl tK (lP (el := o) ⟨{ o.x with msgs := (cutM o.x.msgs e.n).1 }, { o.z with q2 := qn, c2 := cn }⟩ ck_60 rfl rfl rfl tP ho tD rfl) (.inl tK) rfl ?_ DAll.nil))
    ·rintro _ _ ⟨rfl, rfl⟩
     refine dq1N 13 rfl (lP (el := o) ⟨{ o.x with msgs := (cutM o.x.msgs e.n).1 }, { o.z with q2 := qn, c2 := cn }⟩ ck_60 rfl rfl rfl tP ho tD rfl) (.inl tK) ?_
     rintro _ _ ⟨rfl, rfl⟩
     refine dq1 14 rfl (OpQ.loud (q_assign rfl)) (.inl tK) ?_
     rintro _ _ ⟨rfl, rfl⟩
     refine D.done tK<|zd<|ky<|km rfl<|kl (kc rfl (h := st_told _ _)) ?_
     rintro _ _ ⟨_, ⟨rfl, rfl⟩, rfl⟩
     refine ka rfl<|zm ?_
     refine kr1 func140 results140 rfl (fun w hs => ?_)
     rw [hr]
     exact ⟨_, StO b ⟨nx, q, c, l.set i ⟨{ o.x with msgs := (cutM o.x.msgs e.n).1 }, { o.z with q2 := qn, c2 := cn }⟩⟩, rfl, ⟨{ o.z with q2 := qn, c2 := cn }, rfl, rfl, fun h => ⟨h.1, hcn, h.2.2⟩⟩, stO_put (o' := ⟨{ o.x with msgs := (cutM o.x.msgs e.n).1 }, { o.z with q2 := qn, c2 := cn }⟩) ((rO (e := 56) (cap := cn) (k := Kd.msg) (p := qn) (xs := (cutM o.x.msgs e.n).1) (hs.pick tP)).fit (M := [RowO Kd.oz 62 q c (l.set i ⟨{ o.x with msgs := (cutM o.x.msgs e.n).1 }, { o.z with q2 := qn, c2 := cn }⟩), NestF l] ++ ObL ⟨{ o.x with msgs := (cutM o.x.msgs e.n).1 }, { o.z with q2 := qn, c2 := cn }⟩ ++ [pv b 47 (Sz.cells ⟨nx, q, c, l⟩)]) tG (by repeat (first | exact Drop.refl | apply Drop.skip)))⟩
    ·rintro _ _ ⟨rfl, rfl⟩
     refine dq1 10 rfl (OpQ.loud (qX rfl rfl)) (.inl tK) ?_
     rintro _ _ ⟨rfl, rfl⟩
     refine dq1 14 rfl (OpQ.loud (q_assign rfl)) (.inl tK) ?_
     rintro _ _ ⟨rfl, rfl⟩
     refine D.done tK<|zd<|ky<|km rfl<|kl (kc rfl (h := st_told _ _)) ?_
     rintro _ _ ⟨_, ⟨rfl, rfl⟩, rfl⟩
     refine ka rfl<|zm ?_
     refine kr1 func140 results140 rfl (fun w hs => ?_)
     rw [hr]
     exact ⟨_, StO b ⟨nx, q, c, l.set i ⟨{ o.x with msgs := (cutM o.x.msgs e.n).1 }, { o.z with q2 := qn, c2 := cn }⟩⟩, rfl, ⟨{ o.z with q2 := qn, c2 := cn }, rfl, rfl, fun h => ⟨h.1, hcn, h.2.2⟩⟩, stO_put (o' := ⟨{ o.x with msgs := (cutM o.x.msgs e.n).1 }, { o.z with q2 := qn, c2 := cn }⟩) ((rO (e := 56) (cap := cn) (k := Kd.msg) (p := qn) (xs := (cutM o.x.msgs e.n).1) (hs.pick tP)).fit (M := [RowO Kd.oz 62 q c (l.set i ⟨{ o.x with msgs := (cutM o.x.msgs e.n).1 }, { o.z with q2 := qn, c2 := cn }⟩), NestF l] ++ ObL ⟨{ o.x with msgs := (cutM o.x.msgs e.n).1 }, { o.z with q2 := qn, c2 := cn }⟩ ++ [pv b 47 (Sz.cells ⟨nx, q, c, l⟩)]) tG (by repeat (first | exact Drop.refl | apply Drop.skip)))⟩
  ·refine ky<|kq (q_eq rfl rfl)<|ka rfl<|zm ?_
   refine kD (s := 32) rfl (fun g32 => ?_) (fun g32 => ?_)
   ·refine K.st (fun w h => nA (l := l) tM (List.mem_of_getElem? ho) h) ?_
    refine ke<|ke<|K.drawS [pv b5 58 e.cells, RowO Kd.oz 62 q c l] (fun _ h => h.subD) mixed<|dq 0 rfl (q_move rfl)<|dq 1 rfl (qN rfl)<|dq 2 rfl (qE fo_62_4 rfl)<|dq 3 rfl (q_ldE (xs := l) ck_60 rfl isO tM ho rfl)<|dq 4 rfl (qO fo_58_4 rfl)<|dq 5 rfl (qD ck_3 rfl)<|dq1 6 rfl (kc rfl (h := qu_Find (RowF Kd.msg o.z.q2 o.x.msgs) o.z.q2 o.z.c2 o.x.msgs e.n isF hl2)) (.inr (by rintro _ _ ⟨_, ⟨rfl, rfl⟩, rfl⟩ w h; exact h.subD)) ?_
    rintro _ _ ⟨_, ⟨rfl, rfl⟩, rfl⟩
    refine dq 7 rfl (q_lt rfl rfl)<|D.done tK ?_
    refine kD (s := 41) rfl (fun g41 => ?_) (fun g41 => ?_)
    ·have hr : queueO (Sz.st ⟨nx, q, c, l⟩) o.x e = (o.x, 7) := by unfold queueO; rw [if_neg g10, if_neg g17, if_pos g32, if_pos g41]
     refine ky<|ka rfl<|zm ?_
     refine kr1 func140 results140 rfl (fun w hs => ?_)
     rw [hr]
     exact ⟨_, StO b ⟨nx, q, c, l⟩, rfl, ⟨o.z, rfl, by rw [show (⟨o.x, o.z⟩ : Oz) = o from rfl, hself], fun h => h⟩, hs.fitD⟩
    ·have hr : queueO (Sz.st ⟨nx, q, c, l⟩) o.x e = ({ o.x with msgs := (claimM o.x.msgs e.n true).1 }, if (claimM o.x.msgs e.n true).2 = true then 0 else 2) := by unfold queueO; rw [if_neg g10, if_neg g17, if_pos g32, if_neg g41]
     refine za<|ke<|K.drawS [pv b5 58 e.cells, RowO Kd.oz 62 q c l] (fun _ h => h.subD) mixed<|dq 0 rfl (q_move rfl)<|dq 1 rfl (q_move rfl)<|dq 2 rfl (qN rfl)<|dq 3 rfl (qE fo_62_4 rfl)<|dq 4 rfl (q_ldE (xs := l) ck_60 rfl isO tM ho rfl)<|dq 5 rfl (qO fo_58_4 rfl)<|dq 6 rfl (qD ck_3 rfl)<|dq1 7 rfl (kc rfl (h := qu_Claim o.z.q2 o.z.c2 o.x.msgs e.n true hl2)) (.inr (by rintro _ _ ⟨_, ⟨qn, cn, rfl, rfl, hcn⟩, rfl⟩ w h; exact h.subD)) ?_
     rintro _ _ ⟨_, ⟨qn, cn, rfl, rfl, hcn⟩, rfl⟩
     refine dq 8 rfl (q_move rfl)<|dq 9 rfl (qX rfl rfl) ?_
     refine D.all (rs := [10, 11]) tK rfl (DAll.cons rfl tK (OpQ.loud (qX rfl rfl)) (.inr (by rintro _ _ ⟨rfl, rfl⟩ w h; exact h.subD)) rfl ?_ (DAll.cons rfl tK (OpQ.loud (qN rfl)) (.inl tK) rfl ?_ DAll.nil))
     ·rintro _ _ ⟨rfl, rfl⟩
      refine dq1 11 rfl (OpQ.loud (qN rfl)) (.inl tK) ?_
      rintro _ _ ⟨rfl, rfl⟩
      refine dq 12 rfl (qE fo_62_4 rfl)<|dq1N 13 rfl (lP (el := o) ⟨{ o.x with msgs := (claimM o.x.msgs e.n true).1 }, { o.z with q2 := qn, c2 := cn }⟩ ck_60 rfl rfl rfl tP ho tD rfl) (.inl tK) ?_
      rintro _ _ ⟨rfl, rfl⟩
      refine dq1 14 rfl (OpQ.loud (q_assign rfl)) (.inl tK) ?_
      rintro _ _ ⟨rfl, rfl⟩
      refine D.done tK<|ky<|km rfl<|kl (kc rfl (h := st_told _ _)) ?_
      rintro _ _ ⟨_, ⟨rfl, rfl⟩, rfl⟩
      refine ka rfl<|zm ?_
      refine kr1 func140 results140 rfl (fun w hs => ?_)
      rw [hr]
      exact ⟨_, StO b ⟨nx, q, c, l.set i ⟨{ o.x with msgs := (claimM o.x.msgs e.n true).1 }, { o.z with q2 := qn, c2 := cn }⟩⟩, rfl, ⟨{ o.z with q2 := qn, c2 := cn }, rfl, rfl, fun h => ⟨h.1, hcn, h.2.2⟩⟩, stO_put (o' := ⟨{ o.x with msgs := (claimM o.x.msgs e.n true).1 }, { o.z with q2 := qn, c2 := cn }⟩) ((rO (e := 56) (cap := cn) (k := Kd.msg) (p := qn) (xs := (claimM o.x.msgs e.n true).1) (hs.pick tP)).fit (M := [RowO Kd.oz 62 q c (l.set i ⟨{ o.x with msgs := (claimM o.x.msgs e.n true).1 }, { o.z with q2 := qn, c2 := cn }⟩), NestF l] ++ ObL ⟨{ o.x with msgs := (claimM o.x.msgs e.n true).1 }, { o.z with q2 := qn, c2 := cn }⟩ ++ [pv b 47 (Sz.cells ⟨nx, q, c, l⟩)]) tG (by repeat (first | exact Drop.refl | apply Drop.skip)))⟩
     ·rintro _ _ ⟨rfl, rfl⟩
      refine dq 12 rfl (qE fo_62_4 rfl) ?_
      refine D.all (rs := [10, 13]) tK rfl (DAll.cons rfl tK (OpQ.loud (qX rfl rfl)) (.inr (by rintro _ _ ⟨rfl, rfl⟩ w h; exact h.subD)) rfl ?_ (DAll.consN rfl tK (lP (el := o) ⟨{ o.x with msgs := (claimM o.x.msgs e.n true).1 }, { o.z with q2 := qn, c2 := cn }⟩ ck_60 rfl rfl rfl tP ho tD rfl) (.inl tK) rfl ?_ DAll.nil))
      ·rintro _ _ ⟨rfl, rfl⟩
       refine dq1N 13 rfl (lP (el := o) ⟨{ o.x with msgs := (claimM o.x.msgs e.n true).1 }, { o.z with q2 := qn, c2 := cn }⟩ ck_60 rfl rfl rfl tP ho tD rfl) (.inl tK) ?_
       rintro _ _ ⟨rfl, rfl⟩
       refine dq1 14 rfl (OpQ.loud (q_assign rfl)) (.inl tK) ?_
       rintro _ _ ⟨rfl, rfl⟩
       refine D.done tK<|ky<|km rfl<|kl (kc rfl (h := st_told _ _)) ?_
       rintro _ _ ⟨_, ⟨rfl, rfl⟩, rfl⟩
       refine ka rfl<|zm ?_
       refine kr1 func140 results140 rfl (fun w hs => ?_)
       rw [hr]
       exact ⟨_, StO b ⟨nx, q, c, l.set i ⟨{ o.x with msgs := (claimM o.x.msgs e.n true).1 }, { o.z with q2 := qn, c2 := cn }⟩⟩, rfl, ⟨{ o.z with q2 := qn, c2 := cn }, rfl, rfl, fun h => ⟨h.1, hcn, h.2.2⟩⟩, stO_put (o' := ⟨{ o.x with msgs := (claimM o.x.msgs e.n true).1 }, { o.z with q2 := qn, c2 := cn }⟩) ((rO (e := 56) (cap := cn) (k := Kd.msg) (p := qn) (xs := (claimM o.x.msgs e.n true).1) (hs.pick tP)).fit (M := [RowO Kd.oz 62 q c (l.set i ⟨{ o.x with msgs := (claimM o.x.msgs e.n true).1 }, { o.z with q2 := qn, c2 := cn }⟩), NestF l] ++ ObL ⟨{ o.x with msgs := (claimM o.x.msgs e.n true).1 }, { o.z with q2 := qn, c2 := cn }⟩ ++ [pv b 47 (Sz.cells ⟨nx, q, c, l⟩)]) tG (by repeat (first | exact Drop.refl | apply Drop.skip)))⟩
      ·rintro _ _ ⟨rfl, rfl⟩
       refine dq1 10 rfl (OpQ.loud (qX rfl rfl)) (.inl tK) ?_
       rintro _ _ ⟨rfl, rfl⟩
       refine dq1 14 rfl (OpQ.loud (q_assign rfl)) (.inl tK) ?_
       rintro _ _ ⟨rfl, rfl⟩
       refine D.done tK<|ky<|km rfl<|kl (kc rfl (h := st_told _ _)) ?_
       rintro _ _ ⟨_, ⟨rfl, rfl⟩, rfl⟩
       refine ka rfl<|zm ?_
       refine kr1 func140 results140 rfl (fun w hs => ?_)
       rw [hr]
       exact ⟨_, StO b ⟨nx, q, c, l.set i ⟨{ o.x with msgs := (claimM o.x.msgs e.n true).1 }, { o.z with q2 := qn, c2 := cn }⟩⟩, rfl, ⟨{ o.z with q2 := qn, c2 := cn }, rfl, rfl, fun h => ⟨h.1, hcn, h.2.2⟩⟩, stO_put (o' := ⟨{ o.x with msgs := (claimM o.x.msgs e.n true).1 }, { o.z with q2 := qn, c2 := cn }⟩) ((rO (e := 56) (cap := cn) (k := Kd.msg) (p := qn) (xs := (claimM o.x.msgs e.n true).1) (hs.pick tP)).fit (M := [RowO Kd.oz 62 q c (l.set i ⟨{ o.x with msgs := (claimM o.x.msgs e.n true).1 }, { o.z with q2 := qn, c2 := cn }⟩), NestF l] ++ ObL ⟨{ o.x with msgs := (claimM o.x.msgs e.n true).1 }, { o.z with q2 := qn, c2 := cn }⟩ ++ [pv b 47 (Sz.cells ⟨nx, q, c, l⟩)]) tG (by repeat (first | exact Drop.refl | apply Drop.skip)))⟩
   ·refine ky<|kq (q_eq rfl rfl)<|ka rfl<|zm ?_
    refine kD (s := 57) rfl (fun g57 => ?_) (fun g57 => ?_)
    ·have hr : queueO (Sz.st ⟨nx, q, c, l⟩) o.x e = ((freeO o.x e.n e.tried).1, if (freeO o.x e.n e.tried).2 = true then 0 else 7) := by unfold queueO; rw [if_neg g10, if_neg g17, if_neg g32, if_pos g57]
     refine K.st (fun w h => nA (l := l) tM (List.mem_of_getElem? ho) h) ?_
     refine K.drawS [pv b5 58 e.cells, RowO Kd.oz 62 q c l] (fun _ h => h.subD) mixed<|dq 0 rfl (q_move rfl)<|dq 1 rfl (q_move rfl)<|dq 2 rfl (qN rfl)<|dq 3 rfl (q_ldEN (xs := l) (enc := Oz.cells) ck_62 rfl isO tM ho)<|dq 4 rfl (qO fo_58_4 rfl)<|dq 5 rfl (qD ck_3 rfl)<|dq 6 rfl (qO fo_58_6 rfl)<|dq 7 rfl (qD ck_4 rfl)<|dq1 8 rfl (kc rfl (h := dd_Free o e.n e.tried hol' hs0)) (.inr (by rintro _ _ ⟨_, ⟨z, rfl, rfl, hz⟩, rfl⟩ w h; exact h.subD)) ?_
     rintro _ _ ⟨_, ⟨z, rfl, rfl, hz⟩, rfl⟩
     refine dq 9 rfl (q_move rfl)<|dq 10 rfl (qX rfl rfl) ?_
     refine D.all (rs := [11, 12]) tK rfl (DAll.cons rfl tK (OpQ.loud (qX rfl rfl)) (.inr (by rintro _ _ ⟨rfl, rfl⟩ w h; exact h.subD)) rfl ?_ (DAll.cons rfl tK (OpQ.loud (qN rfl)) (.inl tK) rfl ?_ DAll.nil))
     ·rintro _ _ ⟨rfl, rfl⟩
      refine dq1 12 rfl (OpQ.loud (qN rfl)) (.inl tK) ?_
      rintro _ _ ⟨rfl, rfl⟩
      refine dq1N 13 rfl (l_storeEN ⟨(freeO o.x e.n e.tried).1, z⟩ ck_62 rfl rfl tP (List.getElem?_eq_some_iff.1 ho).1) (.inl tK) ?_
      rintro _ _ ⟨rfl, rfl⟩
      refine dq1 14 rfl (OpQ.loud (q_assign rfl)) (.inl tK) ?_
      rintro _ _ ⟨rfl, rfl⟩
      refine D.done tK<|zd<|ky<|km rfl<|kl (kc rfl (h := st_told _ _)) ?_
      rintro _ _ ⟨_, ⟨rfl, rfl⟩, rfl⟩
      refine ka rfl<|zm ?_
      refine kr1 func140 results140 rfl (fun w hs => ?_)
      rw [hr]
      exact ⟨_, StO b ⟨nx, q, c, l.set i ⟨(freeO o.x e.n e.tried).1, z⟩⟩, rfl, ⟨z, rfl, rfl, fun _ => hz⟩, stO_put (o' := ⟨(freeO o.x e.n e.tried).1, z⟩) (hs.fit (M := [RowO Kd.oz 62 q c (l.set i ⟨(freeO o.x e.n e.tried).1, z⟩), NestF l] ++ ObL ⟨(freeO o.x e.n e.tried).1, z⟩ ++ [pv b 47 (Sz.cells ⟨nx, q, c, l⟩)]) tG (by repeat (first | exact Drop.refl | apply Drop.skip)))⟩
     ·rintro _ _ ⟨rfl, rfl⟩
      refine D.all (rs := [11, 13]) tK rfl (DAll.cons rfl tK (OpQ.loud (qX rfl rfl)) (.inl tK) rfl ?_ (DAll.consN rfl tK (l_storeEN ⟨(freeO o.x e.n e.tried).1, z⟩ ck_62 rfl rfl tP (List.getElem?_eq_some_iff.1 ho).1) (.inl tK) rfl ?_ DAll.nil))
      ·rintro _ _ ⟨rfl, rfl⟩
       refine dq1N 13 rfl (l_storeEN ⟨(freeO o.x e.n e.tried).1, z⟩ ck_62 rfl rfl tP (List.getElem?_eq_some_iff.1 ho).1) (.inl tK) ?_
       rintro _ _ ⟨rfl, rfl⟩
       refine dq1 14 rfl (OpQ.loud (q_assign rfl)) (.inl tK) ?_
       rintro _ _ ⟨rfl, rfl⟩
       refine D.done tK<|zd<|ky<|km rfl<|kl (kc rfl (h := st_told _ _)) ?_
       rintro _ _ ⟨_, ⟨rfl, rfl⟩, rfl⟩
       refine ka rfl<|zm ?_
       refine kr1 func140 results140 rfl (fun w hs => ?_)
       rw [hr]
       exact ⟨_, StO b ⟨nx, q, c, l.set i ⟨(freeO o.x e.n e.tried).1, z⟩⟩, rfl, ⟨z, rfl, rfl, fun _ => hz⟩, stO_put (o' := ⟨(freeO o.x e.n e.tried).1, z⟩) (hs.fit (M := [RowO Kd.oz 62 q c (l.set i ⟨(freeO o.x e.n e.tried).1, z⟩), NestF l] ++ ObL ⟨(freeO o.x e.n e.tried).1, z⟩ ++ [pv b 47 (Sz.cells ⟨nx, q, c, l⟩)]) tG (by repeat (first | exact Drop.refl | apply Drop.skip)))⟩
      ·rintro _ _ ⟨rfl, rfl⟩
       refine dq1 11 rfl (OpQ.loud (qX rfl rfl)) (.inl tK) ?_
       rintro _ _ ⟨rfl, rfl⟩
       refine dq1 14 rfl (OpQ.loud (q_assign rfl)) (.inl tK) ?_
       rintro _ _ ⟨rfl, rfl⟩
       refine D.done tK<|zd<|ky<|km rfl<|kl (kc rfl (h := st_told _ _)) ?_
       rintro _ _ ⟨_, ⟨rfl, rfl⟩, rfl⟩
       refine ka rfl<|zm ?_
       refine kr1 func140 results140 rfl (fun w hs => ?_)
       rw [hr]
       exact ⟨_, StO b ⟨nx, q, c, l.set i ⟨(freeO o.x e.n e.tried).1, z⟩⟩, rfl, ⟨z, rfl, rfl, fun _ => hz⟩, stO_put (o' := ⟨(freeO o.x e.n e.tried).1, z⟩) (hs.fit (M := [RowO Kd.oz 62 q c (l.set i ⟨(freeO o.x e.n e.tried).1, z⟩), NestF l] ++ ObL ⟨(freeO o.x e.n e.tried).1, z⟩ ++ [pv b 47 (Sz.cells ⟨nx, q, c, l⟩)]) tG (by repeat (first | exact Drop.refl | apply Drop.skip)))⟩
    ·have hr : queueO (Sz.st ⟨nx, q, c, l⟩) o.x e = (o.x, 7) := by unfold queueO; rw [if_neg g10, if_neg g17, if_neg g32, if_neg g57]
     refine za<|zd<|ky<|km rfl<|kl (kc rfl (h := st_told _ _)) ?_
     rintro _ _ ⟨_, ⟨rfl, rfl⟩, rfl⟩
     refine ka rfl<|zm ?_
     refine kr1 func140 results140 rfl (fun w hs => ?_)
     rw [hr]
     exact ⟨_, StO b ⟨nx, q, c, l⟩, rfl, ⟨o.z, rfl, by rw [show (⟨o.x, o.z⟩ : Oz) = o from rfl, hself], fun h => h⟩, hs.fitD⟩
theorem findO_nat {s : Sz} {name : ByteArray} (h : ¬ findO s.st name < 0) : ∃ (i : Nat) (o : Oz), s.l[i]? = some o ∧ findO s.st name = (i : Int) ∧ s.st.objs.getD (findO s.st name).toNat Ob.zero = o.x := by
 have hm : findO s.st name = idxP (fun o : Oz => decide (o.x.name = name)) s.l := idxP_map _ _ _
 rw [hm] at h
 obtain ⟨i, o, ho, hi, _⟩ := idxP_nat h
 refine ⟨i, o, ho, hm.trans hi, ?_⟩
 rw [hm, hi, Int.toNat_natCast]
 refine gd_at ?_
 show (s.l.map (·.x))[i]? = _
 rw [List.getElem?_map, ho]
 rfl
set_option maxHeartbeats 3200000 in
theorem st_do (b : Nat) (s : Sz) (e : Eff) (hc : s.l.length ≤ s.c) (hl : s.l.length ≤ 1000000000) (hle : ∀ o ∈ s.l, o.le 1000000000) (hcap : ∀ o ∈ s.l, o.cap) (hs0 : ∀ o ∈ s.l, ∀ m ∈ o.x.msgs, -9223372036854775808 ≤ m.retry) : Fn Tryz.prog 72 [.pointer (some ⟨b, 0, none⟩), .agg e.cells.toArray].toArray (StO b s)
  (fun r post => ∃ s' : Sz, r = .int .i64 (doS s.st e).2 ∧ s'.st = (doS s.st e).1 ∧ post = StO b s' ∧ s'.l.length ≤ s'.c ∧ ∀ o ∈ s'.l, o.cap) := by
 refine Fn.enter (N := 64) func72 rfl ntmps72 tK rfl (fun ρ L => ?_)
 refine ky<|kl (l_box rfl rfl) ?_
 rintro _ _ ⟨b3, rfl, rfl⟩
 refine ka rfl<|zm<|ke<|kB<|ky<|kq (qL ck_58 rfl rfl tC)<|kl (kc rfl (h := eff_Right e)) ?_
 rintro _ _ ⟨_, ⟨rfl, rfl⟩, rfl⟩
 refine kq (q_not rfl)<|ka rfl<|zm ?_
 refine kT (s := 8) rfl (fun g8 => ?_) (fun g8 => ?_)
 ·have her : e.right = false := by simpa using g8
  have hr : doS s.st e = (s.st, 1) := by unfold doS; rw [if_pos her]
  refine ky<|ka rfl<|zm ?_
  refine kr1 func72 results72 rfl (fun w hs => ?_)
  rw [hr]
  exact ⟨_, StO b s, rfl, ⟨s, rfl, rfl, rfl, hc, hcap⟩, hs.fitD⟩
 ·have her : ¬ e.right = false := by simpa using g8
  refine ky<|kq (qO fo_58_0 rfl)<|kq (qD ck_3 rfl)<|kq (q_eq rfl rfl)<|ka rfl<|zm ?_
  refine kD (s := 12) rfl (fun g12 => ?_) (fun g12 => ?_)
  ·have hr : doS s.st e = makeS s.st e := by unfold doS; rw [if_neg her, if_pos g12]
   refine ky<|km rfl<|kq (qL ck_58 rfl rfl tC)<|kl (kc rfl (h := st_make1 b s e hc hl hcap)) ?_
   rintro _ _ ⟨_, ⟨s', rfl, hs1, rfl, hs2, hs3⟩, rfl⟩
   refine ka rfl<|zm ?_
   refine kr1 func72 results72 rfl (fun w hs => ?_)
   rw [hr]
   exact ⟨_, StO b s', rfl, ⟨s', rfl, hs1, rfl, hs2, hs3⟩, hs.fitD⟩
  ·refine ky<|kq (qO fo_58_0 rfl)<|kq (qD ck_3 rfl)<|kq (q_eq rfl rfl)<|ka rfl<|zm ?_
   refine kD (s := 19) rfl (fun g19 => ?_) (fun g19 => ?_)
   ·have hr : doS s.st e = nextS s.st e.n := by unfold doS; rw [if_neg her, if_neg g12, if_pos g19]
    refine ky<|km rfl<|kq (qO fo_58_4 rfl)<|kq (qD ck_3 rfl)<|kl (kc rfl (h := st_next b s e.n)) ?_
    rintro _ _ ⟨_, ⟨s', rfl, hs1, hq', hc', hl', rfl⟩, rfl⟩
    refine ka rfl<|zm ?_
    refine kr1 func72 results72 rfl (fun w hs => ?_)
    rw [hr]
    exact ⟨_, StO b s', rfl, ⟨s', rfl, hs1, rfl, by rw [hl', hc']; exact hc, by rw [hl']; exact hcap⟩, hs.fitD⟩
   ·refine za<|zd<|ke<|K.drawS [pv b 47 s.cells, pv b3 58 e.cells] (fun _ h => h.subD) mixed<|dq 0 rfl (q_move rfl)<|dq 1 rfl (qN rfl)<|dq 2 rfl (qL ck_47 rfl rfl tC)<|dq 3 rfl (qO fo_58_1 rfl)<|dq 4 rfl (qD ck_9 rfl)<|dq1 5 rfl (kc rfl (h := st_Find (RowO Kd.oz 62 s.q s.c s.l) s e.object isO hl)) (.inr (by rintro _ _ ⟨_, ⟨rfl, rfl⟩, rfl⟩ w h; exact h.subD)) ?_
    rintro _ _ ⟨_, ⟨rfl, rfl⟩, rfl⟩
    refine dq 6 rfl (q_assign rfl)<|D.done tK<|ke<|ky<|km rfl<|kq (q_lt rfl rfl)<|zm ?_
    refine kD (s := 34) rfl (fun g34 => ?_) (fun g34 => ?_)
    ·have hr : doS s.st e = (s.st, 3) := by unfold doS; rw [if_neg her, if_neg g12, if_neg g19, if_pos g34]
     refine ky<|ka rfl<|zm ?_
     refine kr1 func72 results72 rfl (fun w hs => ?_)
     rw [hr]
     exact ⟨_, StO b s, rfl, ⟨s, rfl, rfl, rfl, hc, hcap⟩, hs.fitD⟩
    ·obtain ⟨i, o, ho, hi, hgd⟩ := findO_nat g34
     have hil := (List.getElem?_eq_some_iff.1 ho).1
     have hmo := List.mem_of_getElem? ho
     have hb := fun h5 => show doS s.st e = (s.st, 5) by unfold doS; rw [if_neg her, if_neg g12, if_neg g19, if_neg g34, hgd, if_pos h5]
     have ht := fun h5 h6 => show doS s.st e = (⟨s.st.next, s.st.objs.set i (tableO o.x e).1⟩, (tableO o.x e).2) by unfold doS; rw [if_neg her, if_neg g12, if_neg g19, if_neg g34, hgd, if_neg h5, if_pos h6, hi]; rfl
     have hqq := fun h5 h6 => show doS s.st e = (⟨s.st.next, s.st.objs.set i (queueO s.st o.x e).1⟩, (queueO s.st o.x e).2) by unfold doS; rw [if_neg her, if_neg g12, if_neg g19, if_neg g34, hgd, if_neg h5, if_neg h6, hi]; rfl
     have hset : ∀ o' : Oz, Sz.st ⟨s.next, s.q, s.c, s.l.set i o'⟩ = ⟨s.st.next, s.st.objs.set i o'.x⟩ := fun o' => by unfold Sz.st; dsimp only; rw [List.map_set]
     refine za<|ky<|km rfl<|kq (qN rfl)<|kq (qO fo_47_1 rfl)<|kq (qD ck_45 rfl)<|km rfl<|kq (q_ix (xs := s.l) i se_45 rfl rfl hi isO tM rfl hil)<|ka rfl<|kz<|kq (qO fo_58_0 rfl)<|kq (qD ck_3 rfl)<|kq (q_eq rfl rfl)<|km rfl ?_
     refine KO.dsplit 44 rfl (fun g44 => ?_) (fun g44 => ?_)
     ·refine zq<|zq<|zq<|kq (qT rfl rfl)<|ka rfl<|zm<|ke<|ky<|km rfl<|km rfl<|kq (qN rfl)<|kq (qE fo_62_1 rfl)<|kq (q_ldE (xs := s.l) ck_3 rfl isO tM ho rfl)<|kq (q_eq rfl rfl)<|kq (q_bne underlying4 rfl rfl)<|zm ?_
      refine kT (s := 55) rfl (fun g55 => ?_) (fun g55 => ?_)
      ·have hr := hb (by rw [decide_eq_true (Or.inl g44)]; simpa using g55)
       refine ky<|ka rfl<|zm ?_
       refine kr1 func72 results72 rfl (fun w hs => ?_)
       rw [hr]
       exact ⟨_, StO b s, rfl, ⟨s, rfl, rfl, rfl, hc, hcap⟩, hs.fitD⟩
      ·have hr := ht (by rw [decide_eq_true (Or.inl g44)]; simpa using g55) (.inl g44)
       refine za<|ke<|ky<|km rfl<|zm<|K.yes rfl<|ky<|km rfl<|kq (qL ck_58 rfl rfl tC) ?_
       refine kl (kc rfl (h := st_inTable s.q s.c s.l i o e ho (hle o hmo) (by first | exact .inl g44 | exact hk))) ?_
       rintro _ _ ⟨_, ⟨z, rfl, rfl, hz⟩, rfl⟩
       refine ka rfl<|zm ?_
       refine kr1 func72 results72 rfl (fun w hs => ?_)
       rw [hr]
       exact ⟨_, StO b ⟨s.next, s.q, s.c, s.l.set i ⟨(tableO o.x e).1, z⟩⟩, rfl, ⟨⟨s.next, s.q, s.c, s.l.set i ⟨(tableO o.x e).1, z⟩⟩, rfl, hset _, rfl, by show (s.l.set i _).length ≤ s.c; rw [List.length_set]; exact hc, set_le hcap (hz (hcap o hmo))⟩, (by
        have e1 : Sz.cells ⟨s.next, s.q, s.c, s.l.set i ⟨(tableO o.x e).1, z⟩⟩ = s.cells := by unfold Sz.cells; rw [List.length_set]
        dsimp only [StO]
        rw [e1]
        exact hs.fitD)⟩
     ·refine kq (qO fo_58_0 rfl)<|kq (qD ck_3 rfl)<|kq (q_eq rfl rfl)<|kq (qF rfl rfl)<|ka rfl<|zm<|ke<|ky<|km rfl<|km rfl<|kq (qN rfl)<|kq (qE fo_62_1 rfl)<|kq (q_ldE (xs := s.l) ck_3 rfl isO tM ho rfl)<|kq (q_eq rfl rfl)<|kq (q_bne underlying4 rfl rfl)<|zm ?_
      refine kT (s := 55) rfl (fun g55 => ?_) (fun g55 => ?_)
      ·have hr := hb (by rw [show decide (e.kind = 2 ∨ e.kind = 3) = decide (e.kind = 3) by simp [g44]]; simpa using g55)
       refine ky<|ka rfl<|zm ?_
       refine kr1 func72 results72 rfl (fun w hs => ?_)
       rw [hr]
       exact ⟨_, StO b s, rfl, ⟨s, rfl, rfl, rfl, hc, hcap⟩, hs.fitD⟩
      ·refine za<|ke<|ky<|km rfl<|zm ?_
       refine kD (s := 56) rfl (fun g56 => ?_) (fun g56 => ?_)
       ·have hr := ht (by rw [show decide (e.kind = 2 ∨ e.kind = 3) = decide (e.kind = 3) by simp [g44]]; simpa using g55) (.inr g56)
        have hk : e.kind = 2 ∨ e.kind = 3 := .inr g56
        refine ky<|km rfl<|kq (qL ck_58 rfl rfl tC) ?_
        refine kl (kc rfl (h := st_inTable s.q s.c s.l i o e ho (hle o hmo) (by first | exact .inl g44 | exact hk))) ?_
        rintro _ _ ⟨_, ⟨z, rfl, rfl, hz⟩, rfl⟩
        refine ka rfl<|zm ?_
        refine kr1 func72 results72 rfl (fun w hs => ?_)
        rw [hr]
        exact ⟨_, StO b ⟨s.next, s.q, s.c, s.l.set i ⟨(tableO o.x e).1, z⟩⟩, rfl, ⟨⟨s.next, s.q, s.c, s.l.set i ⟨(tableO o.x e).1, z⟩⟩, rfl, hset _, rfl, by show (s.l.set i _).length ≤ s.c; rw [List.length_set]; exact hc, set_le hcap (hz (hcap o hmo))⟩, (by
         have e1 : Sz.cells ⟨s.next, s.q, s.c, s.l.set i ⟨(tableO o.x e).1, z⟩⟩ = s.cells := by unfold Sz.cells; rw [List.length_set]
         dsimp only [StO]
         rw [e1]
         exact hs.fitD)⟩
       ·have hr := hqq (by rw [show decide (e.kind = 2 ∨ e.kind = 3) = decide (e.kind = 3) by simp [g44]]; simpa using g55) (by simp [g44, g56])
        refine za<|ky<|km rfl<|km rfl<|kq (qL ck_58 rfl rfl tC)<|kl (kc rfl (h := st_inQueue b s i o e ho hl hle (hs0 o hmo))) ?_
        rintro _ _ ⟨_, ⟨z, rfl, rfl, hz⟩, rfl⟩
        refine ka rfl<|zm ?_
        refine kr1 func72 results72 rfl (fun w hs => ?_)
        rw [hr]
        exact ⟨_, StO b ⟨s.next, s.q, s.c, s.l.set i ⟨(queueO s.st o.x e).1, z⟩⟩, rfl, ⟨⟨s.next, s.q, s.c, s.l.set i ⟨(queueO s.st o.x e).1, z⟩⟩, rfl, hset _, rfl, by show (s.l.set i _).length ≤ s.c; rw [List.length_set]; exact hc, set_le hcap (hz (hcap o hmo))⟩, hs.fitD⟩
theorem list_ne_at {α : Type} {a b : List α} {i : Nat} {x y : α} (h1 : a[i]? = some x) (h2 : b[i]? = some y) (h : ¬ x = y) : ¬ a = b := by
 rintro rfl
 rw [h1] at h2
 exact h (Option.some.inj h2)
theorem take_step {α : Type} {a b : List α} {i : Nat} {x y : α} (h1 : a[i]? = some x) (h2 : b[i]? = some y) (h : x = y) (ht : a.take i = b.take i) : a.take (i + 1) = b.take (i + 1) := by
 rw [List.take_add_one, List.take_add_one, h1, h2, ht, h]
theorem ids_snoc {l : List Msg} {i : Nat} {e : Msg} (h : l[i]? = some e) : (l.take (i + 1)).map (·.id) = (l.take i).map (·.id) ++ [e.id] := by rw [List.take_add_one, h]; simp
theorem nodup_snoc {l : List Int} {n : Int} : (l ++ [n]).Nodup ↔ l.Nodup ∧ ¬ n ∈ l := by
 rw [List.nodup_append]
 constructor
 ·rintro ⟨h1, _, h3⟩
  exact ⟨h1, fun hn => h3 n hn n (List.mem_singleton.2 rfl) rfl⟩
 ·rintro ⟨h1, h2⟩
  exact ⟨h1, by simp, fun a ha b hb e => by rw [List.mem_singleton.1 hb] at e; subst e; exact h2 ha⟩
theorem nodup_take {l : List Int} (h : l.Nodup) (i : Nat) : (l.take i).Nodup := h.sublist (List.take_sublist i l)
theorem risesM_false_nodup {l : List Msg} {i : Nat} (h : ¬ ((l.take i).map (·.id)).Nodup) : risesM l = false := by
 unfold risesM
 rw [decide_eq_false (fun hn => h (by rw [List.map_take]; exact nodup_take hn i)), Bool.and_false]
theorem risesM_false_adj {l : List Msg} {i : Nat} (h : adj (fun a b => decide (cmpM a b < 0)) (l.take i) = false) : risesM l = false := by
 unfold risesM
 rw [adj_false_take h, Bool.false_and]
theorem adj2_true {α : Type} {f : α → α → Bool} {l : List α} {i : Nat} {x y : α} (hi : 0 < i) (hx : l[i - 1]? = some x) (hy : l[i]? = some y) (h : adj f (l.take i) = true) (hf : f x y = true) : adj f (l.take (i + 1)) = true := by
 obtain ⟨m, rfl⟩ : ∃ m, i = m + 1 := ⟨i - 1, by omega⟩
 rw [Nat.add_sub_cancel] at hx
 rw [adj_take_succ hx hy, h, hf]; rfl
theorem adj2_false {α : Type} {f : α → α → Bool} {l : List α} {i : Nat} {x y : α} (hi : 0 < i) (hx : l[i - 1]? = some x) (hy : l[i]? = some y) (hf : f x y = false) : adj f (l.take (i + 1)) = false := by
 obtain ⟨m, rfl⟩ : ∃ m, i = m + 1 := ⟨i - 1, by omega⟩
 rw [Nat.add_sub_cancel] at hx
 rw [adj_take_succ hx hy, hf, Bool.and_false]
theorem nd_Rises (q : Option Addr) (cap : Nat) (l : List Rw) (hl : (l.length : Int) ≤ 9223372036854775807) (hz : ∀ r ∈ l, (r.key.size : Int) ≤ 9223372036854775807) : Fn Tryz.prog 177 [.slice q l.length cap].toArray [RowF Kd.rw q l] (fun r post => r = .bool (risesR l) ∧ post = []) := by
 refine Fn.enter (N := 23) func177 rfl ntmps177 tK rfl (fun ρ L => ?_)
 refine ky<|ka rfl<|zm<|ke<|ky<|ka rfl<|zm<|kB ?_
 refine K.rloop (ι := { i : Nat // 1 ≤ i ∧ (i ≤ l.length ∨ i = 1) ∧ adj (fun a b => decide (cmpB a.key b.key < 0)) (l.take i) = true }) (fun x => [(3, .int .i64 x.1), (0, .slice q l.length cap)]) (fun x => l.length - x.1) ⟨1, Nat.le_refl _, .inr rfl, adj_take_one _ _⟩ tS (fun x ih => ?_)
 obtain ⟨i, h1, hi, ha⟩ := x
 dsimp only at h1 hi ha ⊢
 refine ke<|ky<|km rfl<|km rfl<|kq (qG underlying59 rfl)<|kq (q_lt rfl rfl)<|zm ?_
 refine kD (s := 7) rfl (fun g7 => ?_) (fun g7 => ?_)
 ·obtain ⟨x, hx⟩ : ∃ e, l[i - 1]? = some e := ⟨_, List.getElem?_eq_getElem tO⟩
  obtain ⟨y, hy⟩ : ∃ e, l[i]? = some e := ⟨_, List.getElem?_eq_getElem tO⟩
  have z1 := hz x (List.mem_of_getElem? hx)
  have z2 := hz y (List.mem_of_getElem? hy)
  have hsub : (i : Int) - 1 = ((i - 1 : Nat) : Int) := by omega
  refine za<|ke<|kB<|ke ?_
  refine K.drawU (by repeat (first | apply SubL.pers | apply SubL.drop | exact SubL.none)) mixed ?_
  refine dq 0 rfl (q_move rfl)<|dq 1 rfl (q_move rfl)<|dq 2 rfl (q_sub rfl rfl tN tN)<|dq 3 rfl (q_ix (i - 1) se_59 rfl rfl hsub isF tM rfl tO)<|dq 4 rfl (qE fo_136_0 rfl) ?_
  first | refine dq 5 rfl (q_ldE ck_9 rfl isF tM tE rfl) ?_ | refine dq 5 rfl (q_ldE ck_9 rfl isO tM tE rfl) ?_
  refine dq 6 rfl (q_move rfl)<|dq 7 rfl (q_move rfl) ?_
  first | refine dq 8 rfl (q_ix _ se_59 rfl rfl rfl isF tM rfl tL) ?_ | refine dq 8 rfl (q_ix _ se_59 rfl rfl rfl isO tM rfl tL) ?_
  refine dq 9 rfl (qE fo_136_0 rfl) ?_
  first | refine dq 10 rfl (q_ldE ck_9 rfl isF tM tE rfl) ?_ | refine dq 10 rfl (q_ldE ck_9 rfl isO tM tE rfl) ?_
  refine dq1 11 rfl (kc rfl (h := ord_Keys _ _)) (.inr (by rintro _ _ ⟨_, ⟨rfl, rfl⟩, rfl⟩ w h; exact h.subD)) ?_
  rintro _ _ ⟨_, ⟨rfl, rfl⟩, rfl⟩
  refine dq 12 rfl (q_ge rfl rfl)<|D.done tK ?_
  refine kD (s := 22) rfl (fun g22 => ?_) (fun g22 => ?_)
  ·refine ke ?_
   have hr : risesR l = false := adj_false_take (adj2_false h1 hx hy (decide_eq_false tO))
   refine kr<|ka rfl<|zm ?_
   refine kr1 func177 results177 rfl (fun w hs => ?_)
   rw [hr]
   exact ⟨_, [], rfl, ⟨rfl, rfl⟩, hs.fitD⟩
  ·refine za<|zd<|kr<|km rfl<|kq (q_add rfl rfl tN tN)<|ka rfl<|zm ?_
   exact K.weak tS (fun w h => h.fitD) (ih ⟨i + 1, by omega, .inl tO, adj2_true h1 hx hy ha (decide_eq_true tO)⟩ (by show l.length - (i + 1) < l.length - i; omega))
 ·refine K.exit rfl<|ke ?_
  have hr : risesR l = true := by rw [List.take_of_length_le tO] at ha; exact ha
  refine kr<|ka rfl<|zm ?_
  refine kr1 func177 results177 rfl (fun w hs => ?_)
  rw [hr]
  exact ⟨_, [], rfl, ⟨rfl, rfl⟩, hs.fitD⟩
theorem ref_Rises (q : Option Addr) (cap : Nat) (l : List Rw) (hl : (l.length : Int) ≤ 9223372036854775807) (hz : ∀ r ∈ l, (r.key.size : Int) ≤ 9223372036854775807) : Fn Tryz.prog 112 [.slice q l.length cap].toArray [RowF Kd.rw q l] (fun r post => r = .bool (risesR l) ∧ post = []) := by
 refine Fn.enter (N := 23) func112 rfl ntmps112 tK rfl (fun ρ L => ?_)
 refine ky<|ka rfl<|zm<|ke<|ky<|ka rfl<|zm<|kB ?_
 refine K.rloop (ι := { i : Nat // 1 ≤ i ∧ (i ≤ l.length ∨ i = 1) ∧ adj (fun a b => decide (cmpB a.key b.key < 0)) (l.take i) = true }) (fun x => [(3, .int .i64 x.1), (0, .slice q l.length cap)]) (fun x => l.length - x.1) ⟨1, Nat.le_refl _, .inr rfl, adj_take_one _ _⟩ tS (fun x ih => ?_)
 obtain ⟨i, h1, hi, ha⟩ := x
 dsimp only at h1 hi ha ⊢
 refine ke<|ky<|km rfl<|km rfl<|kq (qG underlying59 rfl)<|kq (q_lt rfl rfl)<|zm ?_
 refine kD (s := 7) rfl (fun g7 => ?_) (fun g7 => ?_)
 ·obtain ⟨x, hx⟩ : ∃ e, l[i - 1]? = some e := ⟨_, List.getElem?_eq_getElem tO⟩
  obtain ⟨y, hy⟩ : ∃ e, l[i]? = some e := ⟨_, List.getElem?_eq_getElem tO⟩
  have z1 := hz x (List.mem_of_getElem? hx)
  have z2 := hz y (List.mem_of_getElem? hy)
  have hsub : (i : Int) - 1 = ((i - 1 : Nat) : Int) := by omega
  refine za<|ke<|kB<|ke ?_
  refine K.drawU (by repeat (first | apply SubL.pers | apply SubL.drop | exact SubL.none)) mixed ?_
  refine dq 0 rfl (q_move rfl)<|dq 1 rfl (q_move rfl)<|dq 2 rfl (q_sub rfl rfl tN tN)<|dq 3 rfl (q_ix (i - 1) se_59 rfl rfl hsub isF tM rfl tO)<|dq 4 rfl (qE fo_136_0 rfl) ?_
  first | refine dq 5 rfl (q_ldE ck_9 rfl isF tM tE rfl) ?_ | refine dq 5 rfl (q_ldE ck_9 rfl isO tM tE rfl) ?_
  refine dq 6 rfl (q_move rfl)<|dq 7 rfl (q_move rfl) ?_
  first | refine dq 8 rfl (q_ix _ se_59 rfl rfl rfl isF tM rfl tL) ?_ | refine dq 8 rfl (q_ix _ se_59 rfl rfl rfl isO tM rfl tL) ?_
  refine dq 9 rfl (qE fo_136_0 rfl) ?_
  first | refine dq 10 rfl (q_ldE ck_9 rfl isF tM tE rfl) ?_ | refine dq 10 rfl (q_ldE ck_9 rfl isO tM tE rfl) ?_
  refine dq1 11 rfl (kc rfl (h := ref_Keys _ _ (by first | assumption | omega) (by first | assumption | omega))) (.inr (by rintro _ _ ⟨_, ⟨rfl, rfl⟩, rfl⟩ w h; exact h.subD)) ?_
  rintro _ _ ⟨_, ⟨rfl, rfl⟩, rfl⟩
  refine dq 12 rfl (q_ge rfl rfl)<|D.done tK ?_
  refine kD (s := 22) rfl (fun g22 => ?_) (fun g22 => ?_)
  ·refine ke ?_
   have hr : risesR l = false := adj_false_take (adj2_false h1 hx hy (decide_eq_false tO))
   refine kr<|ka rfl<|zm ?_
   refine kr1 func112 results112 rfl (fun w hs => ?_)
   rw [hr]
   exact ⟨_, [], rfl, ⟨rfl, rfl⟩, hs.fitD⟩
  ·refine za<|zd<|kr<|km rfl<|kq (q_add rfl rfl tN tN)<|ka rfl<|zm ?_
   exact K.weak tS (fun w h => h.fitD) (ih ⟨i + 1, by omega, .inl tO, adj2_true h1 hx hy ha (decide_eq_true tO)⟩ (by show l.length - (i + 1) < l.length - i; omega))
 ·refine K.exit rfl<|ke ?_
  have hr : risesR l = true := by rw [List.take_of_length_le tO] at ha; exact ha
  refine kr<|ka rfl<|zm ?_
  refine kr1 func112 results112 rfl (fun w hs => ?_)
  rw [hr]
  exact ⟨_, [], rfl, ⟨rfl, rfl⟩, hs.fitD⟩
theorem ref_SameMsgs (q1 q2 : Option Addr) (c1 c2 : Nat) (a b : List Msg) (hl : (a.length : Int) ≤ 9223372036854775807) : Fn Tryz.prog 91 [.slice q1 a.length c1, .slice q2 b.length c2].toArray [RowF Kd.msg q1 a, RowF Kd.msg q2 b] (fun r post => r = .bool (decide (a = b)) ∧ post = []) := by
 refine Fn.enter (N := 26) func91 rfl ntmps91 tK rfl (fun ρ L => ?_)
 refine ky<|ka rfl<|zm<|ke<|ky<|km rfl<|kq (qG underlying60 rfl)<|km rfl<|kq (qG underlying60 rfl)<|kq (q_ne rfl rfl)<|zm ?_
 refine kD (s := 10) rfl (fun g10 => ?_) (fun g10 => ?_)
 ·refine ke ?_
  have hr : decide (a = b) = false := decide_eq_false (by rintro rfl; exact g10 rfl)
  refine kr<|ka rfl<|zm ?_
  refine kr1 func91 results91 rfl (fun w hs => ?_)
  rw [hr]
  exact ⟨_, [], rfl, ⟨rfl, rfl⟩, hs.fitD⟩
 ·refine za<|ke<|ky<|ka rfl<|zm<|kB ?_
  refine K.rloop (ι := { i : Nat // i ≤ a.length ∧ a.take i = b.take i }) (fun x => [(5, .int .i64 x.1), (0, .slice q1 a.length c1), (1, .slice q2 b.length c2)]) (fun x => a.length - x.1) ⟨0, Nat.zero_le _, rfl⟩ tS (fun x ih => ?_)
  obtain ⟨i, hi, ht⟩ := x
  dsimp only at hi ht ⊢
  refine ke<|ky<|km rfl<|km rfl<|kq (qG underlying60 rfl)<|kq (q_lt rfl rfl)<|zm ?_
  refine kD (s := 14) rfl (fun g14 => ?_) (fun g14 => ?_)
  ·obtain ⟨e1, he1⟩ : ∃ e, a[i]? = some e := ⟨_, List.getElem?_eq_getElem tO⟩
   obtain ⟨e2, he2⟩ : ∃ e, b[i]? = some e := ⟨_, List.getElem?_eq_getElem tO⟩
   refine za<|ke<|kB<|ke ?_
   refine K.drawU (by repeat (first | apply SubL.pers | apply SubL.drop | exact SubL.none)) mixed ?_
   refine dq 0 rfl (q_move rfl)<|dq 1 rfl (q_move rfl) ?_
   first | refine dq 2 rfl (q_ix _ se_60 rfl rfl rfl isF tM rfl tL) ?_ | refine dq 2 rfl (q_ix _ se_60 rfl rfl rfl isO tM rfl tL) ?_
   first | refine dq 3 rfl (q_ldEN ck_56 rfl isF tM tE) ?_ | refine dq 3 rfl (q_ldEN ck_56 rfl isO tM tE) ?_
   refine dq 4 rfl (q_move rfl)<|dq 5 rfl (q_move rfl) ?_
   first | refine dq 6 rfl (q_ix _ se_60 rfl rfl rfl isF tM rfl tL) ?_ | refine dq 6 rfl (q_ix _ se_60 rfl rfl rfl isO tM rfl tL) ?_
   first | refine dq 7 rfl (q_ldEN ck_56 rfl isF tM tE) ?_ | refine dq 7 rfl (q_ldEN ck_56 rfl isO tM tE) ?_
   refine dq 8 rfl (q_recNG underlying56 msg_hp msg_hg rfl rfl (msg_eqD _ _ underlying56))<|D.done tK ?_
   refine kD (s := 25) rfl (fun g25 => ?_) (fun g25 => ?_)
   ·refine ke ?_
    have hr : decide (a = b) = false := decide_eq_false (list_ne_at he1 he2 g25)
    refine kr<|ka rfl<|zm ?_
    refine kr1 func91 results91 rfl (fun w hs => ?_)
    rw [hr]
    exact ⟨_, [], rfl, ⟨rfl, rfl⟩, hs.fitD⟩
   ·refine za<|zd<|kr<|km rfl<|kq (q_add rfl rfl tN tN)<|ka rfl<|zm ?_
    exact K.subE tS (ih ⟨i + 1, by omega, take_step he1 he2 (Decidable.not_not.1 g25) ht⟩ (by show a.length - (i + 1) < a.length - i; omega))
  ·refine K.exit rfl<|ke ?_
   have hr : decide (a = b) = true := decide_eq_true (by
    rw [List.take_of_length_le tO, List.take_of_length_le tO] at ht
    exact ht)
   refine kr<|ka rfl<|zm ?_
   refine kr1 func91 results91 rfl (fun w hs => ?_)
   rw [hr]
   exact ⟨_, [], rfl, ⟨rfl, rfl⟩, hs.fitD⟩
theorem ref_SameRows (q1 q2 : Option Addr) (c1 c2 : Nat) (a b : List Rw) (hl : (a.length : Int) ≤ 9223372036854775807) : Fn Tryz.prog 90 [.slice q1 a.length c1, .slice q2 b.length c2].toArray [RowF Kd.rw q1 a, RowF Kd.rw q2 b] (fun r post => r = .bool (decide (a = b)) ∧ post = []) := by
 refine Fn.enter (N := 26) func90 rfl ntmps90 tK rfl (fun ρ L => ?_)
 refine ky<|ka rfl<|zm<|ke<|ky<|km rfl<|kq (qG underlying59 rfl)<|km rfl<|kq (qG underlying59 rfl)<|kq (q_ne rfl rfl)<|zm ?_
 refine kD (s := 10) rfl (fun g10 => ?_) (fun g10 => ?_)
 ·refine ke ?_
  have hr : decide (a = b) = false := decide_eq_false (by rintro rfl; exact g10 rfl)
  refine kr<|ka rfl<|zm ?_
  refine kr1 func90 results90 rfl (fun w hs => ?_)
  rw [hr]
  exact ⟨_, [], rfl, ⟨rfl, rfl⟩, hs.fitD⟩
 ·refine za<|ke<|ky<|ka rfl<|zm<|kB ?_
  refine K.rloop (ι := { i : Nat // i ≤ a.length ∧ a.take i = b.take i }) (fun x => [(5, .int .i64 x.1), (0, .slice q1 a.length c1), (1, .slice q2 b.length c2)]) (fun x => a.length - x.1) ⟨0, Nat.zero_le _, rfl⟩ tS (fun x ih => ?_)
  obtain ⟨i, hi, ht⟩ := x
  dsimp only at hi ht ⊢
  refine ke<|ky<|km rfl<|km rfl<|kq (qG underlying59 rfl)<|kq (q_lt rfl rfl)<|zm ?_
  refine kD (s := 14) rfl (fun g14 => ?_) (fun g14 => ?_)
  ·obtain ⟨e1, he1⟩ : ∃ e, a[i]? = some e := ⟨_, List.getElem?_eq_getElem tO⟩
   obtain ⟨e2, he2⟩ : ∃ e, b[i]? = some e := ⟨_, List.getElem?_eq_getElem tO⟩
   refine za<|ke<|kB<|ke ?_
   refine K.drawU (by repeat (first | apply SubL.pers | apply SubL.drop | exact SubL.none)) mixed ?_
   refine dq 0 rfl (q_move rfl)<|dq 1 rfl (q_move rfl) ?_
   first | refine dq 2 rfl (q_ix _ se_59 rfl rfl rfl isF tM rfl tL) ?_ | refine dq 2 rfl (q_ix _ se_59 rfl rfl rfl isO tM rfl tL) ?_
   first | refine dq 3 rfl (q_ldEN ck_136 rfl isF tM tE) ?_ | refine dq 3 rfl (q_ldEN ck_136 rfl isO tM tE) ?_
   refine dq 4 rfl (q_move rfl)<|dq 5 rfl (q_move rfl) ?_
   first | refine dq 6 rfl (q_ix _ se_59 rfl rfl rfl isF tM rfl tL) ?_ | refine dq 6 rfl (q_ix _ se_59 rfl rfl rfl isO tM rfl tL) ?_
   first | refine dq 7 rfl (q_ldEN ck_136 rfl isF tM tE) ?_ | refine dq 7 rfl (q_ldEN ck_136 rfl isO tM tE) ?_
   refine dq 8 rfl (q_recNG underlying136 rw_hp rw_hg rfl rfl (rw_eqD _ _ underlying136))<|D.done tK ?_
   refine kD (s := 25) rfl (fun g25 => ?_) (fun g25 => ?_)
   ·refine ke ?_
    have hr : decide (a = b) = false := decide_eq_false (list_ne_at he1 he2 g25)
    refine kr<|ka rfl<|zm ?_
    refine kr1 func90 results90 rfl (fun w hs => ?_)
    rw [hr]
    exact ⟨_, [], rfl, ⟨rfl, rfl⟩, hs.fitD⟩
   ·refine za<|zd<|kr<|km rfl<|kq (q_add rfl rfl tN tN)<|ka rfl<|zm ?_
    exact K.subE tS (ih ⟨i + 1, by omega, take_step he1 he2 (Decidable.not_not.1 g25) ht⟩ (by show a.length - (i + 1) < a.length - i; omega))
  ·refine K.exit rfl<|ke ?_
   have hr : decide (a = b) = true := decide_eq_true (by
    rw [List.take_of_length_le tO, List.take_of_length_le tO] at ht
    exact ht)
   refine kr<|ka rfl<|zm ?_
   refine kr1 func90 results90 rfl (fun w hs => ?_)
   rw [hr]
   exact ⟨_, [], rfl, ⟨rfl, rfl⟩, hs.fitD⟩
theorem idxP_lt {l : List Msg} {i : Nat} {y : Msg} (hy : l[i]? = some y) : idxP (fun m => decide (m.id = y.id)) l < (i : Int) ↔ y.id ∈ (l.take i).map (·.id) := by
 cases hany : (l.take i).any (fun m => decide (m.id = y.id)) with
 | false =>
  rw [idxP_some hy (by simp) hany]
  rw [List.any_eq_false] at hany
  refine ⟨fun h => by omega, fun h => ?_⟩
  obtain ⟨m, hm, e⟩ := List.mem_map.1 h
  exact absurd (decide_eq_true e) (hany m hm)
 | true =>
  obtain ⟨m, hm, e⟩ := List.any_eq_true.1 hany
  refine ⟨fun _ => List.mem_map.2 ⟨m, hm, of_decide_eq_true e⟩, fun _ => ?_⟩
  obtain ⟨j, hj, rfl⟩ := List.mem_take_iff_getElem.1 hm
  unfold idxP
  cases hf : l.findIdx? (fun m => decide (m.id = y.id)) with
  | none => rw [List.findIdx?_eq_none_iff] at hf; exact absurd e (by rw [hf _ (List.getElem_mem _)]; simp)
  | some k =>
   rw [List.findIdx?_eq_some_iff_getElem] at hf
   obtain ⟨hk, _, hmin⟩ := hf
   show (k : Int) < i
   by_cases hkj : j < k
   ·exact absurd e (by simpa using hmin j hkj)
   ·omega
set_option maxHeartbeats 800000 in
theorem ref_RisesMsgs (q : Option Addr) (cap : Nat) (l : List Msg) (hl : (l.length : Int) ≤ 9223372036854775807) : Fn Tryz.prog 113 [.slice q l.length cap].toArray [RowF Kd.msg q l] (fun r post => r = .bool (risesM l) ∧ post = []) := by
  refine Fn.enter (N := 36) func113 rfl ntmps113 tK rfl (fun ρ L => ?_)
  refine ky<|ka rfl<|zm<|ke<|ky<|ka rfl<|zm<|kB ?_
  refine K.rloop (ι := { i : Nat // i ≤ l.length ∧ adj (fun a b => decide (cmpM a b < 0)) (l.take i) = true ∧ ((l.take i).map (·.id)).Nodup }) (fun x => [(3, .int .i64 x.1), (0, .slice q l.length cap)]) (fun x => l.length - x.1) ⟨0, Nat.zero_le _, by simp [adj], by simp⟩ tS (fun x ih => ?_)
  obtain ⟨i, hi, ha, hn⟩ := x
  dsimp only at hi ha hn ⊢
  refine ke<|ky<|km rfl<|km rfl<|kq (qG underlying60 rfl)<|kq (q_lt rfl rfl)<|zm ?_
  refine kD (s := 7) rfl (fun g7 => ?_) (fun g7 => ?_)
  · obtain ⟨y, hy⟩ : ∃ e, l[i]? = some e := ⟨_, List.getElem?_eq_getElem tO⟩
    refine za<|ke<|kB<|ke ?_
    refine K.drawU (by repeat (first | apply SubL.pers | apply SubL.drop | exact SubL.none)) mixed ?_
    refine dq 0 rfl (q_move rfl)<|dq 1 rfl (q_gt rfl rfl)<|dq 2 rfl (q_move rfl) ?_
    refine D.dsplit 12 rfl (fun g12 => ?_) (fun g12 => ?_)
    · obtain ⟨x, hx⟩ : ∃ e, l[i - 1]? = some e := ⟨_, List.getElem?_eq_getElem tO⟩
      have hsub : (i : Int) - 1 = ((i - 1 : Nat) : Int) := by omega
      refine dq 3 rfl (q_move rfl)<|dq 4 rfl (q_move rfl)<|dq 5 rfl (q_sub rfl rfl tN tN)<|dq 6 rfl (q_ix (i - 1) se_60 rfl rfl hsub isF tM rfl tO) ?_
      first | refine dq 7 rfl (q_ldEN ck_56 rfl isF tM tE) ?_ | refine dq 7 rfl (q_ldEN ck_56 rfl isO tM tE) ?_
      refine dq 8 rfl (q_move rfl)<|dq 9 rfl (q_move rfl) ?_
      first | refine dq 10 rfl (q_ix _ se_60 rfl rfl rfl isF tM rfl tL) ?_ | refine dq 10 rfl (q_ix _ se_60 rfl rfl rfl isO tM rfl tL) ?_
      first | refine dq 11 rfl (q_ldEN ck_56 rfl isF tM tE) ?_ | refine dq 11 rfl (q_ldEN ck_56 rfl isO tM tE) ?_
      refine dq1 12 rfl (kc rfl (h := ref_Msgs _ _)) (.inr (by rintro _ _ ⟨_, ⟨rfl, rfl⟩, rfl⟩ w h; exact h.subD)) ?_
      rintro _ _ ⟨_, ⟨rfl, rfl⟩, rfl⟩
      refine dq 13 rfl (q_ge rfl rfl)<|dq 14 rfl (qT rfl rfl)<|dq 15 rfl (q_move rfl) ?_
      refine D.dsplit 25 rfl (fun g25 => ?_) (fun g25 => ?_)
      · refine dk 16 rfl<|dk 17 rfl<|dk 18 rfl<|dk 19 rfl<|dk 20 rfl<|dk 21 rfl<|dk 22 rfl<|dk 23 rfl<|dk 24 rfl<|dq 25 rfl (qT rfl rfl)<|D.done tK<|K.yes rfl<|ke ?_
        have hr : risesM l = false := by
          first
            | exact risesM_false_adj (adj2_false tO hx hy (decide_eq_false tO))
            | exact risesM_false_nodup (i := i + 1) (by rw [ids_snoc hy, nodup_snoc]; exact fun h => h.2 ((idxP_lt hy).1 g35))
        refine kr<|ka rfl<|zm ?_
        refine kr1 func113 results113 rfl (fun w hs => ?_)
        rw [hr]
        exact ⟨_, [], rfl, ⟨rfl, rfl⟩, hs.fitD⟩
      · refine dq 16 rfl (q_move rfl)<|dq 17 rfl (q_move rfl)<|dq 18 rfl (q_move rfl) ?_
        first | refine dq 19 rfl (q_ix _ se_60 rfl rfl rfl isF tM rfl tL) ?_ | refine dq 19 rfl (q_ix _ se_60 rfl rfl rfl isO tM rfl tL) ?_
        refine dq 20 rfl (qE fo_56_0 rfl) ?_
        first | refine dq 21 rfl (q_ldE ck_3 rfl isF tM tE rfl) ?_ | refine dq 21 rfl (q_ldE ck_3 rfl isO tM tE rfl) ?_
        refine dq 23 rfl (q_move rfl)<|dq1 22 rfl (kc rfl (h := ref_FindMsg _ _ _ _ tN)) (.inr (by rintro _ _ ⟨_, ⟨rfl, rfl⟩, rfl⟩ w h; exact h.subD)) ?_
        rintro _ _ ⟨_, ⟨rfl, rfl⟩, rfl⟩
        refine dq 24 rfl (q_lt rfl rfl)<|dq 25 rfl (qF rfl rfl)<|D.done tK ?_
        refine kD (s := 35) rfl (fun g35 => ?_) (fun g35 => ?_)
        · refine ke ?_
          have hr : risesM l = false := by
            first
              | exact risesM_false_adj (adj2_false tO hx hy (decide_eq_false tO))
              | exact risesM_false_nodup (i := i + 1) (by rw [ids_snoc hy, nodup_snoc]; exact fun h => h.2 ((idxP_lt hy).1 g35))
          refine kr<|ka rfl<|zm ?_
          refine kr1 func113 results113 rfl (fun w hs => ?_)
          rw [hr]
          exact ⟨_, [], rfl, ⟨rfl, rfl⟩, hs.fitD⟩
        · refine za<|zd<|kr<|km rfl<|kq (q_add rfl rfl tN tN)<|ka rfl<|zm ?_
          exact K.weak tS (fun w h => h.fitD) (ih ⟨i + 1, by omega, by
            first
              | exact adj2_true tO hx hy ha (decide_eq_true tO)
              | (obtain rfl : i = 0 := by omega
                 exact adj_take_one _ _), by rw [ids_snoc hy, nodup_snoc]; exact ⟨hn, fun h => g35 ((idxP_lt hy).2 h)⟩⟩ (by show l.length - (i + 1) < l.length - i; omega))
    · refine dk 3 rfl<|dk 4 rfl<|dk 5 rfl<|dk 6 rfl<|dk 7 rfl<|dk 8 rfl<|dk 9 rfl<|dk 10 rfl<|dk 11 rfl<|dk 12 rfl<|dk 13 rfl<|dq 14 rfl (qF rfl rfl)<|dq 15 rfl (q_move rfl)<|dq 16 rfl (q_move rfl)<|dq 17 rfl (q_move rfl)<|dq 18 rfl (q_move rfl) ?_
      first | refine dq 19 rfl (q_ix _ se_60 rfl rfl rfl isF tM rfl tL) ?_ | refine dq 19 rfl (q_ix _ se_60 rfl rfl rfl isO tM rfl tL) ?_
      refine dq 20 rfl (qE fo_56_0 rfl) ?_
      first | refine dq 21 rfl (q_ldE ck_3 rfl isF tM tE rfl) ?_ | refine dq 21 rfl (q_ldE ck_3 rfl isO tM tE rfl) ?_
      refine dq 23 rfl (q_move rfl)<|dq1 22 rfl (kc rfl (h := ref_FindMsg _ _ _ _ tN)) (.inr (by rintro _ _ ⟨_, ⟨rfl, rfl⟩, rfl⟩ w h; exact h.subD)) ?_
      rintro _ _ ⟨_, ⟨rfl, rfl⟩, rfl⟩
      refine dq 24 rfl (q_lt rfl rfl)<|dq 25 rfl (qF rfl rfl)<|D.done tK ?_
      refine kD (s := 35) rfl (fun g35 => ?_) (fun g35 => ?_)
      · refine ke ?_
        have hr : risesM l = false := by
          first
            | exact risesM_false_adj (adj2_false tO hx hy (decide_eq_false tO))
            | exact risesM_false_nodup (i := i + 1) (by rw [ids_snoc hy, nodup_snoc]; exact fun h => h.2 ((idxP_lt hy).1 g35))
        refine kr<|ka rfl<|zm ?_
        refine kr1 func113 results113 rfl (fun w hs => ?_)
        rw [hr]
        exact ⟨_, [], rfl, ⟨rfl, rfl⟩, hs.fitD⟩
      · refine za<|zd<|kr<|km rfl<|kq (q_add rfl rfl tN tN)<|ka rfl<|zm ?_
        exact K.weak tS (fun w h => h.fitD) (ih ⟨i + 1, by omega, by
          first
            | exact adj2_true tO hx hy ha (decide_eq_true tO)
            | (obtain rfl : i = 0 := by omega
               exact adj_take_one _ _), by rw [ids_snoc hy, nodup_snoc]; exact ⟨hn, fun h => g35 ((idxP_lt hy).2 h)⟩⟩ (by show l.length - (i + 1) < l.length - i; omega))
  · refine K.exit rfl<|ke ?_
    have hr : risesM l = true := by
      rw [List.take_of_length_le tO] at ha hn
      unfold risesM
      rw [ha, decide_eq_true hn]; rfl
    refine kr<|ka rfl<|zm ?_
    refine kr1 func113 results113 rfl (fun w hs => ?_)
    rw [hr]
    exact ⟨_, [], rfl, ⟨rfl, rfl⟩, hs.fitD⟩
theorem zv_bool : zeroV Tryz.prog 4 = some (.bool false) := by kernel_rfl
def Seen (ids : List Int) (es : List (Int × Value)) : Prop := ∀ n, mapGet es n = if n ∈ ids then some (.bool true) else none
theorem Seen.nil : Seen [] [] := fun n => by simp [mapGet]
theorem Seen.get {ids : List Int} {es : List (Int × Value)} (h : Seen ids es) (n : Int) : (mapGet es n).getD (.bool false) = .bool (decide (n ∈ ids)) := by
 rw [h n]
 by_cases hn : n ∈ ids
 ·simp [hn]
 ·simp [hn]
theorem Seen.put {ids : List Int} {es : List (Int × Value)} (h : Seen ids es) (k : Int) : Seen (ids ++ [k]) (mapPut es k (.bool true)) := fun n => by
 rw [mapGet_put, h n]
 by_cases hn : n = k
 ·simp [hn]
 ·simp [hn]
set_option maxHeartbeats 800000 in
theorem qu_Rises (q : Option Addr) (cap : Nat) (l : List Msg) (hl : (l.length : Int) ≤ 9223372036854775807) : Fn Tryz.prog 181 [.slice q l.length cap].toArray [RowF Kd.msg q l] (fun r post => r = .bool (risesM l) ∧ post = []) := by
  refine Fn.enter (N := 36) func181 rfl ntmps181 tK rfl (fun ρ L => ?_)
  refine ky<|ka rfl<|kz<|kl (l_makeMap (fun n : Int => Value.int .i64 n)) ?_
  rintro _ _ ⟨b6, rfl, rfl⟩
  refine ka rfl<|zm<|ke<|ky<|km rfl<|kq (qG underlying60 rfl)<|km rfl<|zm<|kB ?_
  refine kX (ι := { x : Nat × List (Int × Value) // x.1 ≤ l.length ∧ adj (fun a b => decide (cmpM a b < 0)) (l.take x.1) = true ∧ ((l.take x.1).map (·.id)).Nodup ∧ Seen ((l.take x.1).map (·.id)) x.2 }) (fun x => [(9, .int .i64 x.1.1), (8, .int .i64 l.length), (7, .slice q l.length cap), (3, .map (some b6)), (0, .slice q l.length cap)]) (fun x => [mpO (fun n : Int => Value.int .i64 n) b6 x.1.2, RowF Kd.msg q l] ++ L) (fun x => l.length - x.1.1) ⟨(0, []), Nat.zero_le _, by simp [adj], by simp, Seen.nil⟩ tS (fun w h => h.fitD) (fun x ih => ?_)
  obtain ⟨⟨i, es⟩, hi, ha, hn, hse⟩ := x
  dsimp only at hi ha hn hse ⊢
  refine ky<|kq (q_lt rfl rfl)<|zm<|ke ?_
  refine kD (s := 10) rfl (fun g10 => ?_) (fun g10 => ?_)
  · obtain ⟨y, hy⟩ : ∃ e, l[i]? = some e := ⟨_, List.getElem?_eq_getElem tO⟩
    have hlk := hse.get y.id
    refine za<|ke<|kB<|ky<|km rfl ?_
    first | refine kq (q_ix _ se_60 rfl rfl rfl isF tM rfl tL) ?_ | refine kq (q_ix _ se_60 rfl rfl rfl isO tM rfl tL) ?_
    first | refine kq (q_ldEN ck_56 rfl isF tM tE) ?_ | refine kq (q_ldEN ck_56 rfl isO tM tE) ?_
    refine kl (lL zo_56) ?_
    rintro _ _ ⟨b5, rfl, rfl⟩
    refine ka rfl<|kN rfl (lS ck_56 rfl rfl ⟨rfl, rfl⟩ (msg_one _) tP) ?_
    rintro _ _ ⟨rfl, rfl⟩
    refine zm<|ke<|ke ?_
    refine K.drawU (by repeat (first | apply SubL.pers | apply SubL.own (b := b5) | apply SubL.drop | exact SubL.none)) mixed ?_
    refine dq 0 rfl (q_move rfl)<|dq 1 rfl (qO fo_56_0 rfl)<|dq 2 rfl (qD ck_3 rfl)<|dq1 3 rfl (OpQ.loud (q_is (q_lookup underlying215 (mkey_int underlying3) zv_bool rfl rfl tM) hlk)) (.inr (by rintro _ _ ⟨rfl, rfl⟩ w h; exact h.subD)) ?_
    rintro _ _ ⟨rfl, rfl⟩
    refine dq 4 rfl (q_move rfl) ?_
    first | refine D.dsplit 18 rfl (fun g18 => ?_) (fun g18 => ?_) | refine D.split 18 rfl (fun g18 => ?_) (fun g18 => ?_)
    · refine dk 5 rfl<|dk 6 rfl<|dk 7 rfl<|dg 8 rfl<|dg 9 rfl<|dg 10 rfl<|dg 11 rfl<|dg 12 rfl<|dg 13 rfl<|dg 14 rfl<|dg 15 rfl<|dk 16 rfl<|dq 17 rfl (qT rfl rfl)<|D.done tK<|K.yes rfl<|ke ?_
      have hr : risesM l = false := by
        first
          | exact risesM_false_nodup (i := i + 1) (by rw [ids_snoc hy, nodup_snoc]; exact fun h => h.2 g18)
          | exact risesM_false_adj (adj2_false tO hx hy (decide_eq_false tO))
      refine kr<|ka rfl<|zm ?_
      refine kr1 func181 results181 rfl (fun w hs => ?_)
      rw [hr]
      exact ⟨_, [], rfl, ⟨rfl, rfl⟩, hs.fitD⟩
    · refine dq 5 rfl (q_move rfl)<|dq 6 rfl (q_gt rfl rfl)<|dq 7 rfl (q_move rfl) ?_
      refine D.dsplit 21 rfl (fun g21 => ?_) (fun g21 => ?_)
      · obtain ⟨x, hx⟩ : ∃ e, l[i - 1]? = some e := ⟨_, List.getElem?_eq_getElem tO⟩
        have hsub : (i : Int) - 1 = ((i - 1 : Nat) : Int) := by omega
        refine dq 8 rfl (q_move rfl)<|dq 9 rfl (q_move rfl)<|dq 10 rfl (q_sub rfl rfl tN tN)<|dq 11 rfl (q_ix (i - 1) se_60 rfl rfl hsub isF tM rfl tO) ?_
        first | refine dq 12 rfl (q_ldEN ck_56 rfl isF tM tE) ?_ | refine dq 12 rfl (q_ldEN ck_56 rfl isO tM tE) ?_
        refine dq 13 rfl (qL ck_56 rfl rfl tC)<|dq1 14 rfl (kc rfl (h := ord_Msgs _ _)) (.inr (by rintro _ _ ⟨_, ⟨rfl, rfl⟩, rfl⟩ w h; exact h.subD)) ?_
        rintro _ _ ⟨_, ⟨rfl, rfl⟩, rfl⟩
        refine dq 15 rfl (q_ge rfl rfl)<|dq 16 rfl (qT rfl rfl)<|dq 17 rfl (qF rfl rfl)<|D.done tK ?_
        refine kD (s := 31) rfl (fun g31 => ?_) (fun g31 => ?_)
        · refine ke ?_
          have hr : risesM l = false := by
            first
              | exact risesM_false_nodup (i := i + 1) (by rw [ids_snoc hy, nodup_snoc]; exact fun h => h.2 g18)
              | exact risesM_false_adj (adj2_false tO hx hy (decide_eq_false tO))
          refine kr<|ka rfl<|zm ?_
          refine kr1 func181 results181 rfl (fun w hs => ?_)
          rw [hr]
          exact ⟨_, [], rfl, ⟨rfl, rfl⟩, hs.fitD⟩
        · refine za<|kr<|km rfl<|kq (qO fo_56_0 rfl)<|kq (qD ck_3 rfl)<|kN rfl (l_mapUpdate underlying215 (mkey_int underlying3) rfl rfl rfl tP) ?_
          rintro _ _ ⟨rfl, rfl⟩
          refine zm<|zd<|kr<|kq (q_add rfl rfl tN tN)<|km rfl<|zm ?_
          refine K.weak tS (fun w h => ?_) (ih ⟨(i + 1, mapPut es y.id (.bool true)), by show i + 1 ≤ l.length; omega, ?_, by show ((l.take (i + 1)).map (·.id)).Nodup; rw [ids_snoc hy, nodup_snoc]; exact ⟨hn, g18⟩, by show Seen ((l.take (i + 1)).map (·.id)) _; rw [ids_snoc hy]; exact hse.put y.id⟩ (by show l.length - (i + 1) < l.length - i; omega))
          · dsimp only
            exact h.fitD
          · first
              | exact adj2_true tO hx hy ha (decide_eq_true tO)
              | (obtain rfl : i = 0 := by omega
                 exact adj_take_one _ _)
      · refine dk 8 rfl<|dk 9 rfl<|dk 10 rfl<|dk 11 rfl<|dk 12 rfl<|dk 13 rfl<|dk 14 rfl<|dk 15 rfl<|dq 16 rfl (qF rfl rfl)<|dq 17 rfl (qF rfl rfl)<|D.done tK<|K.no rfl<|za<|kr<|km rfl<|kq (qO fo_56_0 rfl)<|kq (qD ck_3 rfl)<|kN rfl (l_mapUpdate underlying215 (mkey_int underlying3) rfl rfl rfl tP) ?_
        rintro _ _ ⟨rfl, rfl⟩
        refine zm<|zd<|kr<|kq (q_add rfl rfl tN tN)<|km rfl<|zm ?_
        refine K.weak tS (fun w h => ?_) (ih ⟨(i + 1, mapPut es y.id (.bool true)), by show i + 1 ≤ l.length; omega, ?_, by show ((l.take (i + 1)).map (·.id)).Nodup; rw [ids_snoc hy, nodup_snoc]; exact ⟨hn, g18⟩, by show Seen ((l.take (i + 1)).map (·.id)) _; rw [ids_snoc hy]; exact hse.put y.id⟩ (by show l.length - (i + 1) < l.length - i; omega))
        · dsimp only
          exact h.fitD
        · first
            | exact adj2_true tO hx hy ha (decide_eq_true tO)
            | (obtain rfl : i = 0 := by omega
               exact adj_take_one _ _)
  · refine K.exit rfl<|ke ?_
    have hr : risesM l = true := by
      rw [List.take_of_length_le tO] at ha hn
      unfold risesM
      rw [ha, decide_eq_true hn]; rfl
    refine kr<|ka rfl<|zm ?_
    refine kr1 func181 results181 rfl (fun w hs => ?_)
    rw [hr]
    exact ⟨_, [], rfl, ⟨rfl, rfl⟩, hs.fitD⟩
def msgsOk (l : List Msg) (next : Int) (dead : Bool) : Bool := l.all (fun m => m.right && decide (m.id < next) && !(dead && m.claimed))
theorem ref_messages (q : Option Addr) (cap : Nat) (l : List Msg) (next : Int) (dead : Bool) (hl : (l.length : Int) ≤ 9223372036854775807) : Fn Tryz.prog 114 [.slice q l.length cap, .int .i64 next, .bool dead].toArray [RowF Kd.msg q l] (fun r post => r = .bool (msgsOk l next dead) ∧ post = []) := by
  refine Fn.enter (N := 39) func114 rfl ntmps114 tK rfl (fun ρ L => ?_)
  refine ky<|ka rfl<|zm<|ke<|ky<|ka rfl<|zm<|kB ?_
  refine K.rloop (ι := { i : Nat // i ≤ l.length ∧ msgsOk (l.take i) next dead = true }) (fun x => [(7, .int .i64 x.1), (0, .slice q l.length cap), (1, .int .i64 next), (2, .bool dead)]) (fun x => l.length - x.1) ⟨0, Nat.zero_le _, rfl⟩ tS (fun x ih => ?_)
  obtain ⟨i, hi, ha⟩ := x
  dsimp only at hi ha ⊢
  refine ke<|ky<|km rfl<|km rfl<|kq (qG underlying60 rfl)<|kq (q_lt rfl rfl)<|zm ?_
  refine kD (s := 11) rfl (fun g11 => ?_) (fun g11 => ?_)
  · obtain ⟨e, he⟩ : ∃ e, l[i]? = some e := ⟨_, List.getElem?_eq_getElem tO⟩
    refine za<|ke<|kB<|ky<|km rfl<|km rfl ?_
    first | refine kq (q_ix _ se_60 rfl rfl rfl isF tM rfl tL) ?_ | refine kq (q_ix _ se_60 rfl rfl rfl isO tM rfl tL) ?_
    first | refine kq (q_ldEN ck_56 rfl isF tM tE) ?_ | refine kq (q_ldEN ck_56 rfl isO tM tE) ?_
    refine kl (kc rfl (h := ref_Right _)) ?_
    rintro _ _ ⟨_, ⟨rfl, rfl⟩, rfl⟩
    refine kq (q_not rfl)<|km rfl ?_
    refine KO.split 20 rfl (fun g20 => ?_) (fun g20 => ?_)
    · refine zq<|zq<|zq<|zq<|zq<|zq<|zq<|kq (qT rfl rfl)<|km rfl<|zq<|zq<|KO.gone rfl<|KO.gone rfl<|KO.gone rfl<|KO.gone rfl<|KO.gone rfl<|zq<|kq (qT rfl rfl)<|zm<|K.yes rfl<|ke ?_
      have hr : msgsOk l next dead = false := by
        unfold msgsOk
        rw [List.all_eq_false]
        refine ⟨e, List.mem_of_getElem? he, ?_⟩
        first
          | (clear ih; simp_all; done)
          | (intro h
             simp only [Bool.and_eq_true, decide_eq_true_eq] at h
             omega)
          | (intro h
             simp [g31, g38] at h)
      refine kr<|ka rfl<|zm ?_
      refine kr1 func114 results114 rfl (fun w hs => ?_)
      rw [hr]
      exact ⟨_, [], rfl, ⟨rfl, rfl⟩, hs.fitD⟩
    · refine km rfl<|km rfl ?_
      first | refine kq (q_ix _ se_60 rfl rfl rfl isF tM rfl tL) ?_ | refine kq (q_ix _ se_60 rfl rfl rfl isO tM rfl tL) ?_
      refine kq (qE fo_56_0 rfl) ?_
      first | refine kq (q_ldE ck_3 rfl isF tM tE rfl) ?_ | refine kq (q_ldE ck_3 rfl isO tM tE rfl) ?_
      refine km rfl<|kq (q_ge rfl rfl)<|kq (qF rfl rfl)<|km rfl ?_
      refine KO.dsplit 29 rfl (fun g29 => ?_) (fun g29 => ?_)
      · refine zq<|zq<|KO.gone rfl<|KO.gone rfl<|KO.gone rfl<|KO.gone rfl<|KO.gone rfl<|zq<|kq (qT rfl rfl)<|zm<|K.yes rfl<|ke ?_
        have hr : msgsOk l next dead = false := by
          unfold msgsOk
          rw [List.all_eq_false]
          refine ⟨e, List.mem_of_getElem? he, ?_⟩
          first
            | (clear ih; simp_all; done)
            | (intro h
               simp only [Bool.and_eq_true, decide_eq_true_eq] at h
               omega)
            | (intro h
               simp [g31, g38] at h)
        refine kr<|ka rfl<|zm ?_
        refine kr1 func114 results114 rfl (fun w hs => ?_)
        rw [hr]
        exact ⟨_, [], rfl, ⟨rfl, rfl⟩, hs.fitD⟩
      · refine km rfl<|km rfl ?_
        first | refine KO.dsplit 31 rfl (fun g31 => ?_) (fun g31 => ?_) | refine KO.split 31 rfl (fun g31 => ?_) (fun g31 => ?_)
        · refine km rfl<|km rfl ?_
          first | refine kq (q_ix _ se_60 rfl rfl rfl isF tM rfl tL) ?_ | refine kq (q_ix _ se_60 rfl rfl rfl isO tM rfl tL) ?_
          refine kq (qE fo_56_3 rfl) ?_
          first | refine kq (q_ldE ck_4 rfl isF tM tE rfl) ?_ | refine kq (q_ldE ck_4 rfl isO tM tE rfl) ?_
          refine kq (qT rfl rfl)<|kq (qF rfl rfl)<|zm ?_
          first | refine kD (s := 38) rfl (fun g38 => ?_) (fun g38 => ?_) | refine kT (s := 38) rfl (fun g38 => ?_) (fun g38 => ?_)
          · refine ke ?_
            have hr : msgsOk l next dead = false := by
              unfold msgsOk
              rw [List.all_eq_false]
              refine ⟨e, List.mem_of_getElem? he, ?_⟩
              first
                | (clear ih; simp_all; done)
                | (intro h
                   simp only [Bool.and_eq_true, decide_eq_true_eq] at h
                   omega)
                | (intro h
                   simp [g31, g38] at h)
            refine kr<|ka rfl<|zm ?_
            refine kr1 func114 results114 rfl (fun w hs => ?_)
            rw [hr]
            exact ⟨_, [], rfl, ⟨rfl, rfl⟩, hs.fitD⟩
          · refine za<|zd<|kr<|km rfl<|kq (q_add rfl rfl tN tN)<|ka rfl<|zm ?_
            exact K.weak tS (fun w h => h.fitD) (ih ⟨i + 1, by omega, by unfold msgsOk at ha ⊢; rw [all_take_succ he, ha]; simp_all⟩ (by show l.length - (i + 1) < l.length - i; omega))
        · refine zq<|zq<|zq<|zq<|zq<|kq (qF rfl rfl)<|kq (qF rfl rfl)<|zm<|K.no rfl<|za<|zd<|kr<|km rfl<|kq (q_add rfl rfl tN tN)<|ka rfl<|zm ?_
          exact K.weak tS (fun w h => h.fitD) (ih ⟨i + 1, by omega, by unfold msgsOk at ha ⊢; rw [all_take_succ he, ha]; simp_all⟩ (by show l.length - (i + 1) < l.length - i; omega))
  · refine K.exit rfl<|ke ?_
    have hr : msgsOk l next dead = true := by rw [List.take_of_length_le tO] at ha; exact ha
    refine kr<|ka rfl<|zm ?_
    refine kr1 func114 results114 rfl (fun w hs => ?_)
    rw [hr]
    exact ⟨_, [], rfl, ⟨rfl, rfl⟩, hs.fitD⟩
theorem gr_msg (n : Nat) (hn : n ≤ 1099511627776) : Fn Tryz.prog 147 [.slice none 0 0, .int .i64 n].toArray [] (fun r post => ∃ p cap, r = .slice p 0 cap ∧ post = [RowO Kd.msg 56 p cap []]) := by
 refine Fn.enter (N := 27) func147 rfl ntmps147 tK rfl (fun ρ L => ?_)
 refine ky<|ka rfl<|zm<|ke<|ky<|km rfl<|kq (q_lt rfl rfl)<|zm ?_
 refine kD (s := 6) rfl (fun g6 => ?_) (fun g6 => ?_)
 ·exact absurd g6 tO
 ·refine za<|ke<|ky<|km rfl<|km rfl<|kq (q_cap underlying60 rfl)<|km rfl<|kq (qG underlying60 rfl)<|kq (q_sub rfl rfl tN tN)<|kq (q_is (q_sub rfl rfl tN tN) (show Value.int .i64 ((n : Int) - (((0 : Nat) : Int) - ((0 : Nat) : Int))) = .int .i64 (n : Int) by simp))<|ka rfl<|kz<|km rfl<|kq (q_gt rfl rfl)<|zm ?_
  refine kD (s := 16) rfl (fun g16 => ?_) (fun g16 => ?_)
  ·refine kr<|km rfl<|km rfl<|kq (q_cap underlying60 rfl)<|kq (q_cutH se_60 rfl rfl tN tN)<|km rfl<|kl (l_growNil Kd.msg se_60 underlying3 ⟨_, ze_56, rfl⟩ rfl rfl tO tO tO) ?_
   rintro _ _ ⟨b22, cap22, rfl, rfl⟩
   refine km rfl<|kq (qG underlying60 rfl)<|kq (q_cutH se_60 rfl rfl tN tN)<|ka rfl<|kz<|km rfl<|ka rfl<|zm ?_
   refine kr1 func147 results147 rfl (fun w hs => ?_)
   first
    | exact ⟨_, [RowO Kd.msg 56 (some ⟨b22, 0, none⟩) cap22 []], rfl, ⟨some ⟨b22, 0, none⟩, cap22, rfl, rfl⟩, hs.fitD⟩
    | exact ⟨_, [RowO Kd.msg 56 none 0 []], rfl, ⟨none, 0, rfl, rfl⟩, hs.fitD⟩
  ·refine K.st (fun w h => rowO_nil (k := Kd.msg) 56 h)<|za<|ky<|km rfl<|ka rfl<|zm ?_
   refine kr1 func147 results147 rfl (fun w hs => ?_)
   first
    | exact ⟨_, [RowO Kd.msg 56 (some ⟨b22, 0, none⟩) cap22 []], rfl, ⟨some ⟨b22, 0, none⟩, cap22, rfl, rfl⟩, hs.fitD⟩
    | exact ⟨_, [RowO Kd.msg 56 none 0 []], rfl, ⟨none, 0, rfl, rfl⟩, hs.fitD⟩
theorem flat_take_succ {l : List (Sl Msg)} {i : Nat} {e : Sl Msg} (h : l[i]? = some e) : (l.take (i + 1)).flatMap (·.l) = (l.take i).flatMap (·.l) ++ e.l := by
 rw [List.take_add_one, h]; simp
theorem flat_le {l : List (Sl Msg)} (i : Nat) : ((l.take i).flatMap (·.l)).length ≤ (l.flatMap (·.l)).length := by
 have : l.flatMap (·.l) = (l.take i).flatMap (·.l) ++ (l.drop i).flatMap (·.l) := by rw [← List.flatMap_append, List.take_append_drop]
 rw [this, List.length_append]; omega
set_option maxHeartbeats 800000 in
theorem cc_msg (q : Option Addr) (cap : Nat) (l : List (Sl Msg)) (hl : l.length ≤ 1000) (hb : (l.flatMap (·.l)).length ≤ 1099511627776) : Fn Tryz.prog 96 [.slice q l.length cap].toArray [RowF Kd.sl q l, NestSl Kd.msg l] (fun r post => ∃ q' c', r = .slice q' (l.flatMap (·.l)).length c' ∧ post = [RowF Kd.msg q' (l.flatMap (·.l))]) := by
 refine Fn.enter (N := 36) func96 rfl ntmps96 tK rfl (fun ρ L => ?_)
 refine ky<|ka rfl<|kz<|ka rfl<|zm<|ke<|ky<|km rfl<|kq (qG underlying188 rfl)<|km rfl<|zm<|kB ?_
 refine K.rloop (ι := { i : Nat // i ≤ l.length }) (fun x => [(11, .int .i64 x.1), (10, .int .i64 l.length), (9, .slice q l.length cap), (3, .int .i64 ((l.take x.1).flatMap (·.l)).length), (0, .slice q l.length cap)]) (fun x => l.length - x.1) ⟨0, Nat.zero_le _⟩ tS (fun x ih => ?_)
 obtain ⟨i, hi⟩ := x
 have hfl := flat_le (l := l) i
 dsimp only at hi ⊢
 refine ky<|kq (q_lt rfl rfl)<|zm<|ke ?_
 refine kD (s := 12) rfl (fun g12 => ?_) (fun g12 => ?_)
 ·obtain ⟨e, he⟩ : ∃ e, l[i]? = some e := ⟨_, List.getElem?_eq_getElem tO⟩
  have hf2 := flat_le (l := l) (i + 1)
  have hs2 := congrArg List.length (flat_take_succ he)
  rw [List.length_append] at hs2
  refine za<|ke<|kB<|ke<|kr ?_
  first | refine kq (q_ix _ se_188 rfl rfl rfl isF tM rfl tL) ?_ | refine kq (q_ix _ se_188 rfl rfl rfl isO tM rfl tL) ?_
  first | refine kq (q_ldE ck_60 rfl isF tM tE rfl) ?_ | refine kq (q_ldE ck_60 rfl isO tM tE rfl) ?_
  refine ka rfl<|kz<|km rfl<|km rfl<|kq (qG underlying60 rfl)<|kq (q_add rfl rfl tN tN)<|ka rfl<|kz<|km rfl<|kq (q_lt rfl rfl)<|zm ?_
  refine kD (s := 20) rfl (fun g20 => ?_) (fun g20 => ?_)
  ·exact absurd g20 tO
  ·refine za<|zd<|kr<|kq (q_add rfl rfl tN tN)<|km rfl<|zm ?_
   refine K.subE (eC rfl (eC rfl (eC rfl (eC ?_ (eC rfl (Env.sub_nil _)))))) (ih ⟨i + 1, by omega⟩ (by show l.length - (i + 1) < l.length - i; omega))
   show _ = some (Value.int .i64 (((l.take (i + 1)).flatMap (·.l)).length : Int))
   rw [hs2]
   rfl
 ·obtain rfl : i = l.length := by omega
  rw [List.take_length]
  refine K.exit rfl<|ky<|km rfl<|kl (OpL.callE rfl (gr_msg _ hb)) ?_
  rintro _ _ ⟨_, ⟨p1, cap1, rfl, rfl⟩, rfl⟩
  refine ka rfl<|zm<|ke<|ky<|km rfl<|kq (qG underlying188 rfl)<|km rfl<|zm<|kB ?_
  refine kX (ι := { x : Nat × Option Addr × Nat // x.1 ≤ l.length }) (fun x => [(27, .int .i64 x.1.1), (26, .int .i64 l.length), (25, .slice q l.length cap), (6, .slice x.1.2.1 ((l.take x.1.1).flatMap (·.l)).length x.1.2.2)]) (fun x => [RowO Kd.msg 56 x.1.2.1 x.1.2.2 ((l.take x.1.1).flatMap (·.l)), RowF Kd.sl q l, NestSl Kd.msg l] ++ L) (fun x => l.length - x.1.1) ⟨(0, p1, cap1), Nat.zero_le _⟩ tS (fun w h => h.fitD) (fun x ih => ?_)
  obtain ⟨⟨i, p', cap'⟩, hi⟩ := x
  have hfl := flat_le (l := l) i
  dsimp only at hi ⊢
  refine ky<|kq (q_lt rfl rfl)<|zm<|ke ?_
  refine kD (s := 28) rfl (fun g28 => ?_) (fun g28 => ?_)
  ·obtain ⟨e, he⟩ : ∃ e, l[i]? = some e := ⟨_, List.getElem?_eq_getElem tO⟩
   have hf2 := flat_le (l := l) (i + 1)
   have hs2 := congrArg List.length (flat_take_succ he)
   rw [List.length_append] at hs2
   refine K.st (fun w h => nestSl_at (k := Kd.msg) (l := l) tM (List.mem_of_getElem? he) h) ?_
   refine za<|ke<|kB<|ke<|kr ?_
   first | refine kq (q_ix _ se_188 rfl rfl rfl isF tM rfl tL) ?_ | refine kq (q_ix _ se_188 rfl rfl rfl isO tM rfl tL) ?_
   first | refine kq (q_ldE ck_60 rfl isF tM tE rfl) ?_ | refine kq (q_ldE ck_60 rfl isO tM tE rfl) ?_
   refine ka rfl<|zm<|kr<|km rfl<|km rfl<|kl (lX Kd.msg se_60 underlying60 ⟨_, ze_56, rfl⟩ tD rfl rfl tP (isF (p := e.q) (xs := e.l)) tM rfl rfl tO) ?_
   rintro _ _ ⟨p2, cap2, rfl, rfl⟩
   refine ka rfl<|zm<|zd<|kr<|kq (q_add rfl rfl tN tN)<|km rfl<|zm ?_
   rw [← flat_take_succ he]
   refine K.weak tS (fun w h => ?_) (ih ⟨(i + 1, p2, cap2), by show i + 1 ≤ l.length; omega⟩ (by show l.length - (i + 1) < l.length - i; omega))
   dsimp only
   exact h.fitD
  ·obtain rfl : i = l.length := by omega
   rw [List.take_length]
   refine K.st (fun w h => rO (h.pick tP))<|K.exit rfl<|ky<|km rfl<|ka rfl<|zm ?_
   refine kr1 func96 results96 rfl (fun w hs => ?_)
   exact ⟨_, [RowF Kd.msg p' (l.flatMap (·.l))], rfl, ⟨p', cap', rfl, rfl⟩, hs.fitD⟩
theorem all_any {α : Type} (l : List α) (p : α → Bool) : l.all p = !(l.any (fun x => !p x)) := by rw [List.not_any_eq_all_not]; simp
theorem so1 (r : Rw) : Fn Tryz.prog 179 [.agg r.cells.toArray].toArray [] (fun v post => v = .bool (!r.right) ∧ post = []) := by
 refine Fn.enter (N := 6) func179 rfl ntmps179 tK rfl (fun ρ L => ?_)
 refine ky<|kl (l_box rfl rfl) ?_
 rintro _ _ ⟨b1, rfl, rfl⟩
 refine ka rfl<|kz<|kq (qL ck_136 rfl rfl tC)<|kl (kc rfl (h := rw_Right _)) ?_
 rintro _ _ ⟨_, ⟨rfl, rfl⟩, rfl⟩
 refine kq (q_not rfl)<|ka rfl<|zm ?_
 refine kr1 func179 results179 rfl (fun w hs => ?_)
 exact ⟨_, [], rfl, ⟨rfl, rfl⟩, hs.fitD⟩
theorem so2 (m : Msg) : Fn Tryz.prog 180 [.agg m.cells.toArray].toArray [] (fun v post => v = .bool (!m.right) ∧ post = []) := by
 refine Fn.enter (N := 6) func180 rfl ntmps180 tK rfl (fun ρ L => ?_)
 refine ky<|kl (l_box rfl rfl) ?_
 rintro _ _ ⟨b1, rfl, rfl⟩
 refine ka rfl<|kz<|kq (qL ck_56 rfl rfl tC)<|kl (kc rfl (h := msg_Right _)) ?_
 rintro _ _ ⟨_, ⟨rfl, rfl⟩, rfl⟩
 refine kq (q_not rfl)<|ka rfl<|zm ?_
 refine kr1 func180 results180 rfl (fun w hs => ?_)
 exact ⟨_, [], rfl, ⟨rfl, rfl⟩, hs.fitD⟩
abbrev wrongV : Value := .func (.func 180) #[] #[]
theorem so3 (b : Nat) (m : Msg) : Fn Tryz.prog 183 [.agg m.cells.toArray, .pointer (some ⟨b, 0, none⟩)].toArray [pv b 165 [wrongV]] (fun v post => v = .bool (m.claimed || !m.right) ∧ post = [pv b 165 [wrongV]]) := by
 refine Fn.enter (N := 11) func183 rfl ntmps183 tK rfl (fun ρ L => ?_)
 refine ky<|kl (l_box rfl rfl) ?_
 rintro _ _ ⟨b2, rfl, rfl⟩
 refine ka rfl<|kz<|kq (qO fo_56_3 rfl)<|kq (qD ck_4 rfl)<|km rfl ?_
 first | refine KO.dsplit 6 rfl (fun g6 => ?_) (fun g6 => ?_) | refine KO.split 6 rfl (fun g6 => ?_) (fun g6 => ?_)
 ·refine zq<|zq<|zq<|kq (qT rfl rfl)<|ka rfl<|zm ?_
  refine kr1 func183 results183 rfl (fun w hs => ?_)
  exact ⟨_, [pv b 165 [wrongV]], rfl, ⟨by rw [g6]; rfl, rfl⟩, hs.fitD⟩
 ·refine kq (qD ck_165 rfl)<|kq (qL ck_56 rfl rfl tC)<|kl (OpL.callCG (first := []) (captured := []) rfl rfl tG (so2 m)) ?_
  rintro _ _ ⟨_, ⟨rfl, rfl⟩, rfl⟩
  refine kq (qF rfl rfl)<|ka rfl<|zm ?_
  refine kr1 func183 results183 rfl (fun w hs => ?_)
  exact ⟨_, [pv b 165 [wrongV]], rfl, ⟨by rw [g6]; rfl, rfl⟩, hs.fitD⟩
set_option maxHeartbeats 1600000 in
theorem st_object (o : Oz) (hok : o.ok) : Fn Tryz.prog 133 [.agg o.cells.toArray].toArray (ObL o) (fun v post => v = .bool o.x.right ∧ post = []) := by
 obtain ⟨⟨hs1, hs2, hs3, hs4, hs5, hs6, hs7, hs8, hs9⟩, hc1, hc2, hc3⟩ := hok
 have hz : ∀ r ∈ o.x.rows, (r.key.size : Int) ≤ 9223372036854775807 := fun r hr => by have := (hs4 r hr).1; omega
 refine Fn.enter (N := 59) func133 rfl ntmps133 tK rfl (fun ρ L => ?_)
 refine ky<|kl (l_box rfl rfl) ?_
 rintro _ _ ⟨b1, rfl, rfl⟩
 refine ka rfl<|zm<|ke<|ky<|kq (qO fo_62_0 rfl)<|kq (qD ck_9 rfl)<|kq (qO fo_62_1 rfl)<|kq (qD ck_3 rfl)<|kq (qO fo_62_2 rfl)<|kq (qD ck_3 rfl)<|kl (kc rfl (h := eff_Object _ _ _)) ?_
 rintro _ _ ⟨_, ⟨rfl, rfl⟩, rfl⟩
 refine kq (q_not rfl)<|zm ?_
 refine kT (s := 11) rfl (fun g11 => ?_) (fun g11 => ?_)
 ·have hr : o.x.right = false := by
   unfold Ob.right
   rw [show (effName o.x.name && effKind o.x.kind o.x.limit) = false by simpa only [Bool.not_eq_true'] using g11]
   exact Bool.false_and _
  refine ky<|ka rfl<|zm ?_
  refine kr1 func133 results133 rfl (fun w hs => ?_)
  exact ⟨_, [], rfl, ⟨by
   refine congrArg Value.bool (Eq.trans ?_ hr.symm)
   clear hr hs hs1 hs2 hs3 hs4 hs5 hs6 hs7 hs8 hs9 hc1 hc2 hc3 hz
   generalize o.x.rows.any (fun r => !r.right) = A1 at *
   generalize o.x.msgs.any (fun m => !m.right) = A2 at *
   generalize o.x.dead.any (fun m => m.claimed || !m.right) = A3 at *
   clear g11
   simp_all, rfl⟩, hs.fitD⟩
 ·have hr : o.x.right = (if o.x.kind = 1 then decide ((o.x.msgs.length : Int) = 0) && decide ((o.x.dead.length : Int) = 0) && risesR o.x.rows && !(o.x.rows.any (fun r => !r.right)) else decide ((o.x.rows.length : Int) = 0) && risesM o.x.msgs && !(o.x.msgs.any (fun m => !m.right)) && !(o.x.dead.any (fun m => m.claimed || !m.right))) := by
   unfold Ob.right
   rw [show (effName o.x.name && effKind o.x.kind o.x.limit) = true by simpa only [Bool.not_eq_false'] using g11, all_any o.x.rows, all_any o.x.msgs, all_any o.x.dead, Bool.true_and]
   simp only [Bool.not_and, Bool.not_not]
  refine za<|ke<|ky<|kq (qO fo_62_1 rfl)<|kq (qD ck_3 rfl)<|kq (q_eq rfl rfl)<|zm ?_
  refine kD (s := 14) rfl (fun g14 => ?_) (fun g14 => ?_)
  ·refine ky<|kq (qO fo_62_4 rfl)<|kq (qD ck_60 rfl)<|kq (qG underlying60 rfl)<|kq (q_eq rfl rfl)<|km rfl ?_
   refine KO.dsplit 19 rfl (fun g19 => ?_) (fun g19 => ?_)
   ·refine kq (qO fo_62_5 rfl)<|kq (qD ck_60 rfl)<|kq (qG underlying60 rfl)<|kq (q_eq rfl rfl)<|kq (qT rfl rfl)<|km rfl ?_
    refine KO.dsplit 25 rfl (fun g25 => ?_) (fun g25 => ?_)
    ·refine kq (qO fo_62_3 rfl)<|kq (qD ck_59 rfl)<|kl (kc rfl (h := nd_Rises _ _ _ tN (by assumption))) ?_
     rintro _ _ ⟨_, ⟨rfl, rfl⟩, rfl⟩
     refine kq (qT rfl rfl)<|km rfl ?_
     refine KO.split 30 rfl (fun g30 => ?_) (fun g30 => ?_)
     ·refine kq (qO fo_62_3 rfl)<|kq (qD ck_59 rfl)<|KO.st (fun w h => St.emp h)<|kl (kc rfl (h := cof_rw emp o.z.q1 o.z.c1 o.x.rows 179 [] (fun r => !r.right) tO (fun x _ => (so1 x).frame1 emp))) ?_
      rintro _ _ ⟨_, ⟨rfl, rfl⟩, rfl⟩
      refine kq (q_not rfl)<|kq (qT rfl rfl)<|ka rfl<|zm ?_
      refine kr1 func133 results133 rfl (fun w hs => ?_)
      exact ⟨_, [], rfl, ⟨by
       refine congrArg Value.bool (Eq.trans ?_ hr.symm)
       clear hr hs hs1 hs2 hs3 hs4 hs5 hs6 hs7 hs8 hs9 hc1 hc2 hc3 hz
       generalize o.x.rows.any (fun r => !r.right) = A1 at *
       generalize o.x.msgs.any (fun m => !m.right) = A2 at *
       generalize o.x.dead.any (fun m => m.claimed || !m.right) = A3 at *
       clear g11
       simp_all, rfl⟩, hs.fitD⟩
     ·refine zq<|zq<|zq<|zq<|kq (qF rfl rfl)<|ka rfl<|zm ?_
      refine kr1 func133 results133 rfl (fun w hs => ?_)
      exact ⟨_, [], rfl, ⟨by
       refine congrArg Value.bool (Eq.trans ?_ hr.symm)
       clear hr hs hs1 hs2 hs3 hs4 hs5 hs6 hs7 hs8 hs9 hc1 hc2 hc3 hz
       generalize o.x.rows.any (fun r => !r.right) = A1 at *
       generalize o.x.msgs.any (fun m => !m.right) = A2 at *
       generalize o.x.dead.any (fun m => m.claimed || !m.right) = A3 at *
       clear g11
       simp_all, rfl⟩, hs.fitD⟩
    ·refine zq<|zq<|zq<|kq (qF rfl rfl)<|km rfl<|zq<|zq<|zq<|zq<|kq (qF rfl rfl)<|ka rfl<|zm ?_
     refine kr1 func133 results133 rfl (fun w hs => ?_)
     exact ⟨_, [], rfl, ⟨by
      refine congrArg Value.bool (Eq.trans ?_ hr.symm)
      clear hr hs hs1 hs2 hs3 hs4 hs5 hs6 hs7 hs8 hs9 hc1 hc2 hc3 hz
      generalize o.x.rows.any (fun r => !r.right) = A1 at *
      generalize o.x.msgs.any (fun m => !m.right) = A2 at *
      generalize o.x.dead.any (fun m => m.claimed || !m.right) = A3 at *
      clear g11
      simp_all, rfl⟩, hs.fitD⟩
   ·refine zq<|zq<|zq<|zq<|kq (qF rfl rfl)<|km rfl<|zq<|zq<|zq<|kq (qF rfl rfl)<|km rfl<|zq<|zq<|zq<|zq<|kq (qF rfl rfl)<|ka rfl<|zm ?_
    refine kr1 func133 results133 rfl (fun w hs => ?_)
    exact ⟨_, [], rfl, ⟨by
     refine congrArg Value.bool (Eq.trans ?_ hr.symm)
     clear hr hs hs1 hs2 hs3 hs4 hs5 hs6 hs7 hs8 hs9 hc1 hc2 hc3 hz
     generalize o.x.rows.any (fun r => !r.right) = A1 at *
     generalize o.x.msgs.any (fun m => !m.right) = A2 at *
     generalize o.x.dead.any (fun m => m.claimed || !m.right) = A3 at *
     clear g11
     simp_all, rfl⟩, hs.fitD⟩
  ·refine za<|ky<|kl (lL zo_165) ?_
   rintro _ _ ⟨b3, rfl, rfl⟩
   refine kN rfl (lA ck_165 rfl rfl rfl tP tA) ?_
   rintro _ _ ⟨rfl, rfl⟩
   refine kz<|kq (qO fo_62_3 rfl)<|kq (qD ck_59 rfl)<|kq (qG underlying59 rfl)<|kq (q_eq rfl rfl)<|km rfl ?_
   refine KO.dsplit 40 rfl (fun g40 => ?_) (fun g40 => ?_)
   ·refine kq (qO fo_62_4 rfl)<|kq (qD ck_60 rfl)<|kl (kc rfl (h := qu_Rises _ _ _ tN)) ?_
    rintro _ _ ⟨_, ⟨rfl, rfl⟩, rfl⟩
    refine kq (qT rfl rfl)<|km rfl ?_
    refine KO.split 45 rfl (fun g45 => ?_) (fun g45 => ?_)
    ·refine kq (qO fo_62_4 rfl)<|kq (qD ck_60 rfl)<|kq (qD ck_165 rfl)<|KO.st (fun w h => St.emp h)<|kl (kc rfl (h := cof_msg emp o.z.q2 o.z.c2 o.x.msgs 180 [] (fun m => !m.right) tO (fun x _ => (so2 x).frame1 emp))) ?_
     rintro _ _ ⟨_, ⟨rfl, rfl⟩, rfl⟩
     refine kq (q_not rfl)<|kq (qT rfl rfl)<|km rfl ?_
     refine KO.split 52 rfl (fun g52 => ?_) (fun g52 => ?_)
     ·refine kq (qO fo_62_5 rfl)<|kq (qD ck_60 rfl)<|kq (q_func rfl rfl)<|kl (kc rfl (h := cof_msg (pv b3 165 [wrongV]) o.z.q3 o.z.c3 o.x.dead 183 [.pointer (some ⟨b3, 0, none⟩)] (fun m => m.claimed || !m.right) tO (fun x _ => so3 b3 x))) ?_
      rintro _ _ ⟨_, ⟨rfl, rfl⟩, rfl⟩
      refine kq (q_not rfl)<|kq (qT rfl rfl)<|ka rfl<|zm ?_
      refine kr1 func133 results133 rfl (fun w hs => ?_)
      exact ⟨_, [], rfl, ⟨by
       refine congrArg Value.bool (Eq.trans ?_ hr.symm)
       clear hr hs hs1 hs2 hs3 hs4 hs5 hs6 hs7 hs8 hs9 hc1 hc2 hc3 hz
       generalize o.x.rows.any (fun r => !r.right) = A1 at *
       generalize o.x.msgs.any (fun m => !m.right) = A2 at *
       generalize o.x.dead.any (fun m => m.claimed || !m.right) = A3 at *
       clear g11
       simp_all, rfl⟩, hs.fitD⟩
     ·refine zq<|zq<|zq<|zq<|zq<|kq (qF rfl rfl)<|ka rfl<|zm ?_
      refine kr1 func133 results133 rfl (fun w hs => ?_)
      exact ⟨_, [], rfl, ⟨by
       refine congrArg Value.bool (Eq.trans ?_ hr.symm)
       clear hr hs hs1 hs2 hs3 hs4 hs5 hs6 hs7 hs8 hs9 hc1 hc2 hc3 hz
       generalize o.x.rows.any (fun r => !r.right) = A1 at *
       generalize o.x.msgs.any (fun m => !m.right) = A2 at *
       generalize o.x.dead.any (fun m => m.claimed || !m.right) = A3 at *
       clear g11
       simp_all, rfl⟩, hs.fitD⟩
    ·refine zq<|zq<|zq<|zq<|zq<|kq (qF rfl rfl)<|km rfl<|zq<|zq<|zq<|zq<|zq<|kq (qF rfl rfl)<|ka rfl<|zm ?_
     refine kr1 func133 results133 rfl (fun w hs => ?_)
     exact ⟨_, [], rfl, ⟨by
      refine congrArg Value.bool (Eq.trans ?_ hr.symm)
      clear hr hs hs1 hs2 hs3 hs4 hs5 hs6 hs7 hs8 hs9 hc1 hc2 hc3 hz
      generalize o.x.rows.any (fun r => !r.right) = A1 at *
      generalize o.x.msgs.any (fun m => !m.right) = A2 at *
      generalize o.x.dead.any (fun m => m.claimed || !m.right) = A3 at *
      clear g11
      simp_all, rfl⟩, hs.fitD⟩
   ·refine zq<|zq<|zq<|kq (qF rfl rfl)<|km rfl<|zq<|zq<|zq<|zq<|zq<|kq (qF rfl rfl)<|km rfl<|zq<|zq<|zq<|zq<|zq<|kq (qF rfl rfl)<|ka rfl<|zm ?_
    refine kr1 func133 results133 rfl (fun w hs => ?_)
    exact ⟨_, [], rfl, ⟨by
     refine congrArg Value.bool (Eq.trans ?_ hr.symm)
     clear hr hs hs1 hs2 hs3 hs4 hs5 hs6 hs7 hs8 hs9 hc1 hc2 hc3 hz
     generalize o.x.rows.any (fun r => !r.right) = A1 at *
     generalize o.x.msgs.any (fun m => !m.right) = A2 at *
     generalize o.x.dead.any (fun m => m.claimed || !m.right) = A3 at *
     clear g11
     simp_all, rfl⟩, hs.fitD⟩
def Sz.few (s : Sz) : Prop := ∀ o ∈ s.l, o.x.msgs.length + o.x.dead.length ≤ 1099511627776
def idsTo (s : Sz) (i : Nat) : List Int := (s.l.take i).flatMap (fun o => o.x.ids)
theorem idsTo_succ {s : Sz} {i : Nat} {o : Oz} (h : s.l[i]? = some o) : idsTo s (i + 1) = idsTo s i ++ o.x.ids := by
 unfold idsTo
 rw [List.take_add_one, h]; simp
theorem idsTo_all (s : Sz) : idsTo s s.l.length = s.st.ids := by
 unfold idsTo Stt.ids Sz.st
 rw [List.take_length, List.flatMap_map]
theorem ids_pre {s : Sz} {i : Nat} {o : Oz} (h : s.l[i]? = some o) : ∃ r, s.st.ids = idsTo s i ++ o.x.ids ++ r := by
 rw [← idsTo_succ h]
 refine ⟨((s.l.drop (i + 1)).flatMap (fun o => o.x.ids)), ?_⟩
 rw [← idsTo_all, idsTo, List.take_length, idsTo, ← List.flatMap_append, List.take_append_drop]
theorem once_dup {s : Sz} {i k : Nat} {o : Oz} {m : Msg} (h : s.l[i]? = some o) (hm : (o.x.msgs ++ o.x.dead)[k]? = some m) (hd : m.id ∈ idsTo s i ++ ((o.x.msgs ++ o.x.dead).take k).map (·.id)) : s.st.once = false := by
 unfold Stt.once
 rw [decide_eq_false, Bool.false_and]
 intro hn
 obtain ⟨r, hr⟩ := ids_pre h
 rw [hr] at hn
 have h1 := (List.nodup_append.1 hn).1
 have e : o.x.ids = ((o.x.msgs ++ o.x.dead).take k).map (·.id) ++ m.id :: ((o.x.msgs ++ o.x.dead).drop (k + 1)).map (·.id) := by
  obtain ⟨hk, e⟩ := List.getElem?_eq_some_iff.1 hm
  have : o.x.msgs ++ o.x.dead = (o.x.msgs ++ o.x.dead).take k ++ m :: (o.x.msgs ++ o.x.dead).drop (k + 1) := by
   rw [← e, List.getElem_cons_drop hk, List.take_append_drop]
  unfold Ob.ids
  conv => lhs; rw [this]
  simp
 rw [e, ← List.append_assoc] at h1
 exact (List.nodup_append.1 h1).2.2 _ hd _ List.mem_cons_self rfl
theorem once_big {s : Sz} {i k : Nat} {o : Oz} {m : Msg} (h : s.l[i]? = some o) (hm : (o.x.msgs ++ o.x.dead)[k]? = some m) (hd : ¬ m.id < s.next) : s.st.once = false := by
 have hin : m.id ∈ s.st.ids := by
  obtain ⟨r, hr⟩ := ids_pre h
  rw [hr]
  exact List.mem_append_left _ (List.mem_append_right _ (List.mem_map.2 ⟨m, List.mem_of_getElem? hm, rfl⟩))
 have : s.st.ids.all (fun n => decide (n < s.st.next)) = false := by
  rw [List.all_eq_false]
  exact ⟨m.id, hin, by rw [decide_eq_true_eq]; exact hd⟩
 unfold Stt.once
 rw [this, Bool.and_false]
theorem ids_step {l : List Msg} {k : Nat} {m : Msg} (h : l[k]? = some m) (A : List Int) : A ++ (l.take (k + 1)).map (·.id) = (A ++ (l.take k).map (·.id)) ++ [m.id] := by
 rw [ids_snoc h, List.append_assoc]
set_option maxHeartbeats 1600000 in
theorem st_once (s : Sz) (hok : s.ok) (hfew : s.few) : Fn Tryz.prog 135 [.agg s.cells.toArray].toArray (StL s) (fun v post => v = .bool s.st.once ∧ post = []) := by
 obtain ⟨hn0, hl, hlc, hall⟩ := hok
 refine Fn.enter (N := 43) func135 rfl ntmps135 tK rfl (fun ρ L => ?_)
 refine ky<|kl (l_box rfl rfl) ?_
 rintro _ _ ⟨b1, rfl, rfl⟩
 refine ka rfl<|kz<|kl (l_makeMap (fun n : Int => Value.int .i64 n)) ?_
 rintro _ _ ⟨b8, rfl, rfl⟩
 refine ka rfl<|zm<|ke<|ky<|kq (qO fo_47_1 rfl)<|kq (qD ck_45 rfl)<|kq (qG underlying45 rfl)<|km rfl<|zm<|kB ?_
 refine kX (ι := { x : Nat × List (Int × Value) // x.1 ≤ s.l.length ∧ (idsTo s x.1).Nodup ∧ (∀ n ∈ idsTo s x.1, n < s.next) ∧ Seen (idsTo s x.1) x.2 }) (fun x => [(12, .int .i64 x.1.1), (11, .int .i64 s.l.length), (10, .slice s.q s.l.length s.c), (3, .map (some b8)), (1, .pointer (some ⟨b1, 0, none⟩))]) (fun x => [mpO (fun n : Int => Value.int .i64 n) b8 x.1.2, pv b1 47 s.cells, RowF Kd.oz s.q s.l, NestF s.l] ++ L) (fun x => s.l.length - x.1.1) ⟨(0, []), Nat.zero_le _, by simp [idsTo], by simp [idsTo], Seen.nil⟩ tS (fun w h => h.fitD) (fun x ih => ?_)
 obtain ⟨⟨i, es⟩, hi, hnd, hlt, hse⟩ := x
 dsimp only at hi hnd hlt hse ⊢
 refine ky<|kq (q_lt rfl rfl)<|zm<|ke ?_
 refine kD (s := 13) rfl (fun g13 => ?_) (fun g13 => ?_)
 ·obtain ⟨o, ho⟩ : ∃ e, s.l[i]? = some e := ⟨_, List.getElem?_eq_getElem tO⟩
  have hmo := List.mem_of_getElem? ho
  have hfo := hfew o hmo
  refine K.st (fun w h => nA (l := s.l) tM hmo h)<|za<|ke<|kB<|ke<|kr ?_
  first | refine kq (q_ix _ se_45 rfl rfl rfl isF tM rfl tL) ?_ | refine kq (q_ix _ se_45 rfl rfl rfl isO tM rfl tL) ?_
  first | refine kq (q_ldEN ck_62 rfl isF tM tE) ?_ | refine kq (q_ldEN ck_62 rfl isO tM tE) ?_
  refine kl (lL zo_62) ?_
  rintro _ _ ⟨b5, rfl, rfl⟩
  refine kN rfl (lS ck_62 rfl rfl ⟨rfl, rfl⟩ (oz_one _) tP) ?_
  rintro _ _ ⟨rfl, rfl⟩
  refine kz<|kq (qO fo_62_4 rfl)<|kq (qD ck_60 rfl)<|kq (qO fo_62_5 rfl)<|kq (qD ck_60 rfl)<|kl (l_slice sz_188_2 rfl tF) ?_
  rintro _ _ ⟨b20, rfl, rfl⟩
  refine KO.st (fun w h => pv_flat (n := 1) (enc := Sl.cells) (hl := fun _ => rfl) (h1 := fun _ v h => by simp [Sl.cells] at h; subst h; rfl) [⟨o.z.q2, o.z.c2, o.x.msgs⟩, ⟨o.z.q3, o.z.c3, o.x.dead⟩] rfl h)<|KO.st (fun w h => nestSl_nil (k := Kd.msg) h)<|KO.st (fun w h => nestSl_cons (k := Kd.msg) (l := []) ⟨o.z.q3, o.z.c3, o.x.dead⟩ tM tM h)<|KO.st (fun w h => nestSl_cons (k := Kd.msg) (l := [⟨o.z.q3, o.z.c3, o.x.dead⟩]) ⟨o.z.q2, o.z.c2, o.x.msgs⟩ tM tM h)<|kl (OpL.callE rfl (cc_msg (some ⟨b20, 0, none⟩) 2 [⟨o.z.q2, o.z.c2, o.x.msgs⟩, ⟨o.z.q3, o.z.c3, o.x.dead⟩] (by simp) (by simp; omega))) ?_
  rintro _ _ ⟨_, ⟨q9, c9, rfl, rfl⟩, rfl⟩
  rw [show [(⟨o.z.q2, o.z.c2, o.x.msgs⟩ : Sl Msg), ⟨o.z.q3, o.z.c3, o.x.dead⟩].flatMap (·.l) = o.x.msgs ++ o.x.dead by simp]
  have hcl : (o.x.msgs ++ o.x.dead).length ≤ 1099511627776 := by rw [List.length_append]; exact hfo
  refine kq (qG underlying60 rfl)<|km rfl<|zm<|kB ?_
  refine kX (ι := { x : Nat × List (Int × Value) // x.1 ≤ (o.x.msgs ++ o.x.dead).length ∧ (idsTo s i ++ ((o.x.msgs ++ o.x.dead).take x.1).map (·.id)).Nodup ∧ (∀ n ∈ idsTo s i ++ ((o.x.msgs ++ o.x.dead).take x.1).map (·.id), n < s.next) ∧ Seen (idsTo s i ++ ((o.x.msgs ++ o.x.dead).take x.1).map (·.id)) x.2 }) (fun x => [(23, .int .i64 x.1.1), (22, .int .i64 (o.x.msgs ++ o.x.dead).length), (21, .slice q9 (o.x.msgs ++ o.x.dead).length c9), (12, .int .i64 i), (11, .int .i64 s.l.length), (10, .slice s.q s.l.length s.c), (3, .map (some b8)), (1, .pointer (some ⟨b1, 0, none⟩))]) (fun x => [mpO (fun n : Int => Value.int .i64 n) b8 x.1.2, RowF Kd.msg q9 (o.x.msgs ++ o.x.dead), pv b1 47 s.cells, RowF Kd.oz s.q s.l, NestF s.l] ++ L) (fun x => (o.x.msgs ++ o.x.dead).length - x.1.1) ⟨(0, es), Nat.zero_le _, by simpa using hnd, by simpa using hlt, by simpa using hse⟩ tS (fun w h => h.fitD) (fun x ih2 => ?_)
  obtain ⟨⟨k, es2⟩, hk, hnd2, hlt2, hse2⟩ := x
  dsimp only at hk hnd2 hlt2 hse2 ⊢
  refine ky<|kq (q_lt rfl rfl)<|zm<|ke ?_
  refine kD (s := 24) rfl (fun g24 => ?_) (fun g24 => ?_)
  ·obtain ⟨m, hm⟩ : ∃ e, (o.x.msgs ++ o.x.dead)[k]? = some e := ⟨_, List.getElem?_eq_getElem tO⟩
   have hlk := hse2.get m.id
   refine za<|ke<|kB<|ke<|kr ?_
   first | refine kq (q_ix _ se_60 rfl rfl rfl isF tM rfl tL) ?_ | refine kq (q_ix _ se_60 rfl rfl rfl isO tM rfl tL) ?_
   first | refine kq (q_ldEN ck_56 rfl isF tM tE) ?_ | refine kq (q_ldEN ck_56 rfl isO tM tE) ?_
   refine kl (lL zo_56) ?_
   rintro _ _ ⟨b7, rfl, rfl⟩
   refine kN rfl (lS ck_56 rfl rfl ⟨rfl, rfl⟩ (msg_one _) tP) ?_
   rintro _ _ ⟨rfl, rfl⟩
   refine zm<|ke<|ky<|km rfl<|kq (qO fo_56_0 rfl)<|kq (qD ck_3 rfl)<|kq (q_is (q_lookup underlying215 (mkey_int underlying3) zv_bool rfl rfl tM) hlk)<|km rfl ?_
   first | refine KO.dsplit 31 rfl (fun g31 => ?_) (fun g31 => ?_) | refine KO.split 31 rfl (fun g31 => ?_) (fun g31 => ?_)
   ·refine zq<|zq<|zq<|zq<|zq<|kq (qT rfl rfl)<|zm<|K.yes rfl<|ke ?_
    have hr : s.st.once = false := by
     first
      | exact once_dup ho hm g31
      | exact once_big ho hm tO
    refine kr<|ka rfl<|zm ?_
    refine kr1 func135 results135 rfl (fun w hs => ?_)
    rw [hr]
    exact ⟨_, [], rfl, ⟨rfl, rfl⟩, hs.fitD⟩
   ·refine kq (qO fo_56_0 rfl)<|kq (qD ck_3 rfl)<|kq (qO fo_47_0 rfl)<|kq (qD ck_3 rfl)<|kq (q_ge rfl rfl)<|kq (qF rfl rfl)<|zm ?_
    refine kD (s := 37) rfl (fun g37 => ?_) (fun g37 => ?_)
    ·refine ke ?_
     have hr : s.st.once = false := by
      first
       | exact once_dup ho hm g31
       | exact once_big ho hm tO
     refine kr<|ka rfl<|zm ?_
     refine kr1 func135 results135 rfl (fun w hs => ?_)
     rw [hr]
     exact ⟨_, [], rfl, ⟨rfl, rfl⟩, hs.fitD⟩
    ·refine za<|kr<|km rfl<|kq (qO fo_56_0 rfl)<|kq (qD ck_3 rfl)<|kN rfl (l_mapUpdate underlying215 (mkey_int underlying3) rfl rfl rfl tP) ?_
     rintro _ _ ⟨rfl, rfl⟩
     refine zm<|zd<|kr<|kq (q_add rfl rfl tN tN)<|km rfl<|zm ?_
     have hst := ids_step hm (idsTo s i)
     refine K.weak tS (fun w h => ?_) (ih2 ⟨(k + 1, mapPut es2 m.id (.bool true)), by show k + 1 ≤ _; omega, by show (idsTo s i ++ ((o.x.msgs ++ o.x.dead).take (k + 1)).map (·.id)).Nodup; rw [hst, nodup_snoc]; exact ⟨hnd2, g31⟩, ?_, by show Seen (idsTo s i ++ ((o.x.msgs ++ o.x.dead).take (k + 1)).map (·.id)) _; rw [hst]; exact hse2.put m.id⟩ (by show (o.x.msgs ++ o.x.dead).length - (k + 1) < (o.x.msgs ++ o.x.dead).length - k; omega))
     ·dsimp only
      exact h.fitD
     ·show ∀ n ∈ idsTo s i ++ ((o.x.msgs ++ o.x.dead).take (k + 1)).map (·.id), n < s.next
      rw [hst]
      intro n hn
      rcases List.mem_append.1 hn with h | h
      ·exact hlt2 n h
      ·rw [List.mem_singleton.1 h]; omega
  ·obtain rfl : k = (o.x.msgs ++ o.x.dead).length := by omega
   have hids : idsTo s i ++ ((o.x.msgs ++ o.x.dead).take (o.x.msgs ++ o.x.dead).length).map (·.id) = idsTo s (i + 1) := by rw [List.take_length, idsTo_succ ho]; rfl
   rw [hids] at hnd2 hlt2 hse2
   refine K.exit rfl<|zd<|kr<|kq (q_add rfl rfl tN tN)<|km rfl<|zm ?_
   refine K.weak tS (fun w h => ?_) (ih ⟨(i + 1, es2), by show i + 1 ≤ s.l.length; omega, hnd2, hlt2, hse2⟩ (by show s.l.length - (i + 1) < s.l.length - i; omega))
   dsimp only
   exact h.fitD
 ·refine K.exit rfl<|ke ?_
  have hr : s.st.once = true := by
   obtain rfl : i = s.l.length := by omega
   rw [idsTo_all] at hnd hlt
   unfold Stt.once
   rw [decide_eq_true hnd, Bool.true_and, List.all_eq_true]
   exact fun n hn => decide_eq_true (hlt n hn)
  refine kr<|ka rfl<|zm ?_
  refine kr1 func135 results135 rfl (fun w hs => ?_)
  rw [hr]
  exact ⟨_, [], rfl, ⟨rfl, rfl⟩, hs.fitD⟩
theorem adj_map {α β : Type} (f : β → β → Bool) (g : α → β) : ∀ l : List α, adj f (l.map g) = adj (fun a b => f (g a) (g b)) l
 | [] => rfl
 | [_] => rfl
 | a :: b :: l => by
  have := adj_map f g (b :: l)
  simp only [List.map_cons] at this ⊢
  simp only [adj, this]
theorem sz_right (s : Sz) : s.st.right = (decide (1 ≤ s.next) && decide (s.next ≤ 1099511627776) && decide ((s.l.length : Int) ≤ 20) && s.l.all (fun o => o.x.right) && adj (fun a b => decide (cmpB a.x.name b.x.name < 0)) s.l && s.st.once) := by
 unfold Stt.right
 show (decide (1 ≤ s.next) && decide (s.next ≤ 1099511627776) && decide (((s.l.map (·.x)).length : Int) ≤ 20) && (s.l.map (·.x)).all Ob.right && adj _ (s.l.map (·.x)) && s.st.once) = _
 rw [List.length_map, List.all_map, adj_map]
 rfl
theorem right_range {s : Sz} (h : ¬ (1 ≤ s.next ∧ s.next ≤ 1099511627776 ∧ (s.l.length : Int) ≤ 20)) : s.st.right = false := by
 rw [sz_right]
 by_cases h1 : 1 ≤ s.next
 ·by_cases h2 : s.next ≤ 1099511627776
  ·have h3 : ¬ (s.l.length : Int) ≤ 20 := fun h3 => h ⟨h1, h2, h3⟩
   rw [decide_eq_false h3]; simp
  ·rw [decide_eq_false h2]; simp
 ·rw [decide_eq_false h1]; simp
theorem right_obj {s : Sz} {i : Nat} {o : Oz} (h : s.l[i]? = some o) (hr : o.x.right = false) : s.st.right = false := by
 have : s.l.all (fun o => o.x.right) = false := by rw [List.all_eq_false]; exact ⟨o, List.mem_of_getElem? h, by rw [hr]; simp⟩
 rw [sz_right, this]; simp
theorem right_adj {s : Sz} {i : Nat} (h : adj (fun a b => decide (cmpB a.x.name b.x.name < 0)) (s.l.take i) = false) : s.st.right = false := by
 rw [sz_right, adj_false_take h]; simp
theorem right_once {s : Sz} (h : 1 ≤ s.next ∧ s.next ≤ 1099511627776 ∧ (s.l.length : Int) ≤ 20) (h1 : s.l.all (fun o => o.x.right) = true) (h2 : adj (fun a b => decide (cmpB a.x.name b.x.name < 0)) s.l = true) : s.st.right = s.st.once := by
 rw [sz_right, h1, h2, decide_eq_true h.1, decide_eq_true h.2.1, decide_eq_true h.2.2]; simp
set_option maxHeartbeats 1600000 in
theorem st_Right (s : Sz) (hok : s.ok) (hfew : s.few) : Fn Tryz.prog 71 [.agg s.cells.toArray].toArray (StL s) (fun v post => v = .bool s.st.right ∧ post = []) := by
  have hok' := hok
  obtain ⟨hn0, hl, hlc, hall⟩ := hok'
  refine Fn.enter (N := 50) func71 rfl ntmps71 tK rfl (fun ρ L => ?_)
  refine ky<|kl (l_box rfl rfl) ?_
  rintro _ _ ⟨b1, rfl, rfl⟩
  refine ka rfl<|zm<|ke<|ky<|kq (qO fo_47_0 rfl)<|kq (qD ck_3 rfl)<|kq (q_lt rfl rfl)<|km rfl ?_
  refine KO.dsplit 8 rfl (fun g8 => ?_) (fun g8 => ?_)
  · refine zq<|zq<|zq<|kq (qT rfl rfl)<|km rfl<|zq<|zq<|zq<|zq<|kq (qT rfl rfl)<|zm<|K.yes rfl<|ke ?_
    have hr : s.st.right = false := right_range tO
    rw [hr]
    refine kr<|ka rfl<|zm ?_
    refine kr1 func71 results71 rfl (fun w hs => ?_)
    exact ⟨_, [], rfl, ⟨rfl, rfl⟩, hs.fitD⟩
  · refine kq (qO fo_47_0 rfl)<|kq (qD ck_3 rfl)<|kq (q_gt rfl rfl)<|kq (qF rfl rfl)<|km rfl ?_
    refine KO.dsplit 13 rfl (fun g13 => ?_) (fun g13 => ?_)
    · refine zq<|zq<|zq<|zq<|kq (qT rfl rfl)<|zm<|K.yes rfl<|ke ?_
      have hr : s.st.right = false := right_range tO
      rw [hr]
      refine kr<|ka rfl<|zm ?_
      refine kr1 func71 results71 rfl (fun w hs => ?_)
      exact ⟨_, [], rfl, ⟨rfl, rfl⟩, hs.fitD⟩
    · refine kq (qO fo_47_1 rfl)<|kq (qD ck_45 rfl)<|kq (qG underlying45 rfl)<|kq (q_gt rfl rfl)<|kq (qF rfl rfl)<|zm ?_
      refine kD (s := 18) rfl (fun g18 => ?_) (fun g18 => ?_)
      · refine ke ?_
        have hr : s.st.right = false := right_range tO
        rw [hr]
        refine kr<|ka rfl<|zm ?_
        refine kr1 func71 results71 rfl (fun w hs => ?_)
        exact ⟨_, [], rfl, ⟨rfl, rfl⟩, hs.fitD⟩
      · refine za<|ke<|ke ?_
        have hrange : 1 ≤ s.next ∧ s.next ≤ 1099511627776 ∧ (s.l.length : Int) ≤ 20 := by omega
        refine kr<|kq (qO fo_47_1 rfl)<|kq (qD ck_45 rfl)<|kq (qG underlying45 rfl)<|km rfl<|zm<|kB ?_
        refine kX (ι := { x : Nat // x ≤ s.l.length ∧ (s.l.take x).all (fun o => o.x.right) = true ∧ adj (fun a b => decide (cmpB a.x.name b.x.name < 0)) (s.l.take x) = true }) (fun x => [(22, .int .i64 x.1), (21, .int .i64 s.l.length), (20, .slice s.q s.l.length s.c), (1, .pointer (some ⟨b1, 0, none⟩))]) (fun x => [pv b1 47 s.cells, RowF Kd.oz s.q s.l, NestF s.l] ++ L) (fun x => s.l.length - x.1) ⟨0, Nat.zero_le _, rfl, rfl⟩ tS (fun w h => h.fitD) (fun x ih => ?_)
        obtain ⟨i, hi, ha, hadj⟩ := x
        dsimp only at hi ha hadj ⊢
        refine ky<|kq (q_lt rfl rfl)<|zm<|ke ?_
        refine kD (s := 23) rfl (fun g23 => ?_) (fun g23 => ?_)
        · obtain ⟨o, ho⟩ : ∃ e, s.l[i]? = some e := ⟨_, List.getElem?_eq_getElem tO⟩
          have hmo := List.mem_of_getElem? ho
          have hoo := hall o hmo
          refine K.st (fun w h => nA (l := s.l) tM hmo h)<|za<|ke<|kB<|ky<|km rfl ?_
          first | refine kq (q_ix _ se_45 rfl rfl rfl isF tM rfl tL) ?_ | refine kq (q_ix _ se_45 rfl rfl rfl isO tM rfl tL) ?_
          first | refine kq (q_ldEN ck_62 rfl isF tM tE) ?_ | refine kq (q_ldEN ck_62 rfl isO tM tE) ?_
          refine kl (lL zo_62) ?_
          rintro _ _ ⟨b4, rfl, rfl⟩
          refine ka rfl<|kN rfl (lS ck_62 rfl rfl ⟨rfl, rfl⟩ (oz_one _) tP) ?_
          rintro _ _ ⟨rfl, rfl⟩
          refine zm<|ke ?_
          refine K.drawU (by repeat (first | apply SubL.pers | apply SubL.own (b := b4) | apply SubL.own (b := b1) | apply SubL.drop | exact SubL.none)) mixed ?_
          refine dq 0 rfl (qL ck_62 rfl rfl tC)<|dq1 1 rfl (kc rfl (h := st_object _ (by assumption))) (.inl tK) ?_
          rintro _ _ ⟨_, ⟨rfl, rfl⟩, rfl⟩
          refine dq 2 rfl (q_not rfl)<|dq 3 rfl (q_move rfl) ?_
          refine D.split 30 rfl (fun g30 => ?_) (fun g30 => ?_)
          · refine dk 4 rfl<|dk 5 rfl<|dk 6 rfl<|dg 7 rfl<|dg 8 rfl<|dg 9 rfl<|dg 10 rfl<|dg 11 rfl<|dg 12 rfl<|dg 13 rfl<|dg 14 rfl<|dg 15 rfl<|dg 16 rfl<|dg 17 rfl<|dk 18 rfl<|dq 19 rfl (qT rfl rfl)<|D.done tK<|K.yes rfl<|ke ?_
            have hr : s.st.right = false := by
              first
                | exact right_obj ho (by simpa using g30)
                | exact right_adj (adj2_false tO hp ho (decide_eq_false tO))
            rw [hr]
            refine kr<|ka rfl<|zm ?_
            refine kr1 func71 results71 rfl (fun w hs => ?_)
            exact ⟨_, [], rfl, ⟨rfl, rfl⟩, hs.fitD⟩
          · refine dq 4 rfl (q_move rfl)<|dq 5 rfl (q_gt rfl rfl)<|dq 6 rfl (q_move rfl) ?_
            refine D.dsplit 33 rfl (fun g33 => ?_) (fun g33 => ?_)
            · obtain ⟨p, hp⟩ : ∃ e, s.l[i - 1]? = some e := ⟨_, List.getElem?_eq_getElem tO⟩
              have hsub : (i : Int) - 1 = ((i - 1 : Nat) : Int) := by omega
              refine dq 7 rfl (qO fo_47_1 rfl)<|dq 8 rfl (qD ck_45 rfl)<|dq 9 rfl (q_move rfl)<|dq 10 rfl (q_sub rfl rfl tN tN)<|dq 11 rfl (q_ix (i - 1) se_45 rfl rfl hsub isF tM rfl tO)<|dq 12 rfl (qE fo_62_0 rfl) ?_
              first | refine dq 13 rfl (q_ldE ck_9 rfl isF tM tE rfl) ?_ | refine dq 13 rfl (q_ldE ck_9 rfl isO tM tE rfl) ?_
              refine dq 14 rfl (qO fo_62_0 rfl)<|dq 15 rfl (qD ck_9 rfl)<|dq1 16 rfl (kc rfl (h := ord_Keys _ _)) (.inr (by rintro _ _ ⟨_, ⟨rfl, rfl⟩, rfl⟩ w h; exact h.subD)) ?_
              rintro _ _ ⟨_, ⟨rfl, rfl⟩, rfl⟩
              refine dq 17 rfl (q_ge rfl rfl)<|dq 18 rfl (qT rfl rfl)<|dq 19 rfl (qF rfl rfl)<|D.done tK ?_
              refine kD (s := 46) rfl (fun g46 => ?_) (fun g46 => ?_)
              · refine ke ?_
                have hr : s.st.right = false := by
                  first
                    | exact right_obj ho (by simpa using g30)
                    | exact right_adj (adj2_false tO hp ho (decide_eq_false tO))
                rw [hr]
                refine kr<|ka rfl<|zm ?_
                refine kr1 func71 results71 rfl (fun w hs => ?_)
                exact ⟨_, [], rfl, ⟨rfl, rfl⟩, hs.fitD⟩
              · refine za<|zd<|kr<|kq (q_add rfl rfl tN tN)<|km rfl<|zm ?_
                refine K.weak tS (fun w h => h.fitD) (ih ⟨i + 1, by omega, by rw [all_take_succ ho, ha]; simpa using g30, ?_⟩ (by show s.l.length - (i + 1) < s.l.length - i; omega))
                first
                  | exact adj2_true tO hp ho hadj (decide_eq_true tO)
                  | (obtain rfl : i = 0 := by omega
                     exact adj_take_one _ _)
            · refine dk 7 rfl<|dk 8 rfl<|dk 9 rfl<|dk 10 rfl<|dk 11 rfl<|dk 12 rfl<|dk 13 rfl<|dk 14 rfl<|dk 15 rfl<|dk 16 rfl<|dk 17 rfl<|dq 18 rfl (qF rfl rfl)<|dq 19 rfl (qF rfl rfl)<|D.done tK<|K.no rfl<|za<|zd<|kr<|kq (q_add rfl rfl tN tN)<|km rfl<|zm ?_
              refine K.weak tS (fun w h => h.fitD) (ih ⟨i + 1, by omega, by rw [all_take_succ ho, ha]; simpa using g30, ?_⟩ (by show s.l.length - (i + 1) < s.l.length - i; omega))
              first
                | exact adj2_true tO hp ho hadj (decide_eq_true tO)
                | (obtain rfl : i = 0 := by omega
                   exact adj_take_one _ _)
        · obtain rfl : i = s.l.length := by omega
          rw [List.take_length] at ha hadj
          have hr := right_once hrange ha hadj
          rw [hr]
          refine K.exit rfl<|ky<|kq (qL ck_47 rfl rfl tC)<|kl (kc rfl (h := st_once _ (by assumption) (by assumption))) ?_
          rintro _ _ ⟨_, ⟨rfl, rfl⟩, rfl⟩
          refine ka rfl<|zm ?_
          refine kr1 func71 results71 rfl (fun w hs => ?_)
          exact ⟨_, [], rfl, ⟨rfl, rfl⟩, hs.fitD⟩
set_option maxHeartbeats 800000 in
theorem ref_SameObject (a b : Oz) (hok : a.ok) : Fn Tryz.prog 51 [.agg a.cells.toArray, .agg b.cells.toArray].toArray (ObL a ++ ObL b) (fun v post => v = .bool (decide (a.x = b.x)) ∧ post = []) := by
 obtain ⟨⟨_, _, _, _, _, _, hs7, hs8, hs9⟩, _, _, _⟩ := hok
 refine Fn.enter (N := 45) func51 rfl ntmps51 tK rfl (fun ρ L => ?_)
 refine ky<|kl (l_box rfl rfl) ?_
 rintro _ _ ⟨b2, rfl, rfl⟩
 refine kl (l_box rfl rfl) ?_
 rintro _ _ ⟨b3, rfl, rfl⟩
 refine ka rfl<|kz<|kq (qO fo_62_0 rfl)<|kq (qD ck_9 rfl)<|kq (qO fo_62_0 rfl)<|kq (qD ck_9 rfl)<|kq (q_seq rfl rfl)<|km rfl ?_
 refine KO.dsplit 10 rfl (fun g10 => ?_) (fun g10 => ?_)
 ·refine kq (qO fo_62_1 rfl)<|kq (qD ck_3 rfl)<|kq (qO fo_62_1 rfl)<|kq (qD ck_3 rfl)<|kq (q_eq rfl rfl)<|kq (qT rfl rfl)<|km rfl ?_
  refine KO.dsplit 17 rfl (fun g17 => ?_) (fun g17 => ?_)
  ·refine kq (qO fo_62_2 rfl)<|kq (qD ck_3 rfl)<|kq (qO fo_62_2 rfl)<|kq (qD ck_3 rfl)<|kq (q_eq rfl rfl)<|kq (qT rfl rfl)<|km rfl ?_
   refine KO.dsplit 24 rfl (fun g24 => ?_) (fun g24 => ?_)
   ·refine kq (qO fo_62_3 rfl)<|kq (qD ck_59 rfl)<|kq (qO fo_62_3 rfl)<|kq (qD ck_59 rfl)<|kl (kc rfl (h := ref_SameRows _ _ _ _ _ _ tN)) ?_
    rintro _ _ ⟨_, ⟨rfl, rfl⟩, rfl⟩
    refine kq (qT rfl rfl)<|km rfl ?_
    refine KO.split 31 rfl (fun g31 => ?_) (fun g31 => ?_)
    ·refine kq (qO fo_62_4 rfl)<|kq (qD ck_60 rfl)<|kq (qO fo_62_4 rfl)<|kq (qD ck_60 rfl)<|kl (kc rfl (h := ref_SameMsgs _ _ _ _ _ _ tN)) ?_
     rintro _ _ ⟨_, ⟨rfl, rfl⟩, rfl⟩
     refine kq (qT rfl rfl)<|km rfl ?_
     refine KO.split 38 rfl (fun g38 => ?_) (fun g38 => ?_)
     ·refine kq (qO fo_62_5 rfl)<|kq (qD ck_60 rfl)<|kq (qO fo_62_5 rfl)<|kq (qD ck_60 rfl)<|kl (kc rfl (h := ref_SameMsgs _ _ _ _ _ _ tN)) ?_
      rintro _ _ ⟨_, ⟨rfl, rfl⟩, rfl⟩
      refine kq (qT rfl rfl)<|ka rfl<|zm ?_
      refine kr1 func51 results51 rfl (fun w hs => ?_)
      exact ⟨_, [], rfl, ⟨by
       refine congrArg Value.bool ?_
       clear hs
       first
        | exact decide_eq_decide.2 (by rw [ob_ext]; simp_all)
        | exact (decide_eq_false (by rw [ob_ext]; simp_all)).symm, rfl⟩, hs.fitD⟩
     ·refine zq<|zq<|zq<|zq<|zq<|kq (qF rfl rfl)<|ka rfl<|zm ?_
      refine kr1 func51 results51 rfl (fun w hs => ?_)
      exact ⟨_, [], rfl, ⟨by
       refine congrArg Value.bool ?_
       clear hs
       first
        | exact decide_eq_decide.2 (by rw [ob_ext]; simp_all)
        | exact (decide_eq_false (by rw [ob_ext]; simp_all)).symm, rfl⟩, hs.fitD⟩
    ·refine zq<|zq<|zq<|zq<|zq<|kq (qF rfl rfl)<|km rfl<|zq<|zq<|zq<|zq<|zq<|kq (qF rfl rfl)<|ka rfl<|zm ?_
     refine kr1 func51 results51 rfl (fun w hs => ?_)
     exact ⟨_, [], rfl, ⟨by
      refine congrArg Value.bool ?_
      clear hs
      first
       | exact decide_eq_decide.2 (by rw [ob_ext]; simp_all)
       | exact (decide_eq_false (by rw [ob_ext]; simp_all)).symm, rfl⟩, hs.fitD⟩
   ·refine zq<|zq<|zq<|zq<|zq<|kq (qF rfl rfl)<|km rfl<|zq<|zq<|zq<|zq<|zq<|kq (qF rfl rfl)<|km rfl<|zq<|zq<|zq<|zq<|zq<|kq (qF rfl rfl)<|ka rfl<|zm ?_
    refine kr1 func51 results51 rfl (fun w hs => ?_)
    exact ⟨_, [], rfl, ⟨by
     refine congrArg Value.bool ?_
     clear hs
     first
      | exact decide_eq_decide.2 (by rw [ob_ext]; simp_all)
      | exact (decide_eq_false (by rw [ob_ext]; simp_all)).symm, rfl⟩, hs.fitD⟩
  ·refine zq<|zq<|zq<|zq<|zq<|kq (qF rfl rfl)<|km rfl<|zq<|zq<|zq<|zq<|zq<|kq (qF rfl rfl)<|km rfl<|zq<|zq<|zq<|zq<|zq<|kq (qF rfl rfl)<|km rfl<|zq<|zq<|zq<|zq<|zq<|kq (qF rfl rfl)<|ka rfl<|zm ?_
   refine kr1 func51 results51 rfl (fun w hs => ?_)
   exact ⟨_, [], rfl, ⟨by
    refine congrArg Value.bool ?_
    clear hs
    first
     | exact decide_eq_decide.2 (by rw [ob_ext]; simp_all)
     | exact (decide_eq_false (by rw [ob_ext]; simp_all)).symm, rfl⟩, hs.fitD⟩
 ·refine zq<|zq<|zq<|zq<|zq<|kq (qF rfl rfl)<|km rfl<|zq<|zq<|zq<|zq<|zq<|kq (qF rfl rfl)<|km rfl<|zq<|zq<|zq<|zq<|zq<|kq (qF rfl rfl)<|km rfl<|zq<|zq<|zq<|zq<|zq<|kq (qF rfl rfl)<|km rfl<|zq<|zq<|zq<|zq<|zq<|kq (qF rfl rfl)<|ka rfl<|zm ?_
  refine kr1 func51 results51 rfl (fun w hs => ?_)
  exact ⟨_, [], rfl, ⟨by
   refine congrArg Value.bool ?_
   clear hs
   first
    | exact decide_eq_decide.2 (by rw [ob_ext]; simp_all)
    | exact (decide_eq_false (by rw [ob_ext]; simp_all)).symm, rfl⟩, hs.fitD⟩
theorem map_take_eq {a b : List Oz} {i : Nat} {x y : Oz} (h1 : a[i]? = some x) (h2 : b[i]? = some y) (h : x.x = y.x) (ht : (a.take i).map (·.x) = (b.take i).map (·.x)) : (a.take (i + 1)).map (·.x) = (b.take (i + 1)).map (·.x) := by
 rw [List.take_add_one, List.take_add_one, h1, h2, List.map_append, List.map_append, ht]; simp [h]
set_option maxHeartbeats 1600000 in
theorem ref_SameState (a b : Sz) (hok : a.ok) : Fn Tryz.prog 20 [.agg a.cells.toArray, .agg b.cells.toArray].toArray (StL a ++ StL b) (fun v post => v = .bool (decide (a.st = b.st)) ∧ post = []) := by
 obtain ⟨hn0, hl, hlc, hall⟩ := hok
 refine Fn.enter (N := 39) func20 rfl ntmps20 tK rfl (fun ρ L => ?_)
 refine ky<|kl (l_box rfl rfl) ?_
 rintro _ _ ⟨b2, rfl, rfl⟩
 refine kl (l_box rfl rfl) ?_
 rintro _ _ ⟨b3, rfl, rfl⟩
 refine ka rfl<|zm<|ke<|ky<|kq (qO fo_47_0 rfl)<|kq (qD ck_3 rfl)<|kq (qO fo_47_0 rfl)<|kq (qD ck_3 rfl)<|kq (q_ne rfl rfl)<|km rfl ?_
 refine KO.dsplit 11 rfl (fun g11 => ?_) (fun g11 => ?_)
 ·refine zq<|zq<|zq<|zq<|zq<|zq<|zq<|kq (qT rfl rfl)<|zm<|K.yes rfl<|ke ?_
  have hr : decide (a.st = b.st) = false := decide_eq_false (fun e => by
   have e1 := congrArg Stt.next e
   have e2 := congrArg (fun s => s.objs.length) e
   simp [Sz.st] at e1 e2
   first
    | exact g11 e1
    | (rw [e2] at g19; exact g19 rfl))
  rw [hr]
  refine kr<|ka rfl<|zm ?_
  refine kr1 func20 results20 rfl (fun w hs => ?_)
  exact ⟨_, [], rfl, ⟨rfl, rfl⟩, hs.fitD⟩
 ·refine kq (qO fo_47_1 rfl)<|kq (qD ck_45 rfl)<|kq (qG underlying45 rfl)<|kq (qO fo_47_1 rfl)<|kq (qD ck_45 rfl)<|kq (qG underlying45 rfl)<|kq (q_ne rfl rfl)<|kq (qF rfl rfl)<|zm ?_
  refine kD (s := 19) rfl (fun g19 => ?_) (fun g19 => ?_)
  ·refine ke ?_
   have hr : decide (a.st = b.st) = false := decide_eq_false (fun e => by
    have e1 := congrArg Stt.next e
    have e2 := congrArg (fun s => s.objs.length) e
    simp [Sz.st] at e1 e2
    first
     | exact g11 e1
     | (rw [e2] at g19; exact g19 rfl))
   rw [hr]
   refine kr<|ka rfl<|zm ?_
   refine kr1 func20 results20 rfl (fun w hs => ?_)
   exact ⟨_, [], rfl, ⟨rfl, rfl⟩, hs.fitD⟩
  ·refine za<|ke<|ky<|ka rfl<|zm<|kB ?_
   refine kX (ι := { i : Nat // i ≤ a.l.length ∧ (a.l.take i).map (·.x) = (b.l.take i).map (·.x) }) (fun x => [(5, .int .i64 x.1), (2, .pointer (some ⟨b2, 0, none⟩)), (3, .pointer (some ⟨b3, 0, none⟩))]) (fun _ => [pv b2 47 a.cells, pv b3 47 b.cells, RowF Kd.oz a.q a.l, NestF a.l, RowF Kd.oz b.q b.l, NestF b.l] ++ L) (fun x => a.l.length - x.1) ⟨0, Nat.zero_le _, rfl⟩ tS (fun w h => h.fitD) (fun x ih => ?_)
   obtain ⟨i, hi, ht⟩ := x
   dsimp only at hi ht ⊢
   refine ke<|ky<|km rfl<|kq (qO fo_47_1 rfl)<|kq (qD ck_45 rfl)<|kq (qG underlying45 rfl)<|kq (q_lt rfl rfl)<|zm ?_
   refine kD (s := 24) rfl (fun g24 => ?_) (fun g24 => ?_)
   ·obtain ⟨e1, he1⟩ : ∃ e, a.l[i]? = some e := ⟨_, List.getElem?_eq_getElem tO⟩
    obtain ⟨e2, he2⟩ : ∃ e, b.l[i]? = some e := ⟨_, List.getElem?_eq_getElem tO⟩
    have hoo := hall e1 (List.mem_of_getElem? he1)
    refine K.st (fun w h => nA (l := a.l) tM (List.mem_of_getElem? he1) h) ?_
    refine K.st (fun w h => nA (l := b.l) tM (List.mem_of_getElem? he2) h) ?_
    refine za<|ke<|kB<|ke ?_
    refine K.drawU (by repeat (first | apply SubL.pers | apply SubL.own (b := b2) | apply SubL.own (b := b3) | apply SubL.drop | exact SubL.none)) mixed ?_
    refine dq 0 rfl (qO fo_47_1 rfl)<|dq 1 rfl (qD ck_45 rfl)<|dq 2 rfl (q_move rfl) ?_
    first | refine dq 3 rfl (q_ix _ se_45 rfl rfl rfl isF tM rfl tL) ?_ | refine dq 3 rfl (q_ix _ se_45 rfl rfl rfl isO tM rfl tL) ?_
    first | refine dq 4 rfl (q_ldEN ck_62 rfl isF tM tE) ?_ | refine dq 4 rfl (q_ldEN ck_62 rfl isO tM tE) ?_
    refine dq 5 rfl (qO fo_47_1 rfl)<|dq 6 rfl (qD ck_45 rfl)<|dq 7 rfl (q_move rfl) ?_
    first | refine dq 8 rfl (q_ix _ se_45 rfl rfl rfl isF tM rfl tL) ?_ | refine dq 8 rfl (q_ix _ se_45 rfl rfl rfl isO tM rfl tL) ?_
    first | refine dq 9 rfl (q_ldEN ck_62 rfl isF tM tE) ?_ | refine dq 9 rfl (q_ldEN ck_62 rfl isO tM tE) ?_
    refine dq1 10 rfl (kc rfl (h := ref_SameObject _ _ (by assumption))) (.inr (by rintro _ _ ⟨_, ⟨rfl, rfl⟩, rfl⟩ w h; exact h.subD)) ?_
    rintro _ _ ⟨_, ⟨rfl, rfl⟩, rfl⟩
    refine dq 11 rfl (q_not rfl)<|D.done tK ?_
    refine kT (s := 38) rfl (fun g38 => ?_) (fun g38 => ?_)
    ·refine ke ?_
     have hr : decide (a.st = b.st) = false := decide_eq_false (fun e => by
      have e3 := congrArg (fun s => s.objs[i]?) e
      simp only [Sz.st, List.getElem?_map, he1, he2, Option.map_some] at e3
      have e4 := Option.some.inj e3
      simp [e4] at g38)
     rw [hr]
     refine kr<|ka rfl<|zm ?_
     refine kr1 func20 results20 rfl (fun w hs => ?_)
     exact ⟨_, [], rfl, ⟨rfl, rfl⟩, hs.fitD⟩
    ·refine za<|zd<|kr<|km rfl<|kq (q_add rfl rfl tN tN)<|ka rfl<|zm ?_
     exact K.weak tS (fun w h => h.fitD) (ih ⟨i + 1, by omega, map_take_eq he1 he2 (by simpa using g38) ht⟩ (by show a.l.length - (i + 1) < a.l.length - i; omega))
   ·have hr : decide (a.st = b.st) = true := decide_eq_true (by
     rw [stt_ext]
     refine ⟨by simpa [Sz.st] using g11, ?_⟩
     rw [List.take_of_length_le tO, List.take_of_length_le tO] at ht
     exact ht)
    rw [hr]
    refine K.exit rfl<|ky<|ka rfl<|zm ?_
    refine kr1 func20 results20 rfl (fun w hs => ?_)
    exact ⟨_, [], rfl, ⟨rfl, rfl⟩, hs.fitD⟩
end Go.Proofs.YtkbhldicnamcdaaGreat.L
namespace Go.Proofs.YtkbhldicnamcdaaGreat.L
open Go
theorem St.exMid {ι : Type} {f : ι → List HP} {ρ : World} {M L : List HP} {w : World} (i : ι) (h : St ρ (M ++ (f i ++ L)) w) : St ρ (M ++ (HP.ex f :: L)) w := by
 obtain ⟨g, k, ap, lg, lk, d⟩ := h.body
 obtain ⟨h1, h2, ap1, l1, l2, d1, d2⟩ := sepAll_split d
 obtain ⟨h3, h4, ap2, l3, l4, d3, d4⟩ := sepAll_split d2
 exact ⟨h.os, h.tape, h.output, g, k, ap, lg, lk, sepAll_append ap1 l1 l2 d1 ⟨h3, h4, ap2, l3, l4, ⟨i, d3⟩, d4⟩⟩
theorem Fn.exT {ι ι' : Type} {f : ι → List HP} {f' : ι' → List HP} {P : Program} {fid : FuncId} {args : Array Value} {Ψ : Value → List HP → Prop} (i0 : ι) (h : ∀ i, Fn P fid args (f i) (fun r post => ∃ j M, Ψ r M ∧ post = M ++ f' j)) : Fn P fid args [HP.ex f] (fun r post => ∃ M, Ψ r M ∧ post = M ++ [HP.ex f']) :=
 ⟨(h i0).1, fun ρ L w hs => by
  obtain ⟨i, hi⟩ := St.exO hs
  refine ((h i).2 ρ L w hi).mono fun e w' ⟨v, post, he, ⟨j, M, hΨ, hp⟩, hst⟩ => ?_
  subst hp
  rw [List.append_assoc] at hst
  refine ⟨v, M ++ [HP.ex f'], he, ⟨M, hΨ, rfl⟩, ?_⟩
  rw [List.append_assoc]
  exact hst.exMid j⟩
theorem Pick.unsep {L : List HP} {A : HP} {L' : List HP} (p : Pick L A L') : ∀ {g h}, sepAll (A :: L') g h → sepAll L g h := by
 induction p with
 | here => exact fun h => h
 | @there A B L L' p ih =>
  rintro g h ⟨ha, h2, ap, l1, l2, hA, hb, h3, ap', m1, m2, hB, hl⟩
  refine ⟨hb, Hp.join ha h3, ?_, Hp.le_trans m1 l2, Hp.join_le l1 (Hp.le_trans m2 l2), hB, ih ?_⟩
  ·exact Hp.apart_symm (Hp.join_apart (Hp.apart_le ap (Hp.le_refl _) m1) (Hp.apart_symm ap'))
  ·have ap2 : Hp.apart ha h3 := Hp.apart_le ap (Hp.le_refl _) m2
   exact ⟨ha, h3, ap2, Hp.le_joinL _ _, Hp.le_joinR ap2, hA, hl⟩
def AllO {ι : Type} (f : ι → HP) (l : List ι) : HP := HP.own (fun g h => sepAll (l.map f) g h) (fun hg h => sepAll_mono hg (Hp.le_refl _) h)
theorem pick_map {ι : Type} (f : ι → HP) : ∀ {l : List ι} {i : Nat} {x : ι}, l[i]? = some x → Pick (l.map f) (f x) ((l.eraseIdx i).map f)
 | [], _, _, h => by simp at h
 | y :: l, 0, x, h => by simp at h; subst h; exact Pick.here
 | y :: l, i + 1, x, h => Pick.there (pick_map f (l := l) (i := i) h)
section
variable {ι : Type} {f : ι → HP} {l : List ι} {ρ : World} {L : List HP} {w : World}
theorem allO_out {i : Nat} {x : ι} (hx : l[i]? = some x) (h : St ρ (AllO f l :: L) w) : St ρ (f x :: AllO f (l.eraseIdx i) :: L) w := by
 obtain ⟨g, k, a, b, c, h1, h2, ap, l1, l2, ha, d⟩ := h.body
 obtain ⟨p1, p2, ap2, m1, m2, hp1, hp2⟩ := (pick_map f hx).sep (ha : sepAll (l.map f) g h1)
 have ap3 : Hp.apart p2 h2 := Hp.apart_le ap m2 (Hp.le_refl _)
 have ap4 : Hp.apart p1 h2 := Hp.apart_le ap m1 (Hp.le_refl _)
 refine ⟨h.os, h.tape, h.output, g, k, a, b, c, p1, Hp.join p2 h2, Hp.apart_symm (Hp.join_apart (Hp.apart_symm ap2) (Hp.apart_symm ap4)), Hp.le_trans m1 l1, Hp.join_le (Hp.le_trans m2 l1) l2, hp1, p2, h2, ap3, Hp.le_joinL _ _, Hp.le_joinR ap3, hp2, d⟩
theorem allO_put {l' : List ι} {x : ι} (hp : Pick (l'.map f) (f x) (l.map f)) (h : St ρ (f x :: AllO f l :: L) w) : St ρ (AllO f l' :: L) w := by
 obtain ⟨g, k, a, b, c, h1, h2, ap, l1, l2, hx, h3, h4, ap2, m1, m2, hl, d⟩ := h.body
 have ap3 : Hp.apart h1 h3 := Hp.apart_le ap (Hp.le_refl _) m1
 have ap4 : Hp.apart h1 h4 := Hp.apart_le ap (Hp.le_refl _) m2
 refine ⟨h.os, h.tape, h.output, g, k, a, b, c, Hp.join h1 h3, h4, Hp.join_apart ap4 ap2, Hp.join_le l1 (Hp.le_trans m1 l2), Hp.le_trans m2 l2, ?_, d⟩
 exact hp.unsep ⟨h1, h3, ap3, Hp.le_joinL _ _, Hp.le_joinR ap3, hx, hl⟩
theorem allO_nil (f : ι → HP) (h : St ρ L w) : St ρ (AllO f [] :: L) w := by
 obtain ⟨g, k, a, b, c, d⟩ := h.body
 exact ⟨h.os, h.tape, h.output, g, k, a, b, c, fun _ => none, k, fun _ => .inl rfl, Hp.none_le _, Hp.le_refl _, trivial, d⟩
end
end Go.Proofs.YtkbhldicnamcdaaGreat.L
namespace Go.Proofs.YtkbhldicnamcdaaGreat.L
open Go Go.Proofs
attribute [local irreducible] pv fv pt fz RowF RowO rowP old pure_ elA Rd.int Rd.text Rd.flag Rd.msg Rd.rint Rd.rtext Rd.rflag Rd.rmsg
def ObE (o : Oz) : HP := HP.ex (fun _ : Unit => ObO o)
theorem pick_map_snoc {ι : Type} (f : ι → HP) (x : ι) : ∀ l : List ι, Pick ((l ++ [x]).map f) (f x) (l.map f)
 | [] => Pick.here
 | _ :: l => Pick.there (pick_map_snoc f x l)
theorem allO_snoc {l : List Oz} {o : Oz} {ρ : World} {L : List HP} {w : World} (h : St ρ (ObO o ++ AllO ObE l :: L) w) : St ρ (AllO ObE (l ++ [o]) :: L) w :=
 allO_put (pick_map_snoc ObE o l) (St.exI (f := fun _ : Unit => ObO o) () h)
theorem allO_freeze : ∀ {l : List Oz} {ρ : World} {L : List HP} {w : World}, St ρ (AllO ObE l :: L) w → St ρ (NestF l :: L) w
 | [], _, _, _, h => nestF_nil h.tail
 | o :: l, _, _, _, h => by
  have h1 := allO_out (f := ObE) (i := 0) (x := o) rfl h
  obtain ⟨_, h2⟩ := St.exO (f := fun _ : Unit => ObO o) h1
  have h3 := obO_freeze h2
  have h4 := allO_freeze (l := l) (h3.fit (M := [AllO ObE l]) tG (by repeat (first | exact Drop.refl | apply Drop.skip)) : St _ ([AllO ObE l] ++ (ObL o ++ _)) _)
  exact (nestF_put (l := l) (l' := o :: l) o (fun p hp => (List.mem_cons.1 hp).symm) tM tM tM tM h4).fit (M := [NestF (o :: l)]) tG (by repeat (first | exact Drop.refl | apply Drop.skip))
abbrev oA (e : Oz) (q : Option Addr) (c : Nat) : Oz := ⟨e.x, ⟨q, c, e.z.q2, e.z.c2, e.z.q3, e.z.c3⟩⟩
abbrev oB (e : Oz) (q : Option Addr) (c : Nat) (r : Option Addr) (d : Nat) : Oz := ⟨e.x, ⟨q, c, r, d, e.z.q3, e.z.c3⟩⟩
set_option maxHeartbeats 3200000 in
theorem st_CloneO (s : Sz) (hl : s.l.length ≤ 1000000000) (hle : ∀ o ∈ s.l, o.le 1000000000) : Fn Tryz.prog 52 [.agg s.cells.toArray].toArray (StL s)
  (fun r post => ∃ q' c' l', r = .agg (Sz.cells ⟨s.next, q', c', l'⟩).toArray ∧ post = [RowO Kd.oz 62 q' c' l', AllO ObE l'] ∧ l'.map (·.x) = s.l.map (·.x) ∧ l'.length ≤ c' ∧ ∀ o ∈ l', o.cap) := by
 obtain ⟨nx, q, c, l⟩ := s
 have hl : l.length ≤ 1000000000 := hl
 have hle : ∀ o ∈ l, o.le 1000000000 := hle
 refine Fn.enter (N := 45) func52 rfl ntmps52 tK rfl (fun ρ L => ?_)
 refine ky<|kl (l_box rfl rfl) ?_
 rintro _ _ ⟨b1, rfl, rfl⟩
 refine kl (lL zo_47) ?_
 rintro _ _ ⟨b2, rfl, rfl⟩
 refine kz<|kq (qO fo_47_1 rfl)<|kq (qD ck_45 rfl)<|kl (kc rfl (h := clone_oz (RowF Kd.oz q l) q c l isF hl)) ?_
 rintro _ _ ⟨_, ⟨q', c', rfl, rfl, hc'⟩, rfl⟩
 refine kq (qO fo_47_1 rfl)<|kN rfl (lA ck_45 rfl rfl rfl tP tA) ?_
 rintro _ _ ⟨rfl, rfl⟩
 refine zm<|ke<|ky<|kq (qO fo_47_1 rfl)<|kq (qD ck_45 rfl)<|kq (qG underlying45 rfl)<|km rfl<|zm<|kB ?_
 refine kX (ι := { x : Nat × List Oz // x.1 ≤ l.length ∧ x.2.length = l.length ∧ x.2.map (·.x) = l.map (·.x) ∧ x.2.drop x.1 = l.drop x.1 ∧ ∀ o ∈ x.2.take x.1, o.cap }) (fun x => [(12, .int .i64 x.1.1), (11, .int .i64 l.length), (1, .pointer (some ⟨b1, 0, none⟩)), (2, .pointer (some ⟨b2, 0, none⟩))]) (fun x => [RowO Kd.oz 62 q' c' x.1.2, AllO ObE (x.1.2.take x.1.1), pv b1 47 [.int .i64 nx, .slice q' l.length c'], pv b2 47 [.int .i64 0, .slice none 0 0], NestF l] ++ L) (fun x => l.length - x.1.1) ⟨(0, l), Nat.zero_le _, rfl, rfl, rfl, fun o ho => by cases ho⟩ tS (fun w h => (allO_nil ObE (h.fit (M := [RowO Kd.oz 62 q' c' l, pv b1 47 [.int .i64 nx, .slice q' l.length c'], pv b2 47 [.int .i64 0, .slice none 0 0], NestF l]) tG (by repeat (first | exact Drop.refl | apply Drop.skip)))).fitD) (fun x ih => ?_)
 obtain ⟨⟨i, M⟩, hi, hM, hMx, hMd, hMc⟩ := x
 dsimp only at hi hM hMx hMd hMc ⊢
 refine ky<|kq (q_lt rfl rfl)<|zm<|ke ?_
 refine kD (s := 13) rfl (fun g13 => ?_) (fun g13 => ?_)
 ·obtain ⟨e, hel⟩ : ∃ e, l[i]? = some e := ⟨_, List.getElem?_eq_getElem tO⟩
  have heM : M[i]? = some e := by
   have := congrArg (fun z => z[0]?) hMd
   simpa [List.getElem?_drop, hel] using this
  obtain ⟨he1, he2, he3⟩ := hle e (List.mem_of_getElem? hel)
  have htk : ∀ z : ObQ, (M.set i ⟨e.x, z⟩).take (i + 1) = M.take i ++ [⟨e.x, z⟩] := fun z => by
   rw [List.take_add_one, List.take_set_of_le (Nat.le_refl i), List.getElem?_set_self tO]; rfl
  have hmv : ∀ (z : ObQ) (w : World), St ρ ((ObO ⟨e.x, z⟩ ++ [AllO ObE (M.take i), RowO Kd.oz 62 q' c' (M.set i ⟨e.x, z⟩), pv b1 47 [.int .i64 nx, .slice q' l.length c'], pv b2 47 [.int .i64 0, .slice none 0 0], NestF l]) ++ L) w → St ρ ([RowO Kd.oz 62 q' c' (M.set i ⟨e.x, z⟩), AllO ObE ((M.set i ⟨e.x, z⟩).take (i + 1)), pv b1 47 [.int .i64 nx, .slice q' l.length c'], pv b2 47 [.int .i64 0, .slice none 0 0], NestF l] ++ L) w := fun z w h => by
   rw [htk]; exact (allO_snoc (o := ⟨e.x, z⟩) h).fitD
  have hnx := fun (z : ObQ) (hz : Oz.cap ⟨e.x, z⟩) => ih ⟨(i + 1, M.set i ⟨e.x, z⟩), by show i + 1 ≤ _; omega, by rw [List.length_set]; exact hM, by
   show (M.set i _).map _ = _
   rw [List.map_set, ← hMx]
   show (M.map (·.x)).set i e.x = M.map (·.x)
   refine List.ext_getElem? fun j => ?_
   rw [List.getElem?_set]
   split
   ·rename_i hij
    subst hij
    rw [List.getElem?_map, heM, List.length_map, if_pos tO]
    rfl
   ·rfl, by
   show (M.set i _).drop (i + 1) = l.drop (i + 1)
   rw [List.drop_set_of_lt tO, ← List.drop_drop, hMd, List.drop_drop], fun o ho => by
   have ho : o ∈ (M.set i ⟨e.x, z⟩).take (i + 1) := ho
   rw [htk] at ho
   rcases List.mem_append.1 ho with ho | ho
   ·exact hMc o ho
   ·rw [List.mem_singleton.1 ho]; exact hz⟩ (by show l.length - (i + 1) < l.length - i; omega)
  refine K.st (fun w h => nA (l := l) tM (List.mem_of_getElem? hel) h) ?_
  refine za<|ke<|kB<|ky<|km rfl<|ka rfl<|kz<|kq (qO fo_47_1 rfl)<|kq (qD ck_45 rfl)<|km rfl<|kq (q_ix (xs := M) i se_45 rfl rfl rfl isO tM hM.symm tO)<|ka rfl<|zm ?_
  refine K.via (ι := { z : ObQ // Oz.cap ⟨e.x, z⟩ }) (I := fun x => ([(12, .int .i64 i), (11, .int .i64 l.length), (1, .pointer (some ⟨b1, 0, none⟩)), (2, .pointer (some ⟨b2, 0, none⟩))], ObO ⟨e.x, x.1⟩ ++ [AllO ObE (M.take i), RowO Kd.oz 62 q' c' (M.set i ⟨e.x, x.1⟩), pv b1 47 [.int .i64 nx, .slice q' l.length c'], pv b2 47 [.int .i64 0, .slice none 0 0], NestF l] ++ L)) (fun x => ?_) (fun cont => ?_)
  ·obtain ⟨z, hz⟩ := x
   dsimp only
   refine zd<|kr<|kq (q_add rfl rfl tN tN)<|km rfl<|zm ?_
   exact K.weak tS (fun w h => hmv z w (h.fitD)) (hnx z hz)
  ·refine K.drawS [] (fun _ h => h.subD) mixed<|dq 0 rfl (q_move rfl)<|dq 1 rfl (q_move rfl)<|dq 2 rfl (q_move rfl)<|dq 3 rfl (q_move rfl)<|dq 4 rfl (qN rfl)<|dq 5 rfl (qE fo_62_3 rfl)<|dq 8 rfl (q_move rfl)<|dq 9 rfl (qN rfl)<|dq 10 rfl (qE fo_62_4 rfl)<|dq 13 rfl (q_move rfl)<|dq 14 rfl (qN rfl)<|dq 15 rfl (qE fo_62_5 rfl) ?_
   refine D.all (rs := [6, 11, 16]) tK rfl (DAll.cons rfl tK (OpQ.loud (q_ldE (xs := M) ck_59 rfl isO tM heM rfl)) (.inr (by rintro _ _ ⟨rfl, rfl⟩ w h; exact h.subD)) rfl ?_ (DAll.cons rfl tK (OpQ.loud (q_ldE (xs := M) ck_60 rfl isO tM heM rfl)) (.inr (by rintro _ _ ⟨rfl, rfl⟩ w h; exact h.subD)) rfl ?_ (DAll.cons rfl tK (OpQ.loud (q_ldE (xs := M) ck_60 rfl isO tM heM rfl)) (.inr (by rintro _ _ ⟨rfl, rfl⟩ w h; exact h.subD)) rfl ?_ DAll.nil)))
   ·rintro _ _ ⟨rfl, rfl⟩
    refine D.all (rs := [7, 11, 16]) tK rfl (DAll.cons rfl tK (kc rfl (h := clone_rw (RowF Kd.rw e.z.q1 e.x.rows) e.z.q1 e.z.c1 e.x.rows isF he1)) (.inr (by rintro _ _ ⟨_, ⟨qa, ca, rfl, rfl, ha⟩, rfl⟩ w h; exact h.subD)) rfl ?_ (DAll.cons rfl tK (OpQ.loud (q_ldE (xs := M) ck_60 rfl isO tM heM rfl)) (.inr (by rintro _ _ ⟨rfl, rfl⟩ w h; exact h.subD)) rfl ?_ (DAll.cons rfl tK (OpQ.loud (q_ldE (xs := M) ck_60 rfl isO tM heM rfl)) (.inr (by rintro _ _ ⟨rfl, rfl⟩ w h; exact h.subD)) rfl ?_ DAll.nil)))
    ·rintro _ _ ⟨_, ⟨qa, ca, rfl, rfl, ha⟩, rfl⟩
     refine D.all (rs := [11, 16]) tK rfl (DAll.cons rfl tK (OpQ.loud (q_ldE (xs := M) ck_60 rfl isO tM heM rfl)) (.inr (by rintro _ _ ⟨rfl, rfl⟩ w h; exact h.subD)) rfl ?_ (DAll.cons rfl tK (OpQ.loud (q_ldE (xs := M) ck_60 rfl isO tM heM rfl)) (.inr (by rintro _ _ ⟨rfl, rfl⟩ w h; exact h.subD)) rfl ?_ DAll.nil))
     ·rintro _ _ ⟨rfl, rfl⟩
      refine D.all (rs := [12, 16]) tK rfl (DAll.cons rfl tK (kc rfl (h := cM (RowF Kd.msg e.z.q2 e.x.msgs) e.z.q2 e.z.c2 e.x.msgs isF he2)) (.inr (by rintro _ _ ⟨_, ⟨qb, cb, rfl, rfl, hb⟩, rfl⟩ w h; exact h.subD)) rfl ?_ (DAll.cons rfl tK (OpQ.loud (q_ldE (xs := M) ck_60 rfl isO tM heM rfl)) (.inr (by rintro _ _ ⟨rfl, rfl⟩ w h; exact h.subD)) rfl ?_ DAll.nil))
      ·rintro _ _ ⟨_, ⟨qb, cb, rfl, rfl, hb⟩, rfl⟩
       refine dq1 16 rfl (OpQ.loud (q_ldE (xs := M) ck_60 rfl isO tM heM rfl)) (.inr (by rintro _ _ ⟨rfl, rfl⟩ w h; exact h.subD)) ?_
       rintro _ _ ⟨rfl, rfl⟩
       refine dq1 17 rfl (kc rfl (h := cM (RowF Kd.msg e.z.q3 e.x.dead) e.z.q3 e.z.c3 e.x.dead isF he3)) (.inr (by rintro _ _ ⟨_, ⟨qc, cc, rfl, rfl, hcc⟩, rfl⟩ w h; exact h.subD)) ?_
       rintro _ _ ⟨_, ⟨qc, cc, rfl, rfl, hcc⟩, rfl⟩
       refine dq 18 rfl (qN rfl)<|dq 19 rfl (qE fo_62_3 rfl)<|dq1N 20 rfl (lP (xs := M) (el := e) (oA e qa ca) ck_59 rfl rfl rfl tP heM tD rfl) (.inr (by rintro _ _ ⟨rfl, rfl⟩ w h; exact h.subD)) ?_
       rintro _ _ ⟨rfl, rfl⟩
       refine dq 21 rfl (qN rfl)<|dq 22 rfl (qE fo_62_4 rfl) ?_
       refine dq1N 23 rfl (lP (xs := M.set i (oA e qa ca)) (el := (oA e qa ca)) (oB e qa ca qb cb) ck_60 rfl rfl rfl tP (List.getElem?_set_self tO) tD rfl) (.inr (by rintro _ _ ⟨rfl, rfl⟩ w h; exact h.subD)) ?_
       rintro _ _ ⟨rfl, rfl⟩
       refine dq 24 rfl (qN rfl)<|dq 25 rfl (qE fo_62_5 rfl) ?_
       refine dq1N 26 rfl (lP (xs := (M.set i (oA e qa ca)).set i (oB e qa ca qb cb)) (el := (oB e qa ca qb cb)) (⟨e.x, ⟨qa, ca, qb, cb, qc, cc⟩⟩ : Oz) ck_60 rfl rfl rfl tP (List.getElem?_set_self (by rw [List.length_set]; omega)) tD rfl) (.inr (by rintro _ _ ⟨rfl, rfl⟩ w h; exact h.subD)) ?_
       rintro _ _ ⟨rfl, rfl⟩
       refine D.done tK ?_
       rw [List.set_set, List.set_set]
       exact K.weak tS (fun w h => h.fitD) (cont ⟨⟨qa, ca, qb, cb, qc, cc⟩, ha, hb, hcc⟩)
      ·rintro _ _ ⟨rfl, rfl⟩
       refine dq1 12 rfl (kc rfl (h := cM (RowF Kd.msg e.z.q2 e.x.msgs) e.z.q2 e.z.c2 e.x.msgs isF he2)) (.inr (by rintro _ _ ⟨_, ⟨qb, cb, rfl, rfl, hb⟩, rfl⟩ w h; exact h.subD)) ?_
       rintro _ _ ⟨_, ⟨qb, cb, rfl, rfl, hb⟩, rfl⟩
       refine dq1 17 rfl (kc rfl (h := cM (RowF Kd.msg e.z.q3 e.x.dead) e.z.q3 e.z.c3 e.x.dead isF he3)) (.inr (by rintro _ _ ⟨_, ⟨qc, cc, rfl, rfl, hcc⟩, rfl⟩ w h; exact h.subD)) ?_
       rintro _ _ ⟨_, ⟨qc, cc, rfl, rfl, hcc⟩, rfl⟩
       refine dq 18 rfl (qN rfl)<|dq 19 rfl (qE fo_62_3 rfl)<|dq1N 20 rfl (lP (xs := M) (el := e) (oA e qa ca) ck_59 rfl rfl rfl tP heM tD rfl) (.inr (by rintro _ _ ⟨rfl, rfl⟩ w h; exact h.subD)) ?_
       rintro _ _ ⟨rfl, rfl⟩
       refine dq 21 rfl (qN rfl)<|dq 22 rfl (qE fo_62_4 rfl) ?_
       refine dq1N 23 rfl (lP (xs := M.set i (oA e qa ca)) (el := (oA e qa ca)) (oB e qa ca qb cb) ck_60 rfl rfl rfl tP (List.getElem?_set_self tO) tD rfl) (.inr (by rintro _ _ ⟨rfl, rfl⟩ w h; exact h.subD)) ?_
       rintro _ _ ⟨rfl, rfl⟩
       refine dq 24 rfl (qN rfl)<|dq 25 rfl (qE fo_62_5 rfl) ?_
       refine dq1N 26 rfl (lP (xs := (M.set i (oA e qa ca)).set i (oB e qa ca qb cb)) (el := (oB e qa ca qb cb)) (⟨e.x, ⟨qa, ca, qb, cb, qc, cc⟩⟩ : Oz) ck_60 rfl rfl rfl tP (List.getElem?_set_self (by rw [List.length_set]; omega)) tD rfl) (.inr (by rintro _ _ ⟨rfl, rfl⟩ w h; exact h.subD)) ?_
       rintro _ _ ⟨rfl, rfl⟩
       refine D.done tK ?_
       rw [List.set_set, List.set_set]
       exact K.weak tS (fun w h => h.fitD) (cont ⟨⟨qa, ca, qb, cb, qc, cc⟩, ha, hb, hcc⟩)
     ·rintro _ _ ⟨rfl, rfl⟩
      refine dq1 11 rfl (OpQ.loud (q_ldE (xs := M) ck_60 rfl isO tM heM rfl)) (.inr (by rintro _ _ ⟨rfl, rfl⟩ w h; exact h.subD)) ?_
      rintro _ _ ⟨rfl, rfl⟩
      refine dq1 12 rfl (kc rfl (h := cM (RowF Kd.msg e.z.q2 e.x.msgs) e.z.q2 e.z.c2 e.x.msgs isF he2)) (.inr (by rintro _ _ ⟨_, ⟨qb, cb, rfl, rfl, hb⟩, rfl⟩ w h; exact h.subD)) ?_
      rintro _ _ ⟨_, ⟨qb, cb, rfl, rfl, hb⟩, rfl⟩
      refine dq1 17 rfl (kc rfl (h := cM (RowF Kd.msg e.z.q3 e.x.dead) e.z.q3 e.z.c3 e.x.dead isF he3)) (.inr (by rintro _ _ ⟨_, ⟨qc, cc, rfl, rfl, hcc⟩, rfl⟩ w h; exact h.subD)) ?_
      rintro _ _ ⟨_, ⟨qc, cc, rfl, rfl, hcc⟩, rfl⟩
      refine dq 18 rfl (qN rfl)<|dq 19 rfl (qE fo_62_3 rfl)<|dq1N 20 rfl (lP (xs := M) (el := e) (oA e qa ca) ck_59 rfl rfl rfl tP heM tD rfl) (.inr (by rintro _ _ ⟨rfl, rfl⟩ w h; exact h.subD)) ?_
      rintro _ _ ⟨rfl, rfl⟩
      refine dq 21 rfl (qN rfl)<|dq 22 rfl (qE fo_62_4 rfl) ?_
      refine dq1N 23 rfl (lP (xs := M.set i (oA e qa ca)) (el := (oA e qa ca)) (oB e qa ca qb cb) ck_60 rfl rfl rfl tP (List.getElem?_set_self tO) tD rfl) (.inr (by rintro _ _ ⟨rfl, rfl⟩ w h; exact h.subD)) ?_
      rintro _ _ ⟨rfl, rfl⟩
      refine dq 24 rfl (qN rfl)<|dq 25 rfl (qE fo_62_5 rfl) ?_
      refine dq1N 26 rfl (lP (xs := (M.set i (oA e qa ca)).set i (oB e qa ca qb cb)) (el := (oB e qa ca qb cb)) (⟨e.x, ⟨qa, ca, qb, cb, qc, cc⟩⟩ : Oz) ck_60 rfl rfl rfl tP (List.getElem?_set_self (by rw [List.length_set]; omega)) tD rfl) (.inr (by rintro _ _ ⟨rfl, rfl⟩ w h; exact h.subD)) ?_
      rintro _ _ ⟨rfl, rfl⟩
      refine D.done tK ?_
      rw [List.set_set, List.set_set]
      exact K.weak tS (fun w h => h.fitD) (cont ⟨⟨qa, ca, qb, cb, qc, cc⟩, ha, hb, hcc⟩)
    ·rintro _ _ ⟨rfl, rfl⟩
     refine D.all (rs := [7, 16]) tK rfl (DAll.cons rfl tK (kc rfl (h := clone_rw (RowF Kd.rw e.z.q1 e.x.rows) e.z.q1 e.z.c1 e.x.rows isF he1)) (.inr (by rintro _ _ ⟨_, ⟨qa, ca, rfl, rfl, ha⟩, rfl⟩ w h; exact h.subD)) rfl ?_ (DAll.cons rfl tK (OpQ.loud (q_ldE (xs := M) ck_60 rfl isO tM heM rfl)) (.inr (by rintro _ _ ⟨rfl, rfl⟩ w h; exact h.subD)) rfl ?_ DAll.nil))
     ·rintro _ _ ⟨_, ⟨qa, ca, rfl, rfl, ha⟩, rfl⟩
      refine D.all (rs := [12, 16]) tK rfl (DAll.cons rfl tK (kc rfl (h := cM (RowF Kd.msg e.z.q2 e.x.msgs) e.z.q2 e.z.c2 e.x.msgs isF he2)) (.inr (by rintro _ _ ⟨_, ⟨qb, cb, rfl, rfl, hb⟩, rfl⟩ w h; exact h.subD)) rfl ?_ (DAll.cons rfl tK (OpQ.loud (q_ldE (xs := M) ck_60 rfl isO tM heM rfl)) (.inr (by rintro _ _ ⟨rfl, rfl⟩ w h; exact h.subD)) rfl ?_ DAll.nil))
      ·rintro _ _ ⟨_, ⟨qb, cb, rfl, rfl, hb⟩, rfl⟩
       refine dq1 16 rfl (OpQ.loud (q_ldE (xs := M) ck_60 rfl isO tM heM rfl)) (.inr (by rintro _ _ ⟨rfl, rfl⟩ w h; exact h.subD)) ?_
       rintro _ _ ⟨rfl, rfl⟩
       refine dq1 17 rfl (kc rfl (h := cM (RowF Kd.msg e.z.q3 e.x.dead) e.z.q3 e.z.c3 e.x.dead isF he3)) (.inr (by rintro _ _ ⟨_, ⟨qc, cc, rfl, rfl, hcc⟩, rfl⟩ w h; exact h.subD)) ?_
       rintro _ _ ⟨_, ⟨qc, cc, rfl, rfl, hcc⟩, rfl⟩
       refine dq 18 rfl (qN rfl)<|dq 19 rfl (qE fo_62_3 rfl)<|dq1N 20 rfl (lP (xs := M) (el := e) (oA e qa ca) ck_59 rfl rfl rfl tP heM tD rfl) (.inr (by rintro _ _ ⟨rfl, rfl⟩ w h; exact h.subD)) ?_
       rintro _ _ ⟨rfl, rfl⟩
       refine dq 21 rfl (qN rfl)<|dq 22 rfl (qE fo_62_4 rfl) ?_
       refine dq1N 23 rfl (lP (xs := M.set i (oA e qa ca)) (el := (oA e qa ca)) (oB e qa ca qb cb) ck_60 rfl rfl rfl tP (List.getElem?_set_self tO) tD rfl) (.inr (by rintro _ _ ⟨rfl, rfl⟩ w h; exact h.subD)) ?_
       rintro _ _ ⟨rfl, rfl⟩
       refine dq 24 rfl (qN rfl)<|dq 25 rfl (qE fo_62_5 rfl) ?_
       refine dq1N 26 rfl (lP (xs := (M.set i (oA e qa ca)).set i (oB e qa ca qb cb)) (el := (oB e qa ca qb cb)) (⟨e.x, ⟨qa, ca, qb, cb, qc, cc⟩⟩ : Oz) ck_60 rfl rfl rfl tP (List.getElem?_set_self (by rw [List.length_set]; omega)) tD rfl) (.inr (by rintro _ _ ⟨rfl, rfl⟩ w h; exact h.subD)) ?_
       rintro _ _ ⟨rfl, rfl⟩
       refine D.done tK ?_
       rw [List.set_set, List.set_set]
       exact K.weak tS (fun w h => h.fitD) (cont ⟨⟨qa, ca, qb, cb, qc, cc⟩, ha, hb, hcc⟩)
      ·rintro _ _ ⟨rfl, rfl⟩
       refine dq1 12 rfl (kc rfl (h := cM (RowF Kd.msg e.z.q2 e.x.msgs) e.z.q2 e.z.c2 e.x.msgs isF he2)) (.inr (by rintro _ _ ⟨_, ⟨qb, cb, rfl, rfl, hb⟩, rfl⟩ w h; exact h.subD)) ?_
       rintro _ _ ⟨_, ⟨qb, cb, rfl, rfl, hb⟩, rfl⟩
       refine dq1 17 rfl (kc rfl (h := cM (RowF Kd.msg e.z.q3 e.x.dead) e.z.q3 e.z.c3 e.x.dead isF he3)) (.inr (by rintro _ _ ⟨_, ⟨qc, cc, rfl, rfl, hcc⟩, rfl⟩ w h; exact h.subD)) ?_
       rintro _ _ ⟨_, ⟨qc, cc, rfl, rfl, hcc⟩, rfl⟩
       refine dq 18 rfl (qN rfl)<|dq 19 rfl (qE fo_62_3 rfl)<|dq1N 20 rfl (lP (xs := M) (el := e) (oA e qa ca) ck_59 rfl rfl rfl tP heM tD rfl) (.inr (by rintro _ _ ⟨rfl, rfl⟩ w h; exact h.subD)) ?_
       rintro _ _ ⟨rfl, rfl⟩
       refine dq 21 rfl (qN rfl)<|dq 22 rfl (qE fo_62_4 rfl) ?_
       refine dq1N 23 rfl (lP (xs := M.set i (oA e qa ca)) (el := (oA e qa ca)) (oB e qa ca qb cb) ck_60 rfl rfl rfl tP (List.getElem?_set_self tO) tD rfl) (.inr (by rintro _ _ ⟨rfl, rfl⟩ w h; exact h.subD)) ?_
       rintro _ _ ⟨rfl, rfl⟩
       refine dq 24 rfl (qN rfl)<|dq 25 rfl (qE fo_62_5 rfl) ?_
       refine dq1N 26 rfl (lP (xs := (M.set i (oA e qa ca)).set i (oB e qa ca qb cb)) (el := (oB e qa ca qb cb)) (⟨e.x, ⟨qa, ca, qb, cb, qc, cc⟩⟩ : Oz) ck_60 rfl rfl rfl tP (List.getElem?_set_self (by rw [List.length_set]; omega)) tD rfl) (.inr (by rintro _ _ ⟨rfl, rfl⟩ w h; exact h.subD)) ?_
       rintro _ _ ⟨rfl, rfl⟩
       refine D.done tK ?_
       rw [List.set_set, List.set_set]
       exact K.weak tS (fun w h => h.fitD) (cont ⟨⟨qa, ca, qb, cb, qc, cc⟩, ha, hb, hcc⟩)
     ·rintro _ _ ⟨rfl, rfl⟩
      refine dq1 7 rfl (kc rfl (h := clone_rw (RowF Kd.rw e.z.q1 e.x.rows) e.z.q1 e.z.c1 e.x.rows isF he1)) (.inr (by rintro _ _ ⟨_, ⟨qa, ca, rfl, rfl, ha⟩, rfl⟩ w h; exact h.subD)) ?_
      rintro _ _ ⟨_, ⟨qa, ca, rfl, rfl, ha⟩, rfl⟩
      refine dq1 12 rfl (kc rfl (h := cM (RowF Kd.msg e.z.q2 e.x.msgs) e.z.q2 e.z.c2 e.x.msgs isF he2)) (.inr (by rintro _ _ ⟨_, ⟨qb, cb, rfl, rfl, hb⟩, rfl⟩ w h; exact h.subD)) ?_
      rintro _ _ ⟨_, ⟨qb, cb, rfl, rfl, hb⟩, rfl⟩
      refine dq1 17 rfl (kc rfl (h := cM (RowF Kd.msg e.z.q3 e.x.dead) e.z.q3 e.z.c3 e.x.dead isF he3)) (.inr (by rintro _ _ ⟨_, ⟨qc, cc, rfl, rfl, hcc⟩, rfl⟩ w h; exact h.subD)) ?_
      rintro _ _ ⟨_, ⟨qc, cc, rfl, rfl, hcc⟩, rfl⟩
      refine dq 18 rfl (qN rfl)<|dq 19 rfl (qE fo_62_3 rfl)<|dq1N 20 rfl (lP (xs := M) (el := e) (oA e qa ca) ck_59 rfl rfl rfl tP heM tD rfl) (.inr (by rintro _ _ ⟨rfl, rfl⟩ w h; exact h.subD)) ?_
      rintro _ _ ⟨rfl, rfl⟩
      refine dq 21 rfl (qN rfl)<|dq 22 rfl (qE fo_62_4 rfl) ?_
      refine dq1N 23 rfl (lP (xs := M.set i (oA e qa ca)) (el := (oA e qa ca)) (oB e qa ca qb cb) ck_60 rfl rfl rfl tP (List.getElem?_set_self tO) tD rfl) (.inr (by rintro _ _ ⟨rfl, rfl⟩ w h; exact h.subD)) ?_
      rintro _ _ ⟨rfl, rfl⟩
      refine dq 24 rfl (qN rfl)<|dq 25 rfl (qE fo_62_5 rfl) ?_
      refine dq1N 26 rfl (lP (xs := (M.set i (oA e qa ca)).set i (oB e qa ca qb cb)) (el := (oB e qa ca qb cb)) (⟨e.x, ⟨qa, ca, qb, cb, qc, cc⟩⟩ : Oz) ck_60 rfl rfl rfl tP (List.getElem?_set_self (by rw [List.length_set]; omega)) tD rfl) (.inr (by rintro _ _ ⟨rfl, rfl⟩ w h; exact h.subD)) ?_
      rintro _ _ ⟨rfl, rfl⟩
      refine D.done tK ?_
      rw [List.set_set, List.set_set]
      exact K.weak tS (fun w h => h.fitD) (cont ⟨⟨qa, ca, qb, cb, qc, cc⟩, ha, hb, hcc⟩)
    ·rintro _ _ ⟨rfl, rfl⟩
     refine D.all (rs := [7, 11]) tK rfl (DAll.cons rfl tK (kc rfl (h := clone_rw (RowF Kd.rw e.z.q1 e.x.rows) e.z.q1 e.z.c1 e.x.rows isF he1)) (.inr (by rintro _ _ ⟨_, ⟨qa, ca, rfl, rfl, ha⟩, rfl⟩ w h; exact h.subD)) rfl ?_ (DAll.cons rfl tK (OpQ.loud (q_ldE (xs := M) ck_60 rfl isO tM heM rfl)) (.inr (by rintro _ _ ⟨rfl, rfl⟩ w h; exact h.subD)) rfl ?_ DAll.nil))
     ·rintro _ _ ⟨_, ⟨qa, ca, rfl, rfl, ha⟩, rfl⟩
      refine dq1 11 rfl (OpQ.loud (q_ldE (xs := M) ck_60 rfl isO tM heM rfl)) (.inr (by rintro _ _ ⟨rfl, rfl⟩ w h; exact h.subD)) ?_
      rintro _ _ ⟨rfl, rfl⟩
      refine dq1 12 rfl (kc rfl (h := cM (RowF Kd.msg e.z.q2 e.x.msgs) e.z.q2 e.z.c2 e.x.msgs isF he2)) (.inr (by rintro _ _ ⟨_, ⟨qb, cb, rfl, rfl, hb⟩, rfl⟩ w h; exact h.subD)) ?_
      rintro _ _ ⟨_, ⟨qb, cb, rfl, rfl, hb⟩, rfl⟩
      refine dq1 17 rfl (kc rfl (h := cM (RowF Kd.msg e.z.q3 e.x.dead) e.z.q3 e.z.c3 e.x.dead isF he3)) (.inr (by rintro _ _ ⟨_, ⟨qc, cc, rfl, rfl, hcc⟩, rfl⟩ w h; exact h.subD)) ?_
      rintro _ _ ⟨_, ⟨qc, cc, rfl, rfl, hcc⟩, rfl⟩
      refine dq 18 rfl (qN rfl)<|dq 19 rfl (qE fo_62_3 rfl)<|dq1N 20 rfl (lP (xs := M) (el := e) (oA e qa ca) ck_59 rfl rfl rfl tP heM tD rfl) (.inr (by rintro _ _ ⟨rfl, rfl⟩ w h; exact h.subD)) ?_
      rintro _ _ ⟨rfl, rfl⟩
      refine dq 21 rfl (qN rfl)<|dq 22 rfl (qE fo_62_4 rfl) ?_
      refine dq1N 23 rfl (lP (xs := M.set i (oA e qa ca)) (el := (oA e qa ca)) (oB e qa ca qb cb) ck_60 rfl rfl rfl tP (List.getElem?_set_self tO) tD rfl) (.inr (by rintro _ _ ⟨rfl, rfl⟩ w h; exact h.subD)) ?_
      rintro _ _ ⟨rfl, rfl⟩
      refine dq 24 rfl (qN rfl)<|dq 25 rfl (qE fo_62_5 rfl) ?_
      refine dq1N 26 rfl (lP (xs := (M.set i (oA e qa ca)).set i (oB e qa ca qb cb)) (el := (oB e qa ca qb cb)) (⟨e.x, ⟨qa, ca, qb, cb, qc, cc⟩⟩ : Oz) ck_60 rfl rfl rfl tP (List.getElem?_set_self (by rw [List.length_set]; omega)) tD rfl) (.inr (by rintro _ _ ⟨rfl, rfl⟩ w h; exact h.subD)) ?_
      rintro _ _ ⟨rfl, rfl⟩
      refine D.done tK ?_
      rw [List.set_set, List.set_set]
      exact K.weak tS (fun w h => h.fitD) (cont ⟨⟨qa, ca, qb, cb, qc, cc⟩, ha, hb, hcc⟩)
     ·rintro _ _ ⟨rfl, rfl⟩
      refine dq1 7 rfl (kc rfl (h := clone_rw (RowF Kd.rw e.z.q1 e.x.rows) e.z.q1 e.z.c1 e.x.rows isF he1)) (.inr (by rintro _ _ ⟨_, ⟨qa, ca, rfl, rfl, ha⟩, rfl⟩ w h; exact h.subD)) ?_
      rintro _ _ ⟨_, ⟨qa, ca, rfl, rfl, ha⟩, rfl⟩
      refine dq1 12 rfl (kc rfl (h := cM (RowF Kd.msg e.z.q2 e.x.msgs) e.z.q2 e.z.c2 e.x.msgs isF he2)) (.inr (by rintro _ _ ⟨_, ⟨qb, cb, rfl, rfl, hb⟩, rfl⟩ w h; exact h.subD)) ?_
      rintro _ _ ⟨_, ⟨qb, cb, rfl, rfl, hb⟩, rfl⟩
      refine dq1 17 rfl (kc rfl (h := cM (RowF Kd.msg e.z.q3 e.x.dead) e.z.q3 e.z.c3 e.x.dead isF he3)) (.inr (by rintro _ _ ⟨_, ⟨qc, cc, rfl, rfl, hcc⟩, rfl⟩ w h; exact h.subD)) ?_
      rintro _ _ ⟨_, ⟨qc, cc, rfl, rfl, hcc⟩, rfl⟩
      refine dq 18 rfl (qN rfl)<|dq 19 rfl (qE fo_62_3 rfl)<|dq1N 20 rfl (lP (xs := M) (el := e) (oA e qa ca) ck_59 rfl rfl rfl tP heM tD rfl) (.inr (by rintro _ _ ⟨rfl, rfl⟩ w h; exact h.subD)) ?_
      rintro _ _ ⟨rfl, rfl⟩
      refine dq 21 rfl (qN rfl)<|dq 22 rfl (qE fo_62_4 rfl) ?_
      refine dq1N 23 rfl (lP (xs := M.set i (oA e qa ca)) (el := (oA e qa ca)) (oB e qa ca qb cb) ck_60 rfl rfl rfl tP (List.getElem?_set_self tO) tD rfl) (.inr (by rintro _ _ ⟨rfl, rfl⟩ w h; exact h.subD)) ?_
      rintro _ _ ⟨rfl, rfl⟩
      refine dq 24 rfl (qN rfl)<|dq 25 rfl (qE fo_62_5 rfl) ?_
      refine dq1N 26 rfl (lP (xs := (M.set i (oA e qa ca)).set i (oB e qa ca qb cb)) (el := (oB e qa ca qb cb)) (⟨e.x, ⟨qa, ca, qb, cb, qc, cc⟩⟩ : Oz) ck_60 rfl rfl rfl tP (List.getElem?_set_self (by rw [List.length_set]; omega)) tD rfl) (.inr (by rintro _ _ ⟨rfl, rfl⟩ w h; exact h.subD)) ?_
      rintro _ _ ⟨rfl, rfl⟩
      refine D.done tK ?_
      rw [List.set_set, List.set_set]
      exact K.weak tS (fun w h => h.fitD) (cont ⟨⟨qa, ca, qb, cb, qc, cc⟩, ha, hb, hcc⟩)
   ·rintro _ _ ⟨rfl, rfl⟩
    refine D.all (rs := [6, 16]) tK rfl (DAll.cons rfl tK (OpQ.loud (q_ldE (xs := M) ck_59 rfl isO tM heM rfl)) (.inr (by rintro _ _ ⟨rfl, rfl⟩ w h; exact h.subD)) rfl ?_ (DAll.cons rfl tK (OpQ.loud (q_ldE (xs := M) ck_60 rfl isO tM heM rfl)) (.inr (by rintro _ _ ⟨rfl, rfl⟩ w h; exact h.subD)) rfl ?_ DAll.nil))
    ·rintro _ _ ⟨rfl, rfl⟩
     refine D.all (rs := [7, 16]) tK rfl (DAll.cons rfl tK (kc rfl (h := clone_rw (RowF Kd.rw e.z.q1 e.x.rows) e.z.q1 e.z.c1 e.x.rows isF he1)) (.inr (by rintro _ _ ⟨_, ⟨qa, ca, rfl, rfl, ha⟩, rfl⟩ w h; exact h.subD)) rfl ?_ (DAll.cons rfl tK (OpQ.loud (q_ldE (xs := M) ck_60 rfl isO tM heM rfl)) (.inr (by rintro _ _ ⟨rfl, rfl⟩ w h; exact h.subD)) rfl ?_ DAll.nil))
     ·rintro _ _ ⟨_, ⟨qa, ca, rfl, rfl, ha⟩, rfl⟩
      refine D.all (rs := [12, 16]) tK rfl (DAll.cons rfl tK (kc rfl (h := cM (RowF Kd.msg e.z.q2 e.x.msgs) e.z.q2 e.z.c2 e.x.msgs isF he2)) (.inr (by rintro _ _ ⟨_, ⟨qb, cb, rfl, rfl, hb⟩, rfl⟩ w h; exact h.subD)) rfl ?_ (DAll.cons rfl tK (OpQ.loud (q_ldE (xs := M) ck_60 rfl isO tM heM rfl)) (.inr (by rintro _ _ ⟨rfl, rfl⟩ w h; exact h.subD)) rfl ?_ DAll.nil))
      ·rintro _ _ ⟨_, ⟨qb, cb, rfl, rfl, hb⟩, rfl⟩
       refine dq1 16 rfl (OpQ.loud (q_ldE (xs := M) ck_60 rfl isO tM heM rfl)) (.inr (by rintro _ _ ⟨rfl, rfl⟩ w h; exact h.subD)) ?_
       rintro _ _ ⟨rfl, rfl⟩
       refine dq1 17 rfl (kc rfl (h := cM (RowF Kd.msg e.z.q3 e.x.dead) e.z.q3 e.z.c3 e.x.dead isF he3)) (.inr (by rintro _ _ ⟨_, ⟨qc, cc, rfl, rfl, hcc⟩, rfl⟩ w h; exact h.subD)) ?_
       rintro _ _ ⟨_, ⟨qc, cc, rfl, rfl, hcc⟩, rfl⟩
       refine dq 18 rfl (qN rfl)<|dq 19 rfl (qE fo_62_3 rfl)<|dq1N 20 rfl (lP (xs := M) (el := e) (oA e qa ca) ck_59 rfl rfl rfl tP heM tD rfl) (.inr (by rintro _ _ ⟨rfl, rfl⟩ w h; exact h.subD)) ?_
       rintro _ _ ⟨rfl, rfl⟩
       refine dq 21 rfl (qN rfl)<|dq 22 rfl (qE fo_62_4 rfl) ?_
       refine dq1N 23 rfl (lP (xs := M.set i (oA e qa ca)) (el := (oA e qa ca)) (oB e qa ca qb cb) ck_60 rfl rfl rfl tP (List.getElem?_set_self tO) tD rfl) (.inr (by rintro _ _ ⟨rfl, rfl⟩ w h; exact h.subD)) ?_
       rintro _ _ ⟨rfl, rfl⟩
       refine dq 24 rfl (qN rfl)<|dq 25 rfl (qE fo_62_5 rfl) ?_
       refine dq1N 26 rfl (lP (xs := (M.set i (oA e qa ca)).set i (oB e qa ca qb cb)) (el := (oB e qa ca qb cb)) (⟨e.x, ⟨qa, ca, qb, cb, qc, cc⟩⟩ : Oz) ck_60 rfl rfl rfl tP (List.getElem?_set_self (by rw [List.length_set]; omega)) tD rfl) (.inr (by rintro _ _ ⟨rfl, rfl⟩ w h; exact h.subD)) ?_
       rintro _ _ ⟨rfl, rfl⟩
       refine D.done tK ?_
       rw [List.set_set, List.set_set]
       exact K.weak tS (fun w h => h.fitD) (cont ⟨⟨qa, ca, qb, cb, qc, cc⟩, ha, hb, hcc⟩)
      ·rintro _ _ ⟨rfl, rfl⟩
       refine dq1 12 rfl (kc rfl (h := cM (RowF Kd.msg e.z.q2 e.x.msgs) e.z.q2 e.z.c2 e.x.msgs isF he2)) (.inr (by rintro _ _ ⟨_, ⟨qb, cb, rfl, rfl, hb⟩, rfl⟩ w h; exact h.subD)) ?_
       rintro _ _ ⟨_, ⟨qb, cb, rfl, rfl, hb⟩, rfl⟩
       refine dq1 17 rfl (kc rfl (h := cM (RowF Kd.msg e.z.q3 e.x.dead) e.z.q3 e.z.c3 e.x.dead isF he3)) (.inr (by rintro _ _ ⟨_, ⟨qc, cc, rfl, rfl, hcc⟩, rfl⟩ w h; exact h.subD)) ?_
       rintro _ _ ⟨_, ⟨qc, cc, rfl, rfl, hcc⟩, rfl⟩
       refine dq 18 rfl (qN rfl)<|dq 19 rfl (qE fo_62_3 rfl)<|dq1N 20 rfl (lP (xs := M) (el := e) (oA e qa ca) ck_59 rfl rfl rfl tP heM tD rfl) (.inr (by rintro _ _ ⟨rfl, rfl⟩ w h; exact h.subD)) ?_
       rintro _ _ ⟨rfl, rfl⟩
       refine dq 21 rfl (qN rfl)<|dq 22 rfl (qE fo_62_4 rfl) ?_
       refine dq1N 23 rfl (lP (xs := M.set i (oA e qa ca)) (el := (oA e qa ca)) (oB e qa ca qb cb) ck_60 rfl rfl rfl tP (List.getElem?_set_self tO) tD rfl) (.inr (by rintro _ _ ⟨rfl, rfl⟩ w h; exact h.subD)) ?_
       rintro _ _ ⟨rfl, rfl⟩
       refine dq 24 rfl (qN rfl)<|dq 25 rfl (qE fo_62_5 rfl) ?_
       refine dq1N 26 rfl (lP (xs := (M.set i (oA e qa ca)).set i (oB e qa ca qb cb)) (el := (oB e qa ca qb cb)) (⟨e.x, ⟨qa, ca, qb, cb, qc, cc⟩⟩ : Oz) ck_60 rfl rfl rfl tP (List.getElem?_set_self (by rw [List.length_set]; omega)) tD rfl) (.inr (by rintro _ _ ⟨rfl, rfl⟩ w h; exact h.subD)) ?_
       rintro _ _ ⟨rfl, rfl⟩
       refine D.done tK ?_
       rw [List.set_set, List.set_set]
       exact K.weak tS (fun w h => h.fitD) (cont ⟨⟨qa, ca, qb, cb, qc, cc⟩, ha, hb, hcc⟩)
     ·rintro _ _ ⟨rfl, rfl⟩
      refine dq1 7 rfl (kc rfl (h := clone_rw (RowF Kd.rw e.z.q1 e.x.rows) e.z.q1 e.z.c1 e.x.rows isF he1)) (.inr (by rintro _ _ ⟨_, ⟨qa, ca, rfl, rfl, ha⟩, rfl⟩ w h; exact h.subD)) ?_
      rintro _ _ ⟨_, ⟨qa, ca, rfl, rfl, ha⟩, rfl⟩
      refine dq1 12 rfl (kc rfl (h := cM (RowF Kd.msg e.z.q2 e.x.msgs) e.z.q2 e.z.c2 e.x.msgs isF he2)) (.inr (by rintro _ _ ⟨_, ⟨qb, cb, rfl, rfl, hb⟩, rfl⟩ w h; exact h.subD)) ?_
      rintro _ _ ⟨_, ⟨qb, cb, rfl, rfl, hb⟩, rfl⟩
      refine dq1 17 rfl (kc rfl (h := cM (RowF Kd.msg e.z.q3 e.x.dead) e.z.q3 e.z.c3 e.x.dead isF he3)) (.inr (by rintro _ _ ⟨_, ⟨qc, cc, rfl, rfl, hcc⟩, rfl⟩ w h; exact h.subD)) ?_
      rintro _ _ ⟨_, ⟨qc, cc, rfl, rfl, hcc⟩, rfl⟩
      refine dq 18 rfl (qN rfl)<|dq 19 rfl (qE fo_62_3 rfl)<|dq1N 20 rfl (lP (xs := M) (el := e) (oA e qa ca) ck_59 rfl rfl rfl tP heM tD rfl) (.inr (by rintro _ _ ⟨rfl, rfl⟩ w h; exact h.subD)) ?_
      rintro _ _ ⟨rfl, rfl⟩
      refine dq 21 rfl (qN rfl)<|dq 22 rfl (qE fo_62_4 rfl) ?_
      refine dq1N 23 rfl (lP (xs := M.set i (oA e qa ca)) (el := (oA e qa ca)) (oB e qa ca qb cb) ck_60 rfl rfl rfl tP (List.getElem?_set_self tO) tD rfl) (.inr (by rintro _ _ ⟨rfl, rfl⟩ w h; exact h.subD)) ?_
      rintro _ _ ⟨rfl, rfl⟩
      refine dq 24 rfl (qN rfl)<|dq 25 rfl (qE fo_62_5 rfl) ?_
      refine dq1N 26 rfl (lP (xs := (M.set i (oA e qa ca)).set i (oB e qa ca qb cb)) (el := (oB e qa ca qb cb)) (⟨e.x, ⟨qa, ca, qb, cb, qc, cc⟩⟩ : Oz) ck_60 rfl rfl rfl tP (List.getElem?_set_self (by rw [List.length_set]; omega)) tD rfl) (.inr (by rintro _ _ ⟨rfl, rfl⟩ w h; exact h.subD)) ?_
      rintro _ _ ⟨rfl, rfl⟩
      refine D.done tK ?_
      rw [List.set_set, List.set_set]
      exact K.weak tS (fun w h => h.fitD) (cont ⟨⟨qa, ca, qb, cb, qc, cc⟩, ha, hb, hcc⟩)
    ·rintro _ _ ⟨rfl, rfl⟩
     refine dq1 6 rfl (OpQ.loud (q_ldE (xs := M) ck_59 rfl isO tM heM rfl)) (.inr (by rintro _ _ ⟨rfl, rfl⟩ w h; exact h.subD)) ?_
     rintro _ _ ⟨rfl, rfl⟩
     refine dq1 7 rfl (kc rfl (h := clone_rw (RowF Kd.rw e.z.q1 e.x.rows) e.z.q1 e.z.c1 e.x.rows isF he1)) (.inr (by rintro _ _ ⟨_, ⟨qa, ca, rfl, rfl, ha⟩, rfl⟩ w h; exact h.subD)) ?_
     rintro _ _ ⟨_, ⟨qa, ca, rfl, rfl, ha⟩, rfl⟩
     refine dq1 12 rfl (kc rfl (h := cM (RowF Kd.msg e.z.q2 e.x.msgs) e.z.q2 e.z.c2 e.x.msgs isF he2)) (.inr (by rintro _ _ ⟨_, ⟨qb, cb, rfl, rfl, hb⟩, rfl⟩ w h; exact h.subD)) ?_
     rintro _ _ ⟨_, ⟨qb, cb, rfl, rfl, hb⟩, rfl⟩
     refine dq1 17 rfl (kc rfl (h := cM (RowF Kd.msg e.z.q3 e.x.dead) e.z.q3 e.z.c3 e.x.dead isF he3)) (.inr (by rintro _ _ ⟨_, ⟨qc, cc, rfl, rfl, hcc⟩, rfl⟩ w h; exact h.subD)) ?_
     rintro _ _ ⟨_, ⟨qc, cc, rfl, rfl, hcc⟩, rfl⟩
     refine dq 18 rfl (qN rfl)<|dq 19 rfl (qE fo_62_3 rfl)<|dq1N 20 rfl (lP (xs := M) (el := e) (oA e qa ca) ck_59 rfl rfl rfl tP heM tD rfl) (.inr (by rintro _ _ ⟨rfl, rfl⟩ w h; exact h.subD)) ?_
     rintro _ _ ⟨rfl, rfl⟩
     refine dq 21 rfl (qN rfl)<|dq 22 rfl (qE fo_62_4 rfl) ?_
     refine dq1N 23 rfl (lP (xs := M.set i (oA e qa ca)) (el := (oA e qa ca)) (oB e qa ca qb cb) ck_60 rfl rfl rfl tP (List.getElem?_set_self tO) tD rfl) (.inr (by rintro _ _ ⟨rfl, rfl⟩ w h; exact h.subD)) ?_
     rintro _ _ ⟨rfl, rfl⟩
     refine dq 24 rfl (qN rfl)<|dq 25 rfl (qE fo_62_5 rfl) ?_
     refine dq1N 26 rfl (lP (xs := (M.set i (oA e qa ca)).set i (oB e qa ca qb cb)) (el := (oB e qa ca qb cb)) (⟨e.x, ⟨qa, ca, qb, cb, qc, cc⟩⟩ : Oz) ck_60 rfl rfl rfl tP (List.getElem?_set_self (by rw [List.length_set]; omega)) tD rfl) (.inr (by rintro _ _ ⟨rfl, rfl⟩ w h; exact h.subD)) ?_
     rintro _ _ ⟨rfl, rfl⟩
     refine D.done tK ?_
     rw [List.set_set, List.set_set]
     exact K.weak tS (fun w h => h.fitD) (cont ⟨⟨qa, ca, qb, cb, qc, cc⟩, ha, hb, hcc⟩)
   ·rintro _ _ ⟨rfl, rfl⟩
    refine D.all (rs := [6, 11]) tK rfl (DAll.cons rfl tK (OpQ.loud (q_ldE (xs := M) ck_59 rfl isO tM heM rfl)) (.inr (by rintro _ _ ⟨rfl, rfl⟩ w h; exact h.subD)) rfl ?_ (DAll.cons rfl tK (OpQ.loud (q_ldE (xs := M) ck_60 rfl isO tM heM rfl)) (.inr (by rintro _ _ ⟨rfl, rfl⟩ w h; exact h.subD)) rfl ?_ DAll.nil))
    ·rintro _ _ ⟨rfl, rfl⟩
     refine D.all (rs := [7, 11]) tK rfl (DAll.cons rfl tK (kc rfl (h := clone_rw (RowF Kd.rw e.z.q1 e.x.rows) e.z.q1 e.z.c1 e.x.rows isF he1)) (.inr (by rintro _ _ ⟨_, ⟨qa, ca, rfl, rfl, ha⟩, rfl⟩ w h; exact h.subD)) rfl ?_ (DAll.cons rfl tK (OpQ.loud (q_ldE (xs := M) ck_60 rfl isO tM heM rfl)) (.inr (by rintro _ _ ⟨rfl, rfl⟩ w h; exact h.subD)) rfl ?_ DAll.nil))
     ·rintro _ _ ⟨_, ⟨qa, ca, rfl, rfl, ha⟩, rfl⟩
      refine dq1 11 rfl (OpQ.loud (q_ldE (xs := M) ck_60 rfl isO tM heM rfl)) (.inr (by rintro _ _ ⟨rfl, rfl⟩ w h; exact h.subD)) ?_
      rintro _ _ ⟨rfl, rfl⟩
      refine dq1 12 rfl (kc rfl (h := cM (RowF Kd.msg e.z.q2 e.x.msgs) e.z.q2 e.z.c2 e.x.msgs isF he2)) (.inr (by rintro _ _ ⟨_, ⟨qb, cb, rfl, rfl, hb⟩, rfl⟩ w h; exact h.subD)) ?_
      rintro _ _ ⟨_, ⟨qb, cb, rfl, rfl, hb⟩, rfl⟩
      refine dq1 17 rfl (kc rfl (h := cM (RowF Kd.msg e.z.q3 e.x.dead) e.z.q3 e.z.c3 e.x.dead isF he3)) (.inr (by rintro _ _ ⟨_, ⟨qc, cc, rfl, rfl, hcc⟩, rfl⟩ w h; exact h.subD)) ?_
      rintro _ _ ⟨_, ⟨qc, cc, rfl, rfl, hcc⟩, rfl⟩
      refine dq 18 rfl (qN rfl)<|dq 19 rfl (qE fo_62_3 rfl)<|dq1N 20 rfl (lP (xs := M) (el := e) (oA e qa ca) ck_59 rfl rfl rfl tP heM tD rfl) (.inr (by rintro _ _ ⟨rfl, rfl⟩ w h; exact h.subD)) ?_
      rintro _ _ ⟨rfl, rfl⟩
      refine dq 21 rfl (qN rfl)<|dq 22 rfl (qE fo_62_4 rfl) ?_
      refine dq1N 23 rfl (lP (xs := M.set i (oA e qa ca)) (el := (oA e qa ca)) (oB e qa ca qb cb) ck_60 rfl rfl rfl tP (List.getElem?_set_self tO) tD rfl) (.inr (by rintro _ _ ⟨rfl, rfl⟩ w h; exact h.subD)) ?_
      rintro _ _ ⟨rfl, rfl⟩
      refine dq 24 rfl (qN rfl)<|dq 25 rfl (qE fo_62_5 rfl) ?_
      refine dq1N 26 rfl (lP (xs := (M.set i (oA e qa ca)).set i (oB e qa ca qb cb)) (el := (oB e qa ca qb cb)) (⟨e.x, ⟨qa, ca, qb, cb, qc, cc⟩⟩ : Oz) ck_60 rfl rfl rfl tP (List.getElem?_set_self (by rw [List.length_set]; omega)) tD rfl) (.inr (by rintro _ _ ⟨rfl, rfl⟩ w h; exact h.subD)) ?_
      rintro _ _ ⟨rfl, rfl⟩
      refine D.done tK ?_
      rw [List.set_set, List.set_set]
      exact K.weak tS (fun w h => h.fitD) (cont ⟨⟨qa, ca, qb, cb, qc, cc⟩, ha, hb, hcc⟩)
     ·rintro _ _ ⟨rfl, rfl⟩
      refine dq1 7 rfl (kc rfl (h := clone_rw (RowF Kd.rw e.z.q1 e.x.rows) e.z.q1 e.z.c1 e.x.rows isF he1)) (.inr (by rintro _ _ ⟨_, ⟨qa, ca, rfl, rfl, ha⟩, rfl⟩ w h; exact h.subD)) ?_
      rintro _ _ ⟨_, ⟨qa, ca, rfl, rfl, ha⟩, rfl⟩
      refine dq1 12 rfl (kc rfl (h := cM (RowF Kd.msg e.z.q2 e.x.msgs) e.z.q2 e.z.c2 e.x.msgs isF he2)) (.inr (by rintro _ _ ⟨_, ⟨qb, cb, rfl, rfl, hb⟩, rfl⟩ w h; exact h.subD)) ?_
      rintro _ _ ⟨_, ⟨qb, cb, rfl, rfl, hb⟩, rfl⟩
      refine dq1 17 rfl (kc rfl (h := cM (RowF Kd.msg e.z.q3 e.x.dead) e.z.q3 e.z.c3 e.x.dead isF he3)) (.inr (by rintro _ _ ⟨_, ⟨qc, cc, rfl, rfl, hcc⟩, rfl⟩ w h; exact h.subD)) ?_
      rintro _ _ ⟨_, ⟨qc, cc, rfl, rfl, hcc⟩, rfl⟩
      refine dq 18 rfl (qN rfl)<|dq 19 rfl (qE fo_62_3 rfl)<|dq1N 20 rfl (lP (xs := M) (el := e) (oA e qa ca) ck_59 rfl rfl rfl tP heM tD rfl) (.inr (by rintro _ _ ⟨rfl, rfl⟩ w h; exact h.subD)) ?_
      rintro _ _ ⟨rfl, rfl⟩
      refine dq 21 rfl (qN rfl)<|dq 22 rfl (qE fo_62_4 rfl) ?_
      refine dq1N 23 rfl (lP (xs := M.set i (oA e qa ca)) (el := (oA e qa ca)) (oB e qa ca qb cb) ck_60 rfl rfl rfl tP (List.getElem?_set_self tO) tD rfl) (.inr (by rintro _ _ ⟨rfl, rfl⟩ w h; exact h.subD)) ?_
      rintro _ _ ⟨rfl, rfl⟩
      refine dq 24 rfl (qN rfl)<|dq 25 rfl (qE fo_62_5 rfl) ?_
      refine dq1N 26 rfl (lP (xs := (M.set i (oA e qa ca)).set i (oB e qa ca qb cb)) (el := (oB e qa ca qb cb)) (⟨e.x, ⟨qa, ca, qb, cb, qc, cc⟩⟩ : Oz) ck_60 rfl rfl rfl tP (List.getElem?_set_self (by rw [List.length_set]; omega)) tD rfl) (.inr (by rintro _ _ ⟨rfl, rfl⟩ w h; exact h.subD)) ?_
      rintro _ _ ⟨rfl, rfl⟩
      refine D.done tK ?_
      rw [List.set_set, List.set_set]
      exact K.weak tS (fun w h => h.fitD) (cont ⟨⟨qa, ca, qb, cb, qc, cc⟩, ha, hb, hcc⟩)
    ·rintro _ _ ⟨rfl, rfl⟩
     refine dq1 6 rfl (OpQ.loud (q_ldE (xs := M) ck_59 rfl isO tM heM rfl)) (.inr (by rintro _ _ ⟨rfl, rfl⟩ w h; exact h.subD)) ?_
     rintro _ _ ⟨rfl, rfl⟩
     refine dq1 7 rfl (kc rfl (h := clone_rw (RowF Kd.rw e.z.q1 e.x.rows) e.z.q1 e.z.c1 e.x.rows isF he1)) (.inr (by rintro _ _ ⟨_, ⟨qa, ca, rfl, rfl, ha⟩, rfl⟩ w h; exact h.subD)) ?_
     rintro _ _ ⟨_, ⟨qa, ca, rfl, rfl, ha⟩, rfl⟩
     refine dq1 12 rfl (kc rfl (h := cM (RowF Kd.msg e.z.q2 e.x.msgs) e.z.q2 e.z.c2 e.x.msgs isF he2)) (.inr (by rintro _ _ ⟨_, ⟨qb, cb, rfl, rfl, hb⟩, rfl⟩ w h; exact h.subD)) ?_
     rintro _ _ ⟨_, ⟨qb, cb, rfl, rfl, hb⟩, rfl⟩
     refine dq1 17 rfl (kc rfl (h := cM (RowF Kd.msg e.z.q3 e.x.dead) e.z.q3 e.z.c3 e.x.dead isF he3)) (.inr (by rintro _ _ ⟨_, ⟨qc, cc, rfl, rfl, hcc⟩, rfl⟩ w h; exact h.subD)) ?_
     rintro _ _ ⟨_, ⟨qc, cc, rfl, rfl, hcc⟩, rfl⟩
     refine dq 18 rfl (qN rfl)<|dq 19 rfl (qE fo_62_3 rfl)<|dq1N 20 rfl (lP (xs := M) (el := e) (oA e qa ca) ck_59 rfl rfl rfl tP heM tD rfl) (.inr (by rintro _ _ ⟨rfl, rfl⟩ w h; exact h.subD)) ?_
     rintro _ _ ⟨rfl, rfl⟩
     refine dq 21 rfl (qN rfl)<|dq 22 rfl (qE fo_62_4 rfl) ?_
     refine dq1N 23 rfl (lP (xs := M.set i (oA e qa ca)) (el := (oA e qa ca)) (oB e qa ca qb cb) ck_60 rfl rfl rfl tP (List.getElem?_set_self tO) tD rfl) (.inr (by rintro _ _ ⟨rfl, rfl⟩ w h; exact h.subD)) ?_
     rintro _ _ ⟨rfl, rfl⟩
     refine dq 24 rfl (qN rfl)<|dq 25 rfl (qE fo_62_5 rfl) ?_
     refine dq1N 26 rfl (lP (xs := (M.set i (oA e qa ca)).set i (oB e qa ca qb cb)) (el := (oB e qa ca qb cb)) (⟨e.x, ⟨qa, ca, qb, cb, qc, cc⟩⟩ : Oz) ck_60 rfl rfl rfl tP (List.getElem?_set_self (by rw [List.length_set]; omega)) tD rfl) (.inr (by rintro _ _ ⟨rfl, rfl⟩ w h; exact h.subD)) ?_
     rintro _ _ ⟨rfl, rfl⟩
     refine D.done tK ?_
     rw [List.set_set, List.set_set]
     exact K.weak tS (fun w h => h.fitD) (cont ⟨⟨qa, ca, qb, cb, qc, cc⟩, ha, hb, hcc⟩)
 ·obtain rfl : i = l.length := by omega
  rw [List.take_of_length_le tO] at hMc ⊢
  clear ih
  refine K.exit rfl<|ky<|kq (q_as (qL ck_47 rfl rfl tC) (show _ = Sz.cells ⟨nx, q', c', M⟩ by unfold Sz.cells; rw [hM]))<|kN rfl (lS ck_47 rfl rfl ⟨rfl, rfl⟩ (sz_one _) tP) ?_
  rintro _ _ ⟨rfl, rfl⟩
  refine zm ?_
  refine K.ret (fn := Tryz.f52) func52 (fun a w hk hs => resC results52 hk rfl ck_47 rfl (cP tM w hs)) (fun w hs => ?_)
  exact ⟨_, [RowO Kd.oz 62 q' c' M, AllO ObE M], rfl, ⟨q', c', M, rfl, rfl, hMx, by omega, hMc⟩, hs.fitD⟩
end Go.Proofs.YtkbhldicnamcdaaGreat.L
namespace Go.Proofs.YtkbhldicnamcdaaGreat.L
open Go Go.Proofs
def Ob.small (x : Ob) (n : Nat) : Prop := x.sm ∧ x.rows.length ≤ n ∧ x.msgs.length ≤ n ∧ x.dead.length ≤ n
structure Stt.small (s : Stt) (n : Nat) : Prop where
 nx : -9223372036854775808 ≤ s.next ∧ s.next ≤ 9223372036854775807
 len : s.objs.length ≤ 1000000000
 obs : ∀ o ∈ s.objs, o.small n
theorem Ob.small.more {x : Ob} {n m : Nat} (h : x.small n) (hm : n ≤ m) : x.small m := ⟨h.1, by have := h.2.1; omega, by have := h.2.2.1; omega, by have := h.2.2.2; omega⟩
theorem Stt.small.more {s : Stt} {n m : Nat} (h : s.small n) (hm : n ≤ m) : s.small m := ⟨h.nx, h.len, fun o ho => (h.obs o ho).more hm⟩
theorem Msg.sm_tried {m : Msg} (h : m.sm) : m.tried.sm := by
 obtain ⟨h1, h2, h3, h4, h5⟩ := h
 refine ⟨h1, h2, ?_, h4, h5⟩
 show -9223372036854775808 ≤ (if 999 < m.retry then 999 else m.retry) + 1 ∧ (if 999 < m.retry then 999 else m.retry) + 1 ≤ 9223372036854775807
 split <;> omega
theorem Msg.sm_claim {m : Msg} (h : m.sm) (b : Bool) : Msg.sm { m with claimed := b } := h
theorem Msg.sm_right {m : Msg} (h : m.right = true) : m.sm := by
 unfold Msg.right at h
 simp only [Bool.and_eq_true, decide_eq_true_eq] at h
 exact ⟨by omega, by omega, by omega, by omega, by omega⟩
theorem insAt_mem {α : Type} {l : List α} {i : Nat} {x y : α} (h : y ∈ insAt l i x) : y ∈ l ∨ y = x := by
 unfold insAt at h
 rcases List.mem_append.1 h with h | h
 ·rcases List.mem_append.1 h with h | h
  ·exact .inl (List.mem_of_mem_take h)
  ·exact .inr (List.mem_singleton.1 h)
 ·exact .inl (List.mem_of_mem_drop h)
theorem insAt_le {α : Type} (l : List α) (i : Nat) (x : α) : (insAt l i x).length ≤ l.length + 1 := by
 unfold insAt
 have := congrArg List.length (List.take_append_drop i l)
 rw [List.length_append] at this
 rw [List.length_append, List.length_append, List.length_singleton]
 omega
theorem gd_mem {α : Type} {l : List α} {i : Nat} {d : α} : l.getD i d ∈ l ∨ l.getD i d = d := by
 rw [List.getD_eq_getElem?_getD]
 cases h : l[i]? with
 | none => exact .inr rfl
 | some x => exact .inl (List.mem_of_getElem? h)
theorem gd_sm {l : List Msg} (h : ∀ m ∈ l, m.sm) (i : Nat) : (l.getD i ⟨0, 0, 0, false, ⟨#[]⟩, ⟨#[]⟩⟩).sm := by
 rcases gd_mem (l := l) (i := i) (d := ⟨0, 0, 0, false, ⟨#[]⟩, ⟨#[]⟩⟩) with h1 | h1
 ·exact h _ h1
 ·rw [h1]; exact ⟨by decide, by decide, by decide, by decide, by decide⟩
theorem set_all {α : Type} {P : α → Prop} {l : List α} {i : Nat} {y : α} (h : ∀ x ∈ l, P x) (hy : P y) : ∀ x ∈ l.set i y, P x := fun x hx => (List.mem_or_eq_of_mem_set hx).elim (h x) (fun e => by rw [e]; exact hy)
theorem cutM_all {P : Msg → Prop} {l : List Msg} (id : Int) (h : ∀ x ∈ l, P x) : (∀ x ∈ (cutM l id).1, P x) ∧ (cutM l id).1.length ≤ l.length := by
 unfold cutM
 split
 ·exact ⟨h, Nat.le_refl _⟩
 ·exact ⟨fun x hx => h x (List.mem_of_mem_eraseIdx hx), List.length_eraseIdx_le _ _⟩
theorem claimM_all {l : List Msg} (id : Int) (on : Bool) (h : ∀ x ∈ l, x.sm) : (∀ x ∈ (claimM l id on).1, x.sm) ∧ (claimM l id on).1.length ≤ l.length := by
 unfold claimM
 split
 ·exact ⟨h, Nat.le_refl _⟩
 ·split
  ·exact ⟨h, Nat.le_refl _⟩
  ·exact ⟨set_all h (Msg.sm_claim (gd_sm h _) on), Nat.le_of_eq List.length_set⟩
theorem freeO_small {o : Ob} {n : Nat} (id : Int) (t : Bool) (hn : n + 1 ≤ 140737488351232) (h : o.small n) : (freeO o id t).1.small (n + 1) := by
 have h' := h.more (Nat.le_succ n)
 obtain ⟨⟨s1, s2, s3, s4, s5, s6, s7, s8, s9⟩, l1, l2, l3⟩ := h
 have hd := gd_sm s5 (findM o.msgs id).toNat
 unfold freeO
 split
 ·exact h'
 ·split
  ·exact h'
  ·split
   ·refine ⟨⟨s1, s2, s3, s4, set_all s5 (Msg.sm_claim hd false), s6, s7, ?_, s9⟩, by show o.rows.length ≤ _; omega, ?_, by show o.dead.length ≤ _; omega⟩
    ·show (o.msgs.set _ _).length ≤ _; rw [List.length_set]; exact s8
    ·show (o.msgs.set _ _).length ≤ _; rw [List.length_set]; omega
   ·split
    ·have he := List.length_eraseIdx_le o.msgs (findM o.msgs id).toNat
     refine ⟨⟨s1, s2, s3, s4, fun x hx => s5 x (List.mem_of_mem_eraseIdx hx), fun x hx => ?_, s7, ?_, ?_⟩, by show o.rows.length ≤ _; omega, ?_, ?_⟩
     ·rcases List.mem_append.1 hx with hx | hx
      ·exact s6 x hx
      ·rw [List.mem_singleton.1 hx]; exact Msg.sm_tried hd
     ·show (o.msgs.eraseIdx _).length ≤ _; omega
     ·show (o.dead ++ [_]).length ≤ _; rw [List.length_append, List.length_singleton]; omega
     ·show (o.msgs.eraseIdx _).length ≤ _; omega
     ·show (o.dead ++ [_]).length ≤ _; rw [List.length_append, List.length_singleton]; omega
    ·refine ⟨⟨s1, s2, s3, s4, set_all s5 (Msg.sm_tried hd), s6, s7, ?_, s9⟩, by show o.rows.length ≤ _; omega, ?_, by show o.dead.length ≤ _; omega⟩
     ·show (o.msgs.set _ _).length ≤ _; rw [List.length_set]; exact s8
     ·show (o.msgs.set _ _).length ≤ _; rw [List.length_set]; omega
theorem right_k {e : Eff} (h : e.right = true) : e.rightK = true := by
 unfold Eff.right at h
 rw [Bool.and_eq_true] at h
 exact h.2
theorem queueO_small {s : Stt} {o : Ob} {e : Eff} {n : Nat} (hn : n + 1 ≤ 140737488351232) (hr : e.right = true) (h : o.small n) : (queueO s o e).1.small (n + 1) := by
 have h' := h.more (Nat.le_succ n)
 have hf := freeO_small e.n e.tried hn h
 obtain ⟨⟨s1, s2, s3, s4, s5, s6, s7, s8, s9⟩, l1, l2, l3⟩ := h
 unfold queueO
 split
 ·rename_i hk
  have hm : e.msg.right = true := by
   have := right_k hr
   unfold Eff.rightK at this
   rw [if_neg tO, if_neg tO, if_neg tO, if_pos hk, Bool.and_eq_true] at this
   exact this.2
  split
  ·exact h'
  ·split
   ·exact h'
   ·have ha : (addM o.msgs e.msg).length ≤ o.msgs.length + 1 := insAt_le _ _ _
    refine ⟨⟨s1, s2, s3, s4, fun x hx => ?_, s6, s7, ?_, s9⟩, by show o.rows.length ≤ _; omega, ?_, by show o.dead.length ≤ _; omega⟩
    ·rcases insAt_mem (hx : x ∈ insAt o.msgs _ e.msg) with h1 | h1
     ·exact s5 x h1
     ·rw [h1]; exact Msg.sm_right hm
    ·show (addM o.msgs e.msg).length ≤ _; omega
    ·show (addM o.msgs e.msg).length ≤ _; omega
 ·split
  ·obtain ⟨c1, c2⟩ := cutM_all e.n s5
   exact ⟨⟨s1, s2, s3, s4, c1, s6, s7, Nat.le_trans c2 s8, s9⟩, by show o.rows.length ≤ _; omega, by show (cutM o.msgs e.n).1.length ≤ _; omega, by show o.dead.length ≤ _; omega⟩
  ·split
   ·split
    ·exact h'
    ·obtain ⟨c1, c2⟩ := claimM_all e.n true s5
     exact ⟨⟨s1, s2, s3, s4, c1, s6, s7, Nat.le_trans c2 s8, s9⟩, by show o.rows.length ≤ _; omega, by show (claimM o.msgs e.n true).1.length ≤ _; omega, by show o.dead.length ≤ _; omega⟩
   ·split
    ·exact hf
    ·exact h'
theorem rw_sm {r : Rw} (h : r.right = true) : r.sm := by
 unfold Rw.right rwKey at h
 simp only [Bool.and_eq_true, decide_eq_true_eq] at h
 exact ⟨by omega, by omega⟩
theorem tableO_small {o : Ob} {e : Eff} {n : Nat} (hn : n + 1 ≤ 140737488351232) (hr : e.right = true) (h : o.small n) : (tableO o e).1.small (n + 1) := by
 obtain ⟨⟨s1, s2, s3, s4, s5, s6, s7, s8, s9⟩, l1, l2, l3⟩ := h
 unfold tableO
 split
 ·rename_i hk
  have hm : Rw.right ⟨e.key, e.value⟩ = true := by
   have := right_k hr
   unfold Eff.rightK at this
   rw [if_neg tO, if_pos hk, Bool.and_eq_true] at this
   exact this.2
  have hl : (putR o.rows ⟨e.key, e.value⟩).length ≤ o.rows.length + 1 := by
   unfold putR
   split
   ·rw [List.length_set]; omega
   ·exact insAt_le _ _ _
  refine ⟨⟨s1, s2, s3, fun x hx => ?_, s5, s6, ?_, s8, s9⟩, ?_, by show o.msgs.length ≤ _; omega, by show o.dead.length ≤ _; omega⟩
  ·have hx : x ∈ putR o.rows ⟨e.key, e.value⟩ := hx
   unfold putR at hx
   split at hx
   ·rcases List.mem_or_eq_of_mem_set hx with h1 | h1
    ·exact s4 x h1
    ·rw [h1]; exact rw_sm hm
   ·rcases insAt_mem hx with h1 | h1
    ·exact s4 x h1
    ·rw [h1]; exact rw_sm hm
  ·show (putR o.rows ⟨e.key, e.value⟩).length ≤ _; omega
  ·show (putR o.rows ⟨e.key, e.value⟩).length ≤ _; omega
 ·have hl : (cutR o.rows e.key).1.length ≤ o.rows.length := by
   unfold cutR
   split
   ·exact List.length_eraseIdx_le _ _
   ·exact Nat.le_refl _
  refine ⟨⟨s1, s2, s3, fun x hx => ?_, s5, s6, ?_, s8, s9⟩, ?_, by show o.msgs.length ≤ _; omega, by show o.dead.length ≤ _; omega⟩
  ·have hx : x ∈ (cutR o.rows e.key).1 := hx
   unfold cutR at hx
   split at hx
   ·exact s4 x (List.mem_of_mem_eraseIdx hx)
   ·exact s4 x hx
  ·show (cutR o.rows e.key).1.length ≤ _; omega
  ·show (cutR o.rows e.key).1.length ≤ _; omega
theorem ob_zero_small (n : Nat) : Ob.zero.small n := ⟨⟨tD, tD, tD, (fun _ h => by cases h), (fun _ h => by cases h), (fun _ h => by cases h), by decide, by decide, by decide⟩, Nat.zero_le _, Nat.zero_le _, Nat.zero_le _⟩
theorem doS_small {s : Stt} {n : Nat} (hn : n + 1 ≤ 140737488351232) (h : s.small n) (e : Eff) : (doS s e).1.small (n + 1) := by
 have h' := h.more (Nat.le_succ n)
 have hg : (s.objs.getD (findO s e.object).toNat Ob.zero).small n := by
  rcases gd_mem (l := s.objs) (i := (findO s e.object).toNat) (d := Ob.zero) with h1 | h1
  ·exact h.obs _ h1
  ·rw [h1]; exact ob_zero_small n
 unfold doS
 split
 ·exact h'
 ·rename_i hr
  have hr : e.right = true := by simpa using hr
  have hk := right_k hr
  split
  ·rename_i hk1
   unfold makeS
   split
   ·exact h'
   ·split
    ·exact h'
    ·have hkk : (effName e.object && effKind e.n e.limit) = true := by
      unfold Eff.rightK at hk
      rwa [if_pos hk1] at hk
     rw [Bool.and_eq_true] at hkk
     refine ⟨h'.nx, ?_, fun o ho => ?_⟩
     ·exact Nat.le_trans (insAt_le _ _ _) tO
     ·rcases insAt_mem (ho : o ∈ insAt s.objs _ _) with h1 | h1
      ·exact h'.obs o h1
      ·rw [h1]
       have h2 := hkk.1
       have h3 := hkk.2
       unfold effName at h2
       rw [Bool.and_eq_true, decide_eq_true_eq, decide_eq_true_eq] at h2
       have h4 : (1 ≤ e.n ∧ e.n ≤ 2) ∧ 0 ≤ e.limit ∧ e.limit ≤ 1000 := by
        unfold effKind at h3
        split at h3
        ·have := of_decide_eq_true h3; omega
        ·split at h3
         ·rw [Bool.and_eq_true, decide_eq_true_eq, decide_eq_true_eq] at h3; omega
         ·cases h3
       exact ⟨⟨by show e.object.size ≤ _; omega, by show _ ≤ e.n ∧ e.n ≤ _; omega, by show _ ≤ e.limit ∧ e.limit ≤ _; omega, (fun _ h => by cases h), (fun _ h => by cases h), (fun _ h => by cases h), Nat.zero_le _, Nat.zero_le _, Nat.zero_le _⟩, Nat.zero_le _, Nat.zero_le _, Nat.zero_le _⟩
  ·split
   ·rename_i hk8
    unfold nextS
    split
    ·exact h'
    ·have hid : effId e.n = true := by
      unfold Eff.rightK at hk
      rwa [if_neg tO, if_neg tO, if_neg tO, if_neg tO, if_neg tO, if_pos hk8] at hk
     unfold effId at hid
     rw [Bool.and_eq_true, decide_eq_true_eq, decide_eq_true_eq] at hid
     exact ⟨by show _ ≤ e.n ∧ e.n ≤ _; omega, h'.len, h'.obs⟩
   ·split
    ·exact h'
    ·split
     ·exact h'
     ·split
      ·exact ⟨h'.nx, by show (s.objs.set _ _).length ≤ _; rw [List.length_set]; exact h'.len, set_all h'.obs (tableO_small hn hr hg)⟩
      ·exact ⟨h'.nx, by show (s.objs.set _ _).length ≤ _; rw [List.length_set]; exact h'.len, set_all h'.obs (queueO_small hn hr hg)⟩
end Go.Proofs.YtkbhldicnamcdaaGreat.L
namespace Go.Proofs.YtkbhldicnamcdaaGreat.L
open Go Go.Proofs
attribute [local irreducible] pv fv pt fz RowF RowO rowP old pure_ elA Rd.int Rd.text Rd.flag Rd.msg Rd.rint Rd.rtext Rd.rflag Rd.rmsg
theorem Oz.ok_of {o : Oz} {n : Nat} (h : o.x.small n) (hc : o.cap) : o.ok := ⟨h.1, hc⟩
theorem Oz.le_of {o : Oz} {n m : Nat} (h : o.x.small n) (hm : n ≤ m) : o.le m := ⟨by have := h.2.1; omega, by have := h.2.2.1; omega, by have := h.2.2.2; omega⟩
theorem Stt.small.oz {s : Sz} {n : Nat} (h : s.st.small n) {o : Oz} (ho : o ∈ s.l) : o.x.small n := h.obs o.x (List.mem_map_of_mem ho)
theorem Sz.len_of {s : Sz} {n : Nat} (h : s.st.small n) : s.l.length ≤ 1000000000 := by
 have := h.len
 rwa [show s.st.objs.length = s.l.length from List.length_map _] at this
theorem Sz.ok_of {s : Sz} {n : Nat} (h : s.st.small n) (hc : s.l.length ≤ s.c) (hcap : ∀ o ∈ s.l, o.cap) : s.ok :=
 ⟨h.nx, by have := Sz.len_of h; omega, hc, fun o ho => Oz.ok_of (h.oz ho) (hcap o ho)⟩
theorem Sz.few_of {s : Sz} {n : Nat} (h : s.st.small n) (hn : n ≤ 1000000000) : s.few := fun o ho => by
 have := h.oz ho
 have h2 := this.2.2.1
 have h3 := this.2.2.2
 omega
structure Sz.good (s : Sz) (n : Nat) : Prop where
 sm : s.st.small n
 room : s.l.length ≤ s.c
 cap : ∀ o ∈ s.l, o.cap
theorem Sz.zero_good (n : Nat) : Sz.good ⟨0, none, 0, []⟩ n := ⟨⟨tD, tD, fun o ho => by cases ho⟩, Nat.le_refl _, fun o ho => by cases ho⟩
theorem doAll_step {s : Stt} {e : Eff} {l : List Eff} (h : (doS s e).2 = 0) : doAll s (e :: l) = doAll (doS s e).1 l := by rw [doAll, if_pos h]
theorem doAll_stop {s : Stt} {e : Eff} {l : List Eff} (h : ¬ (doS s e).2 = 0) : doAll s (e :: l) = (⟨0, []⟩, (doS s e).2) := by rw [doAll, if_neg h]
set_option maxHeartbeats 3200000 in
theorem st_Apply (A : HP) (s : Sz) (n : Nat) (qe : Option Addr) (ce : Nat) (l : List Eff) (hA : IsRow A Kd.eff qe l) (hs : s.good n) (hn : n + l.length ≤ 100000000) : Fn Tryz.prog 44 [.agg s.cells.toArray, .slice qe l.length ce].toArray (A :: StL s)
  (fun r post => ∃ s' : Sz, r = .tuple #[.agg s'.cells.toArray, .int .i64 (applyS s.st l).2] ∧ s'.st = (applyS s.st l).1 ∧ post = A :: StL s' ∧ s'.good (n + l.length)) := by
 have hok := Sz.ok_of hs.sm hs.room hs.cap
 have hfew := Sz.few_of hs.sm tO
 have hlen := Sz.len_of hs.sm
 have hle : ∀ o ∈ s.l, o.le 1000000000 := fun o ho => Oz.le_of (hs.sm.oz ho) tO
 refine Fn.enter (N := 29) func44 rfl ntmps44 tK rfl (fun ρ L => ?_)
 refine ky<|kl (l_box rfl rfl) ?_
 rintro _ _ ⟨b2, rfl, rfl⟩
 refine kl (lL zo_47) ?_
 rintro _ _ ⟨b4, rfl, rfl⟩
 refine ka rfl<|zm<|ke<|ky<|kq (qL ck_47 rfl rfl tC)<|kl (kc rfl (h := st_Right _ (by assumption) (by assumption))) ?_
 rintro _ _ ⟨_, ⟨rfl, rfl⟩, rfl⟩
 refine kq (q_not rfl)<|zm ?_
 refine kT (s := 11) rfl (fun g11 => ?_) (fun g11 => ?_)
 ·have hr : s.st.right = false := by simpa using g11
  have hap : applyS s.st l = (⟨0, []⟩, 1) := by unfold applyS; rw [if_pos hr]
  refine ky<|kq (q_as_sz (l_ := []) (q_build st_47 rfl tF) rfl)<|kN rfl (lS ck_47 rfl rfl ⟨rfl, rfl⟩ (sz_one _) tP) ?_
  rintro _ _ ⟨rfl, rfl⟩
  refine ka rfl<|zm ?_
  refine K.ret (fn := Tryz.f44) func44 (fun a w hk hs => resCT results44 hk rfl ck_47 rfl (cP tM w hs) rfl) (fun w hs => ?_)
  rw [hap]
  exact ⟨_, A :: StL ⟨0, none, 0, []⟩, rfl, ⟨⟨0, none, 0, []⟩, rfl, rfl, rfl, Sz.zero_good _⟩, (nestF_nil (rowF_nilA (k := Kd.oz) (hs.fit (M := [A]) tG (by repeat (first | exact Drop.refl | apply Drop.skip))))).fitD⟩
 ·have hr : ¬ s.st.right = false := by simpa using g11
  have hap : applyS s.st l = doAll s.st l := by unfold applyS; rw [if_neg hr]
  rw [hap]
  refine za<|ky<|kq (qL ck_47 rfl rfl tC)<|kl (kc rfl (h := st_CloneO s hlen hle)) ?_
  rintro _ _ ⟨_, ⟨q', c', l', rfl, rfl, hm, hlc, hcap⟩, rfl⟩
  refine KO.st (fun w h => allO_freeze (h.pick tP))<|kN rfl (lS ck_47 rfl rfl ⟨rfl, rfl⟩ (sz_one _) tP) ?_
  rintro _ _ ⟨rfl, rfl⟩
  refine zm<|ke<|ke ?_
  have hst0 : Sz.st ⟨s.next, q', c', l'⟩ = s.st := by unfold Sz.st; dsimp only; rw [hm]
  refine kr<|km rfl<|kq (qG underlying64 rfl)<|km rfl<|zm<|kB ?_
  refine kX (ι := { x : Nat × Sz // x.1 ≤ l.length ∧ doAll s.st l = doAll x.2.st (l.drop x.1) ∧ x.2.good (n + x.1) }) (fun x => [(17, .int .i64 x.1.1), (16, .int .i64 l.length), (15, .slice qe l.length ce), (2, .pointer (some ⟨b2, 0, none⟩)), (4, .pointer (some ⟨b4, 0, none⟩))]) (fun x => StO b2 x.1.2 ++ [A, pv b4 47 [.int .i64 0, .slice none 0 0]] ++ L) (fun x => l.length - x.1.1) ⟨(0, ⟨s.next, q', c', l'⟩), Nat.zero_le _, by rw [hst0]; rfl, ⟨by rw [hst0]; exact hs.sm, hlc, hcap⟩⟩ tS (fun w h => h.fitD) (fun x ih => ?_)
  obtain ⟨⟨i, sx⟩, hi, hd, hg⟩ := x
  dsimp only at hi hd hg ⊢
  refine ky<|kq (q_lt rfl rfl)<|zm<|ke ?_
  refine kD (s := 18) rfl (fun g18 => ?_) (fun g18 => ?_)
  ·obtain ⟨e, he⟩ : ∃ e, l[i]? = some e := ⟨_, List.getElem?_eq_getElem tO⟩
   have hdr : l.drop i = e :: l.drop (i + 1) := by
    obtain ⟨h1, h2⟩ := List.getElem?_eq_some_iff.1 he
    rw [← h2, List.getElem_cons_drop h1]
   have hgl := Sz.len_of hg.sm
   have hgle : ∀ o ∈ sx.l, o.le 1000000000 := fun o ho => Oz.le_of (hg.sm.oz ho) tO
   have hgr : ∀ o ∈ sx.l, ∀ m ∈ o.x.msgs, -9223372036854775808 ≤ m.retry := fun o ho m hm => ((hg.sm.oz ho).1.2.2.2.2.1 m hm).2.2.1.1
   have hsm := doS_small (n := n + i) tO hg.sm e
   refine za<|ke<|kB<|ky<|kq (q_ix (xs := l) i se_64 rfl rfl rfl hA tM rfl tO)<|kq (q_ldEN (xs := l) (enc := Eff.cells) ck_58 rfl hA tM he)<|kl (lL zo_58) ?_
   rintro _ _ ⟨b7, rfl, rfl⟩
   refine kN rfl (lS ck_58 rfl rfl ⟨rfl, rfl⟩ (eff_one _) tP) ?_
   rintro _ _ ⟨rfl, rfl⟩
   refine kz<|kq (qL ck_58 rfl rfl tC)<|kl (kc rfl (h := st_do b2 sx e hg.room hgl hgle hg.cap hgr)) ?_
   rintro _ _ ⟨_, ⟨s', rfl, hs1, rfl, hs2, hs3⟩, rfl⟩
   refine ka rfl<|kz<|km rfl<|kq (q_ne rfl rfl)<|zm ?_
   refine kD (s := 24) rfl (fun g24 => ?_) (fun g24 => ?_)
   ·have hfin : doAll sx.st (l.drop i) = (⟨0, []⟩, (doS sx.st e).2) := by rw [hdr]; exact doAll_stop g24
    refine ky<|kq (q_as_sz (l_ := []) (q_build st_47 rfl tF) rfl)<|km rfl<|kN rfl (lS ck_47 rfl rfl ⟨rfl, rfl⟩ (sz_one _) tP) ?_
    rintro _ _ ⟨rfl, rfl⟩
    refine ka rfl<|zm ?_
    refine K.ret (fn := Tryz.f44) func44 (fun a w hk hs => resCT results44 hk rfl ck_47 rfl (cP tM w hs) rfl) (fun w hs => ?_)
    rw [hd, hfin]
    exact ⟨_, A :: StL ⟨0, none, 0, []⟩, rfl, ⟨⟨0, none, 0, []⟩, rfl, rfl, rfl, Sz.zero_good _⟩, (nestF_nil (rowF_nilA (k := Kd.oz) (hs.fit (M := [A]) tG (by repeat (first | exact Drop.refl | apply Drop.skip))))).fitD⟩
   ·have hfin : doAll sx.st (l.drop i) = doAll s'.st (l.drop (i + 1)) := by rw [hdr, hs1]; exact doAll_step (Decidable.not_not.1 g24)
    refine za<|zd<|kr<|kq (q_add rfl rfl tN tN)<|km rfl<|zm ?_
    exact K.weak tS (fun w h => h.fitD) (ih ⟨(i + 1, s'), by show i + 1 ≤ _; omega, by show doAll s.st l = doAll s'.st (l.drop (i + 1)); rw [hd, hfin], ⟨by rw [hs1, show n + (i + 1) = n + i + 1 by omega]; exact hsm, hs2, hs3⟩⟩ (by show l.length - (i + 1) < l.length - i; omega))
  ·obtain rfl : i = l.length := by omega
   have hfin : doAll sx.st (l.drop l.length) = (sx.st, 0) := by rw [List.drop_length]; rfl
   clear ih
   refine K.exit rfl<|ky<|kq (qL ck_47 rfl rfl tC)<|kN rfl (lS ck_47 rfl rfl ⟨rfl, rfl⟩ (sz_one _) tP) ?_
   rintro _ _ ⟨rfl, rfl⟩
   refine ka rfl<|zm ?_
   refine K.ret (fn := Tryz.f44) func44 (fun a w hk hs => resCT results44 hk rfl ck_47 rfl (cP tM w hs) rfl) (fun w hs => ?_)
   rw [hd, hfin]
   exact ⟨_, A :: StL sx, rfl, ⟨sx, rfl, rfl, rfl, hg⟩, ((rO (e := 62) (cap := sx.c) (k := Kd.oz) (p := sx.q) (xs := sx.l) (hs.pick tP)).fit (M := A :: StL sx) tG (by repeat (first | exact Drop.refl | apply Drop.skip)))⟩
def Ob.cnt (o : Ob) : Nat := 1 + o.rows.length + o.msgs.length + o.dead.length
def Sz.cnt (s : Sz) (i : Nat) : Nat := ((s.l.take i).map (fun o => o.x.cnt)).sum
theorem cnt_succ {s : Sz} {i : Nat} {o : Oz} (h : s.l[i]? = some o) : s.cnt (i + 1) = s.cnt i + o.x.cnt := by
 unfold Sz.cnt
 rw [List.take_add_one, h]; simp
def Rw.size (r : Rw) : Nat := 20 + r.key.size + r.value.size
def Msg.wt (m : Msg) : Nat := 60 + m.corr.size + m.body.size
def Ob.size (o : Ob) : Nat := 50 + o.name.size + (o.rows.map Rw.size).sum + (o.msgs.map Msg.wt).sum + (o.dead.map Msg.wt).sum
def Stt.size (s : Stt) : Nat := 16 + (s.objs.map Ob.size).sum
theorem sum_succ {α : Type} {f : α → Nat} {l : List α} {i : Nat} {x : α} (h : l[i]? = some x) : ((l.take (i + 1)).map f).sum = ((l.take i).map f).sum + f x := by
 rw [List.take_add_one, h]; simp
theorem sum_le_mul {α : Type} {f : α → Nat} {c : Nat} : ∀ (l : List α), (∀ x ∈ l, f x ≤ c) → (l.map f).sum ≤ l.length * c
 | [], _ => by simp
 | x :: l, h => by
  have h1 := h x List.mem_cons_self
  have h2 := sum_le_mul l (fun y hy => h y (List.mem_cons_of_mem _ hy))
  simp only [List.map_cons, List.sum_cons, List.length_cons, Nat.succ_mul]
  omega
theorem sum_take_le {α : Type} {f : α → Nat} (l : List α) (i : Nat) : ((l.take i).map f).sum ≤ (l.map f).sum := by
 conv => rhs; rw [← List.take_append_drop i l]
 rw [List.map_append, List.sum_append]; omega
theorem cnt_mono (s : Sz) (i : Nat) : s.cnt i ≤ s.cnt s.l.length := by
 unfold Sz.cnt
 rw [List.take_length]
 exact sum_take_le _ _
end Go.Proofs.YtkbhldicnamcdaaGreat.L
