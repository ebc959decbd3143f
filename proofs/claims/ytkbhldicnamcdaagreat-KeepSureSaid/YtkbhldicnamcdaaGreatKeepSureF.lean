/- Whatever stays at a crash, the state behind all changes that were answered OK is there, or also the one more that was not; no condition. -/
import Derived.SizedLaws
import Derived.KernelRfl
import Derived.Test.YtkbhldicnamcdaaGreatKeepSureE
open Go.Proofs.Tryz
set_option linter.unusedVariables false
set_option linter.unusedSimpArgs false
set_option maxRecDepth 100000
namespace Go.Proofs.YtkbhldicnamcdaaGreat.L
open Go Go.Proofs
attribute [local irreducible] pv fv pt fz RowF RowO rowP old pure_ elA Rd.int Rd.text Rd.flag Rd.msg Rd.rint Rd.rtext Rd.rflag Rd.rmsg
attribute [local irreducible] Rd.eff lsM
theorem Gs.len {α : Type} {P : α → Prop} {N : Nat} {l : List α} {s : RdW} (h : Gs P N l s) : l.length ≤ N + 1 := by
 have := h.1
 split at this <;> omega
theorem St.fitE {ι : Type} {f : ι → List HP} {ρ : World} {Lc M L' L : List HP} {w : World} (i : ι) (h : St ρ Lc w) (g : Give Lc (f i ++ M) L') (d : Drop L' L) : St ρ ((HP.ex f :: M) ++ L) w := by
 have := h.fit g d
 rw [List.append_assoc] at this
 exact St.exI i this
abbrev RmsF (c0 c1 p : Nat) (acc : List Msg) (z : Option Addr × Nat) : List HP := [pv c0 60 [.slice z.1 acc.length z.2], pv c1 169 [.pointer (some ⟨p, 0, none⟩)], RowO Kd.msg 56 z.1 z.2 acc]
abbrev Rms (c0 c1 p : Nat) (acc : List Msg) : HP := HP.ex (RmsF c0 c1 p acc)
set_option maxHeartbeats 800000 in
theorem im_m1 (c0 c1 p rb : Nat) (q : Option Addr) (cap : Nat) (s : Rd) (wf : Bool) (acc : List Msg) (hc : s.bs.length ≤ cap) (hl : acc.length ≤ 10000000001) : Fn Tryz.prog 202 [.pointer (some ⟨c0, 0, none⟩), .pointer (some ⟨c1, 0, none⟩)].toArray (Rms c0 c1 p acc :: IR p rb wf q cap s)
  (fun v post => ∃ q' cap', v = .tuple #[] ∧ post = Rms c0 c1 p (acc ++ [(msgM (s, wf)).1]) :: IR p rb (msgM (s, wf)).2.2 q' cap' (msgM (s, wf)).2.1 ∧ (msgM (s, wf)).2.1.bs.length ≤ cap') := by
 refine Fn.enter (N := 10) func202 rfl ntmps202 tK rfl (fun ρ L => ?_)
 refine K.ex (fun w h => St.exP tP h) (fun z => ?_)
 obtain ⟨z1, z2⟩ := z
 dsimp only [List.cons_append, List.nil_append]
 refine K.drawS [pv c1 169 [.pointer (some ⟨p, 0, none⟩)], pv p 173 [.pointer (some ⟨rb, 0, none⟩), .bool wf]] (fun _ h => h.subD) mixed<|dq 1 rfl (qD ck_169 rfl)<|dq 2 rfl (qN rfl)<|dq 3 rfl (qO fo_173_0 rfl)<|dq 4 rfl (qD ck_170 rfl) ?_
 refine D.all (rs := [0, 5]) tK rfl (DAll.cons rfl tK (OpQ.loud (qD ck_60 rfl)) (.inr (by rintro _ _ ⟨rfl, rfl⟩ w h; exact h.subD)) rfl ?_ (DAll.cons rfl tK (kc rfl (h := msg_Read _ _ _ _ (by assumption))) (.inr (by rintro _ _ ⟨_, ⟨qx, cx, rfl, rfl, hcx⟩, rfl⟩ w h; exact h.subD)) rfl ?_ DAll.nil))
 ·rintro _ _ ⟨rfl, rfl⟩
  refine dq1 5 rfl (kc rfl (h := msg_Read _ _ _ _ (by assumption))) (.inr (by rintro _ _ ⟨_, ⟨qx, cx, rfl, rfl, hcx⟩, rfl⟩ w h; exact h.subD)) ?_
  rintro _ _ ⟨_, ⟨qx, cx, rfl, rfl, hcx⟩, rfl⟩
  refine dq1 6 rfl (lO sz_60_1 rfl rfl ⟨rfl, rfl, rfl⟩) (.inr (by rintro _ _ ⟨b8, rfl, rfl⟩ w h; exact h.subD)) ?_
  rintro _ _ ⟨b8, rfl, rfl⟩
  refine dq1 7 rfl (lX Kd.msg se_60 underlying60 ⟨_, ze_56, rfl⟩ tD rfl rfl tP isP tM rfl rfl (by first | omega | (simp; omega) | (simp; done))) (.inr (by rintro _ _ ⟨px, capx, rfl, rfl⟩ w h; exact h.subD)) ?_
  rintro _ _ ⟨px, capx, rfl, rfl⟩
  refine dq1N 8 rfl (lA ck_60 rfl rfl rfl tP tA) (.inl tK) ?_
  rintro _ _ ⟨rfl, rfl⟩
  refine D.done tK ?_
  refine K.fin (fn := Tryz.f202) func202 (fun a w hk hs => res0 results202) (fun w hs => ?_)
  exact ⟨_, Rms c0 c1 p (acc ++ [s.msg.1]) :: IR p rb wf qx cx s.msg.2, rfl, ⟨qx, cx, rfl, rfl, hcx⟩, St.fitE (px, capx) hs tG (by repeat (first | exact Drop.refl | apply Drop.skip))⟩
 ·rintro _ _ ⟨_, ⟨qx, cx, rfl, rfl, hcx⟩, rfl⟩
  refine D.all (rs := [0, 6]) tK rfl (DAll.cons rfl tK (OpQ.loud (qD ck_60 rfl)) (.inr (by rintro _ _ ⟨rfl, rfl⟩ w h; exact h.subD)) rfl ?_ (DAll.cons rfl tK (lO sz_60_1 rfl rfl ⟨rfl, rfl, rfl⟩) (.inr (by rintro _ _ ⟨b8, rfl, rfl⟩ w h; exact h.subD)) rfl ?_ DAll.nil))
  ·rintro _ _ ⟨rfl, rfl⟩
   refine dq1 6 rfl (lO sz_60_1 rfl rfl ⟨rfl, rfl, rfl⟩) (.inr (by rintro _ _ ⟨b8, rfl, rfl⟩ w h; exact h.subD)) ?_
   rintro _ _ ⟨b8, rfl, rfl⟩
   refine dq1 7 rfl (lX Kd.msg se_60 underlying60 ⟨_, ze_56, rfl⟩ tD rfl rfl tP isP tM rfl rfl (by first | omega | (simp; omega) | (simp; done))) (.inr (by rintro _ _ ⟨px, capx, rfl, rfl⟩ w h; exact h.subD)) ?_
   rintro _ _ ⟨px, capx, rfl, rfl⟩
   refine dq1N 8 rfl (lA ck_60 rfl rfl rfl tP tA) (.inl tK) ?_
   rintro _ _ ⟨rfl, rfl⟩
   refine D.done tK ?_
   refine K.fin (fn := Tryz.f202) func202 (fun a w hk hs => res0 results202) (fun w hs => ?_)
   exact ⟨_, Rms c0 c1 p (acc ++ [s.msg.1]) :: IR p rb wf qx cx s.msg.2, rfl, ⟨qx, cx, rfl, rfl, hcx⟩, St.fitE (px, capx) hs tG (by repeat (first | exact Drop.refl | apply Drop.skip))⟩
  ·rintro _ _ ⟨b8, rfl, rfl⟩
   refine dq1 0 rfl (OpQ.loud (qD ck_60 rfl)) (.inr (by rintro _ _ ⟨rfl, rfl⟩ w h; exact h.subD)) ?_
   rintro _ _ ⟨rfl, rfl⟩
   refine dq1 7 rfl (lX Kd.msg se_60 underlying60 ⟨_, ze_56, rfl⟩ tD rfl rfl tP isP tM rfl rfl (by first | omega | (simp; omega) | (simp; done))) (.inr (by rintro _ _ ⟨px, capx, rfl, rfl⟩ w h; exact h.subD)) ?_
   rintro _ _ ⟨px, capx, rfl, rfl⟩
   refine dq1N 8 rfl (lA ck_60 rfl rfl rfl tP tA) (.inl tK) ?_
   rintro _ _ ⟨rfl, rfl⟩
   refine D.done tK ?_
   refine K.fin (fn := Tryz.f202) func202 (fun a w hk hs => res0 results202) (fun w hs => ?_)
   exact ⟨_, Rms c0 c1 p (acc ++ [s.msg.1]) :: IR p rb wf qx cx s.msg.2, rfl, ⟨qx, cx, rfl, rfl, hcx⟩, St.fitE (px, capx) hs tG (by repeat (first | exact Drop.refl | apply Drop.skip))⟩
set_option maxHeartbeats 800000 in
theorem im_msgs (p rb : Nat) (q : Option Addr) (cap : Nat) (s : Rd) (wf : Bool) (hc : s.bs.length ≤ cap) (hN : s.bs.length ≤ 10000000000) : Fn Tryz.prog 165 [.pointer (some ⟨p, 0, none⟩)].toArray (IR p rb wf q cap s)
  (fun v post => ∃ mq mc q' cap', v = .slice mq (lsM msgM (s, wf)).1.length mc ∧ post = RowF Kd.msg mq (lsM msgM (s, wf)).1 :: IR p rb (lsM msgM (s, wf)).2.2 q' cap' (lsM msgM (s, wf)).2.1 ∧ (lsM msgM (s, wf)).2.1.bs.length ≤ cap' ∧ (lsM msgM (s, wf)).1.length ≤ mc) := by
 refine Fn.enter (N := 8) func165 rfl ntmps165 tK rfl (fun ρ L => ?_)
 refine ky<|kl (l_box rfl rfl) ?_
 rintro _ _ ⟨b1, rfl, rfl⟩
 refine ka rfl<|kz<|kl (lL zo_60) ?_
 rintro _ _ ⟨b3, rfl, rfl⟩
 refine kz<|kq (qD ck_169 rfl)<|kq (q_func rfl rfl)<|KO.st (fun w h => rowO_nil (k := Kd.msg) 56 h)<|KO.st (fun w h => St.exG (f := RmsF b3 b1 p []) (none, 0) tG h)<|kl (kc rfl (h := im_list (Rms b3 b1 p) msgM Msg.sm 10000000000 202 [.pointer (some ⟨b3, 0, none⟩), .pointer (some ⟨b1, 0, none⟩)] p rb prog_msg (fun s _ => msgM_sm s) (fun q cap s wf acc h1 h2 h3 => im_m1 b3 b1 p rb q cap s wf acc h1 h3.len) q cap s wf hc hN)) ?_
 rintro _ _ ⟨_, ⟨q1, c1, rfl, rfl, hc1⟩, rfl⟩
 refine KO.ex (fun w h => St.exP tP h) (fun z => ?_)
 obtain ⟨z1, z2⟩ := z
 dsimp only [List.cons_append, List.nil_append]
 refine zm ?_
 refine K.fact (rC tM) (fun hcap => ?_)
 refine K.st (fun w h => rO (h.pick tP))<|ky<|kq (qD ck_60 rfl)<|ka rfl<|zm ?_
 refine kr1 func165 results165 rfl (fun w hs => ?_)
 exact ⟨_, RowF Kd.msg z1 (lsM msgM (s, wf)).1 :: IR p rb (lsM msgM (s, wf)).2.2 q1 c1 (lsM msgM (s, wf)).2.1, rfl, ⟨z1, z2, q1, c1, rfl, rfl, hc1, hcap⟩, hs.fitD⟩
abbrev RobF (cA cB p : Nat) (nm : ByteArray) (k l : Int) (acc : List Rw) (z : Option Addr × Nat) : List HP := [pv cA 169 [.pointer (some ⟨p, 0, none⟩)], pv cB 62 [.string nm, .int .i64 k, .int .i64 l, .slice z.1 acc.length z.2, .slice none 0 0, .slice none 0 0], RowO Kd.rw 136 z.1 z.2 acc]
abbrev Rob (cA cB p : Nat) (nm : ByteArray) (k l : Int) (acc : List Rw) : HP := HP.ex (RobF cA cB p nm k l acc)
set_option maxHeartbeats 800000 in
theorem im_o1 (cA cB p rb : Nat) (nm : ByteArray) (k l : Int) (q : Option Addr) (cap : Nat) (s : Rd) (wf : Bool) (acc : List Rw) (hc : s.bs.length ≤ cap) (hl : acc.length ≤ 10000000001) : Fn Tryz.prog 164 [.pointer (some ⟨cA, 0, none⟩), .pointer (some ⟨cB, 0, none⟩)].toArray (Rob cA cB p nm k l acc :: IR p rb wf q cap s)
  (fun v post => ∃ q' cap', v = .tuple #[] ∧ post = Rob cA cB p nm k l (acc ++ [(rwM (s, wf)).1]) :: IR p rb (rwM (s, wf)).2.2 q' cap' (rwM (s, wf)).2.1 ∧ (rwM (s, wf)).2.1.bs.length ≤ cap') := by
 refine Fn.enter (N := 20) func164 rfl ntmps164 tK rfl (fun ρ L => ?_)
 refine K.ex (fun w h => St.exP tP h) (fun z => ?_)
 obtain ⟨z1, z2⟩ := z
 dsimp only [List.cons_append, List.nil_append]
 refine ky<|kq (qD ck_169 rfl)<|kq (qN rfl)<|kq (qO fo_173_0 rfl)<|kq (qD ck_170 rfl)<|kl (kc rfl (h := rd_Text _ _ _ _ (by assumption))) ?_
 rintro _ _ ⟨_, ⟨q1, c1, rfl, rfl, hc1⟩, rfl⟩
 refine ka rfl<|zm<|K.drawS [pv cA 169 [.pointer (some ⟨p, 0, none⟩)], pv p 173 [.pointer (some ⟨rb, 0, none⟩), .bool wf]] (fun _ h => h.subD) mixed<|dq 0 rfl (qO fo_62_3 rfl)<|dq 2 rfl (q_move rfl)<|dq 3 rfl (qD ck_169 rfl)<|dq 4 rfl (qN rfl)<|dq 5 rfl (qO fo_173_0 rfl)<|dq 6 rfl (qD ck_170 rfl) ?_
 refine D.all (rs := [1, 7]) tK rfl (DAll.cons rfl tK (OpQ.loud (qD ck_59 rfl)) (.inr (by rintro _ _ ⟨rfl, rfl⟩ w h; exact h.subD)) rfl ?_ (DAll.cons rfl tK (kc rfl (h := rd_Text _ _ _ _ (by assumption))) (.inr (by rintro _ _ ⟨_, ⟨qx, cx, rfl, rfl, hcx⟩, rfl⟩ w h; exact h.subD)) rfl ?_ DAll.nil))
 ·rintro _ _ ⟨rfl, rfl⟩
  refine dq1 7 rfl (kc rfl (h := rd_Text _ _ _ _ (by assumption))) (.inr (by rintro _ _ ⟨_, ⟨qx, cx, rfl, rfl, hcx⟩, rfl⟩ w h; exact h.subD)) ?_
  rintro _ _ ⟨_, ⟨qx, cx, rfl, rfl, hcx⟩, rfl⟩
  refine dq 8 rfl (q_as_rw (q_build st_136 rfl tF) (by rfl))<|dq1 9 rfl (lO sz_59_1 rfl rfl ⟨rfl, rfl, rfl⟩) (.inr (by rintro _ _ ⟨b17, rfl, rfl⟩ w h; exact h.subD)) ?_
  rintro _ _ ⟨b17, rfl, rfl⟩
  refine dq1 10 rfl (lX Kd.rw se_59 underlying59 ⟨_, ze_136, rfl⟩ tD rfl rfl tP isP tM rfl rfl (by first | omega | (simp; omega) | (simp; done))) (.inr (by rintro _ _ ⟨px, capx, rfl, rfl⟩ w h; exact h.subD)) ?_
  rintro _ _ ⟨px, capx, rfl, rfl⟩
  refine dq 11 rfl (qO fo_62_3 rfl)<|dq1N 12 rfl (lA ck_59 rfl rfl rfl tP tA) (.inl tK) ?_
  rintro _ _ ⟨rfl, rfl⟩
  refine D.done tK ?_
  refine K.fin (fn := Tryz.f164) func164 (fun a w hk hs => res0 results164) (fun w hs => ?_)
  exact ⟨_, Rob cA cB p nm k l (acc ++ [(rwM (s, wf)).1]) :: IR p rb wf qx cx s.text.2.text.2, rfl, ⟨qx, cx, rfl, rfl, hcx⟩, St.fitE (px, capx) hs tG (by repeat (first | exact Drop.refl | apply Drop.skip))⟩
 ·rintro _ _ ⟨_, ⟨qx, cx, rfl, rfl, hcx⟩, rfl⟩
  refine dq 8 rfl (q_as_rw (q_build st_136 rfl tF) (by rfl)) ?_
  refine D.all (rs := [1, 9]) tK rfl (DAll.cons rfl tK (OpQ.loud (qD ck_59 rfl)) (.inr (by rintro _ _ ⟨rfl, rfl⟩ w h; exact h.subD)) rfl ?_ (DAll.cons rfl tK (lO sz_59_1 rfl rfl ⟨rfl, rfl, rfl⟩) (.inr (by rintro _ _ ⟨b17, rfl, rfl⟩ w h; exact h.subD)) rfl ?_ DAll.nil))
  ·rintro _ _ ⟨rfl, rfl⟩
   refine dq1 9 rfl (lO sz_59_1 rfl rfl ⟨rfl, rfl, rfl⟩) (.inr (by rintro _ _ ⟨b17, rfl, rfl⟩ w h; exact h.subD)) ?_
   rintro _ _ ⟨b17, rfl, rfl⟩
   refine dq1 10 rfl (lX Kd.rw se_59 underlying59 ⟨_, ze_136, rfl⟩ tD rfl rfl tP isP tM rfl rfl (by first | omega | (simp; omega) | (simp; done))) (.inr (by rintro _ _ ⟨px, capx, rfl, rfl⟩ w h; exact h.subD)) ?_
   rintro _ _ ⟨px, capx, rfl, rfl⟩
   refine dq 11 rfl (qO fo_62_3 rfl)<|dq1N 12 rfl (lA ck_59 rfl rfl rfl tP tA) (.inl tK) ?_
   rintro _ _ ⟨rfl, rfl⟩
   refine D.done tK ?_
   refine K.fin (fn := Tryz.f164) func164 (fun a w hk hs => res0 results164) (fun w hs => ?_)
   exact ⟨_, Rob cA cB p nm k l (acc ++ [(rwM (s, wf)).1]) :: IR p rb wf qx cx s.text.2.text.2, rfl, ⟨qx, cx, rfl, rfl, hcx⟩, St.fitE (px, capx) hs tG (by repeat (first | exact Drop.refl | apply Drop.skip))⟩
  ·rintro _ _ ⟨b17, rfl, rfl⟩
   refine dq1 1 rfl (OpQ.loud (qD ck_59 rfl)) (.inr (by rintro _ _ ⟨rfl, rfl⟩ w h; exact h.subD)) ?_
   rintro _ _ ⟨rfl, rfl⟩
   refine dq1 10 rfl (lX Kd.rw se_59 underlying59 ⟨_, ze_136, rfl⟩ tD rfl rfl tP isP tM rfl rfl (by first | omega | (simp; omega) | (simp; done))) (.inr (by rintro _ _ ⟨px, capx, rfl, rfl⟩ w h; exact h.subD)) ?_
   rintro _ _ ⟨px, capx, rfl, rfl⟩
   refine dq 11 rfl (qO fo_62_3 rfl)<|dq1N 12 rfl (lA ck_59 rfl rfl rfl tP tA) (.inl tK) ?_
   rintro _ _ ⟨rfl, rfl⟩
   refine D.done tK ?_
   refine K.fin (fn := Tryz.f164) func164 (fun a w hk hs => res0 results164) (fun w hs => ?_)
   exact ⟨_, Rob cA cB p nm k l (acc ++ [(rwM (s, wf)).1]) :: IR p rb wf qx cx s.text.2.text.2, rfl, ⟨qx, cx, rfl, rfl, hcx⟩, St.fitE (px, capx) hs tG (by repeat (first | exact Drop.refl | apply Drop.skip))⟩
set_option maxHeartbeats 1600000 in
theorem im_object (p rb : Nat) (q : Option Addr) (cap : Nat) (s : Rd) (wf : Bool) (hc : s.bs.length ≤ cap) (hN : s.bs.length ≤ 10000000000) : Fn Tryz.prog 127 [.pointer (some ⟨p, 0, none⟩)].toArray (IR p rb wf q cap s)
  (fun v post => ∃ z q' cap', v = .agg (Oz.cells ⟨(objM (s, wf)).1, z⟩).toArray ∧ post = ObL ⟨(objM (s, wf)).1, z⟩ ++ IR p rb (objM (s, wf)).2.2 q' cap' (objM (s, wf)).2.1 ∧ (objM (s, wf)).2.1.bs.length ≤ cap' ∧ (objM (s, wf)).1.rows.length ≤ z.c1 ∧ (objM (s, wf)).1.msgs.length ≤ z.c2 ∧ (objM (s, wf)).1.dead.length ≤ z.c3) := by
 have l0 : s.text.2.int.2.int.2.bs.length ≤ 10000000000 := by
  have a := s.text_len
  have b := prog_int.1 (s.text.2, wf)
  have c := prog_int.1 (s.text.2.int.2, wf)
  exact Nat.le_trans c (Nat.le_trans b (Nat.le_trans a hN))
 have l1 := Nat.le_trans (Prog.ls prog_rw.1 (s.text.2.int.2.int.2, wf)) l0
 have l2 := Nat.le_trans (Prog.ls prog_msg.1 (lsM rwM (s.text.2.int.2.int.2, wf)).2) l1
 refine Fn.enter (N := 32) func127 rfl ntmps127 tK rfl (fun ρ L => ?_)
 refine ky<|kl (l_box rfl rfl) ?_
 rintro _ _ ⟨b1, rfl, rfl⟩
 refine kl (lL zo_62) ?_
 rintro _ _ ⟨b2, rfl, rfl⟩
 refine kz<|kq (qD ck_169 rfl)<|kq (qN rfl)<|kq (qO fo_173_0 rfl)<|kq (qD ck_170 rfl)<|kl (kc rfl (h := rd_Text _ _ _ _ (by assumption))) ?_
 rintro _ _ ⟨_, ⟨q1, c1, rfl, rfl, hc1⟩, rfl⟩
 refine kq (q_build st_62 rfl tF)<|kl (lL zo_62) ?_
 rintro _ _ ⟨b3, rfl, rfl⟩
 refine kN rfl (lS ck_62 rfl rfl ⟨rfl, rfl⟩ (by simp [Value.oneCell']) tP) ?_
 rintro _ _ ⟨rfl, rfl⟩
 refine kz<|kq (qD ck_169 rfl)<|kq (qN rfl)<|kq (qO fo_173_0 rfl)<|kq (qD ck_170 rfl)<|kl (kc rfl (h := rd_Int _ _ _ _ (by assumption))) ?_
 rintro _ _ ⟨_, ⟨q2, c2, rfl, rfl, hc2⟩, rfl⟩
 refine kq (qO fo_62_1 rfl)<|kN rfl (lA ck_3 rfl rfl rfl tP tA) ?_
 rintro _ _ ⟨rfl, rfl⟩
 refine kz<|kq (qD ck_169 rfl)<|kq (qN rfl)<|kq (qO fo_173_0 rfl)<|kq (qD ck_170 rfl)<|kl (kc rfl (h := rd_Int _ _ _ _ (by assumption))) ?_
 rintro _ _ ⟨_, ⟨q3, c3, rfl, rfl, hc3⟩, rfl⟩
 refine kq (qO fo_62_2 rfl)<|kN rfl (lA ck_3 rfl rfl rfl tP tA) ?_
 rintro _ _ ⟨rfl, rfl⟩
 refine kz<|kq (qD ck_169 rfl)<|kq (q_func rfl rfl)<|KO.st (fun w h => rowO_nil (k := Kd.rw) 136 h)<|KO.st (fun w h => St.exG (f := RobF b1 b3 p s.text.1 s.text.2.int.1 s.text.2.int.2.int.1 []) (none, 0) tG h)<|kl (kc rfl (h := im_list (Rob b1 b3 p s.text.1 s.text.2.int.1 s.text.2.int.2.int.1) rwM Rw.sm 10000000000 164 [.pointer (some ⟨b1, 0, none⟩), .pointer (some ⟨b3, 0, none⟩)] p rb prog_rw (fun s _ => rwM_sm s) (fun q cap s wf acc h1 h2 h3 => im_o1 b1 b3 p rb _ _ _ q cap s wf acc h1 h3.len) q3 c3 _ wf hc3 l0)) ?_
 rintro _ _ ⟨_, ⟨q4, c4, rfl, rfl, hc4⟩, rfl⟩
 refine KO.ex (fun w h => St.exP tP h) (fun z => ?_)
 obtain ⟨z1, z2⟩ := z
 dsimp only [List.cons_append, List.nil_append]
 refine zm ?_
 refine K.fact (rC tM) (fun hcap => ?_)
 refine K.st (fun w h => rO (h.pick tP))<|ky<|kq (qD ck_169 rfl)<|kl (kc rfl (h := im_msgs p rb _ _ _ _ hc4 l1)) ?_
 rintro _ _ ⟨_, ⟨m1, n1, q5, c5, rfl, rfl, hc5, hcap5⟩, rfl⟩
 refine kq (qO fo_62_4 rfl)<|kN rfl (lA ck_60 rfl rfl rfl tP tA) ?_
 rintro _ _ ⟨rfl, rfl⟩
 refine kz<|kq (qD ck_169 rfl)<|kl (kc rfl (h := im_msgs p rb _ _ _ _ hc5 l2)) ?_
 rintro _ _ ⟨_, ⟨m2, n2, q6, c6, rfl, rfl, hc6, hcap6⟩, rfl⟩
 refine kq (qO fo_62_5 rfl)<|kN rfl (lA ck_60 rfl rfl rfl tP tA) ?_
 rintro _ _ ⟨rfl, rfl⟩
 refine kz<|kq (q_as_oz (qL ck_62 rfl rfl tC) (by rfl))<|kN rfl (lS ck_62 rfl rfl ⟨rfl, rfl⟩ (oz_one _) tP) ?_
 rintro _ _ ⟨rfl, rfl⟩
 refine zm ?_
 refine K.ret (fn := Tryz.f127) func127 (fun a w hk hs => resC results127 hk rfl ck_62 rfl (cP tM w hs)) (fun w hs => ?_)
 exact ⟨_, ObL ⟨(objM (s, wf)).1, ⟨z1, z2, m1, n1, m2, n2⟩⟩ ++ IR p rb (objM (s, wf)).2.2 q6 c6 (objM (s, wf)).2.1, rfl, ⟨⟨z1, z2, m1, n1, m2, n2⟩, q6, c6, rfl, rfl, hc6, hcap, hcap5, hcap6⟩, hs.fitD⟩
end Go.Proofs.YtkbhldicnamcdaaGreat.L
namespace Go.Proofs.YtkbhldicnamcdaaGreat.L
open Go Go.Proofs
attribute [local irreducible] pv fv pt fz RowF RowO rowP old pure_ elA Rd.int Rd.text Rd.flag Rd.msg Rd.rint Rd.rtext Rd.rflag Rd.rmsg
attribute [local irreducible] Rd.eff lsM objM
def Oz.caps (o : Oz) : Prop := o.x.rows.length ≤ o.z.c1 ∧ o.x.msgs.length ≤ o.z.c2 ∧ o.x.dead.length ≤ o.z.c3
abbrev RstF (c5 c4 p : Nat) (next : Int) (acc : List Ob) (z : Option Addr × Nat × { l : List Oz // l.map (·.x) = acc ∧ ∀ o ∈ l, o.caps }) : List HP := [pv c5 47 [.int .i64 next, .slice z.1 z.2.2.1.length z.2.1], pv c4 169 [.pointer (some ⟨p, 0, none⟩)], RowO Kd.oz 62 z.1 z.2.1 z.2.2.1, NestF z.2.2.1]
abbrev Rst (c5 c4 p : Nat) (next : Int) (acc : List Ob) : HP := HP.ex (RstF c5 c4 p next acc)
set_option maxHeartbeats 800000 in
theorem im_r1 (cA cB p rb : Nat) (next : Int) (q : Option Addr) (cap : Nat) (s : Rd) (wf : Bool) (acc : List Ob) (hc : s.bs.length ≤ cap) (hl : acc.length ≤ 10000000001) (hN : s.bs.length ≤ 10000000000) : Fn Tryz.prog 126 [.pointer (some ⟨cA, 0, none⟩), .pointer (some ⟨cB, 0, none⟩)].toArray (Rst cA cB p next acc :: IR p rb wf q cap s)
  (fun v post => ∃ q' cap', v = .tuple #[] ∧ post = Rst cA cB p next (acc ++ [(objM (s, wf)).1]) :: IR p rb (objM (s, wf)).2.2 q' cap' (objM (s, wf)).2.1 ∧ (objM (s, wf)).2.1.bs.length ≤ cap') := by
 refine Fn.enter (N := 9) func126 rfl ntmps126 tK rfl (fun ρ L => ?_)
 refine K.ex (fun w h => St.exP tP h) (fun z => ?_)
 obtain ⟨z1, z2, l, hlm, hlc⟩ := z
 have hll : l.length ≤ 10000000001 := by rw [← hlm, List.length_map] at hl; exact hl
 dsimp only [List.cons_append, List.nil_append]
 refine K.drawS [pv cB 169 [.pointer (some ⟨p, 0, none⟩)]] (fun _ h => h.subD) mixed<|dq 0 rfl (qO fo_47_1 rfl)<|dq 2 rfl (qD ck_169 rfl) ?_
 refine D.all (rs := [1, 3]) tK rfl (DAll.cons rfl tK (OpQ.loud (qD ck_45 rfl)) (.inr (by rintro _ _ ⟨rfl, rfl⟩ w h; exact h.subD)) rfl ?_ (DAll.cons rfl tK (kc rfl (h := im_object _ _ _ _ _ _ hc hN)) (.inr (by rintro _ _ ⟨_, ⟨zo, qx, cx, rfl, rfl, hcx, h1x, h2x, h3x⟩, rfl⟩ w h; exact h.subD)) rfl ?_ DAll.nil))
 ·rintro _ _ ⟨rfl, rfl⟩
  refine dq1 3 rfl (kc rfl (h := im_object _ _ _ _ _ _ hc hN)) (.inl tK) ?_
  rintro _ _ ⟨_, ⟨zo, qx, cx, rfl, rfl, hcx, h1x, h2x, h3x⟩, rfl⟩
  refine dq1 4 rfl (lO sz_45_1 rfl rfl ⟨rfl, rfl, rfl⟩) (.inl tK) ?_
  rintro _ _ ⟨b6, rfl, rfl⟩
  refine dq1 5 rfl (lX Kd.oz se_45 underlying45 ⟨_, ze_62, rfl⟩ tD rfl rfl tP isP tM rfl rfl (by first | omega | (simp; omega) | (simp; done))) (.inl tK) ?_
  rintro _ _ ⟨px, capx, rfl, rfl⟩
  refine dq 6 rfl (qO fo_47_1 rfl)<|dq1N 7 rfl (lA ck_45 rfl rfl rfl tP tA) (.inl tK) ?_
  rintro _ _ ⟨rfl, rfl⟩
  refine D.done tK<|K.st (fun w h => nestF_snoc (l := l) ⟨(objM (s, wf)).1, zo⟩ tM tM tM tM h) ?_
  refine K.fin (fn := Tryz.f126) func126 (fun a w hk hs => res0 results126) (fun w hs => ?_)
  exact ⟨_, Rst cA cB p next (acc ++ [(objM (s, wf)).1]) :: IR p rb (objM (s, wf)).2.2 qx cx (objM (s, wf)).2.1, rfl, ⟨qx, cx, rfl, rfl, hcx⟩, St.fitE (px, capx, ⟨l ++ [⟨(objM (s, wf)).1, zo⟩], by rw [List.map_append, hlm]; rfl, fun o ho => by
   rcases List.mem_append.1 ho with h | h
   ·exact hlc o h
   ·rw [List.mem_singleton.1 h]; exact ⟨h1x, h2x, h3x⟩⟩) hs tG (by repeat (first | exact Drop.refl | apply Drop.skip))⟩
 ·rintro _ _ ⟨_, ⟨zo, qx, cx, rfl, rfl, hcx, h1x, h2x, h3x⟩, rfl⟩
  refine D.all (rs := [1, 4]) tK rfl (DAll.cons rfl tK (OpQ.loud (qD ck_45 rfl)) (.inl tK) rfl ?_ (DAll.cons rfl tK (lO sz_45_1 rfl rfl ⟨rfl, rfl, rfl⟩) (.inr (by rintro _ _ ⟨b6, rfl, rfl⟩ w h; exact h.subD)) rfl ?_ DAll.nil))
  ·rintro _ _ ⟨rfl, rfl⟩
   refine dq1 4 rfl (lO sz_45_1 rfl rfl ⟨rfl, rfl, rfl⟩) (.inl tK) ?_
   rintro _ _ ⟨b6, rfl, rfl⟩
   refine dq1 5 rfl (lX Kd.oz se_45 underlying45 ⟨_, ze_62, rfl⟩ tD rfl rfl tP isP tM rfl rfl (by first | omega | (simp; omega) | (simp; done))) (.inl tK) ?_
   rintro _ _ ⟨px, capx, rfl, rfl⟩
   refine dq 6 rfl (qO fo_47_1 rfl)<|dq1N 7 rfl (lA ck_45 rfl rfl rfl tP tA) (.inl tK) ?_
   rintro _ _ ⟨rfl, rfl⟩
   refine D.done tK<|K.st (fun w h => nestF_snoc (l := l) ⟨(objM (s, wf)).1, zo⟩ tM tM tM tM h) ?_
   refine K.fin (fn := Tryz.f126) func126 (fun a w hk hs => res0 results126) (fun w hs => ?_)
   exact ⟨_, Rst cA cB p next (acc ++ [(objM (s, wf)).1]) :: IR p rb (objM (s, wf)).2.2 qx cx (objM (s, wf)).2.1, rfl, ⟨qx, cx, rfl, rfl, hcx⟩, St.fitE (px, capx, ⟨l ++ [⟨(objM (s, wf)).1, zo⟩], by rw [List.map_append, hlm]; rfl, fun o ho => by
    rcases List.mem_append.1 ho with h | h
    ·exact hlc o h
    ·rw [List.mem_singleton.1 h]; exact ⟨h1x, h2x, h3x⟩⟩) hs tG (by repeat (first | exact Drop.refl | apply Drop.skip))⟩
  ·rintro _ _ ⟨b6, rfl, rfl⟩
   refine dq1 1 rfl (OpQ.loud (qD ck_45 rfl)) (.inl tK) ?_
   rintro _ _ ⟨rfl, rfl⟩
   refine dq1 5 rfl (lX Kd.oz se_45 underlying45 ⟨_, ze_62, rfl⟩ tD rfl rfl tP isP tM rfl rfl (by first | omega | (simp; omega) | (simp; done))) (.inl tK) ?_
   rintro _ _ ⟨px, capx, rfl, rfl⟩
   refine dq 6 rfl (qO fo_47_1 rfl)<|dq1N 7 rfl (lA ck_45 rfl rfl rfl tP tA) (.inl tK) ?_
   rintro _ _ ⟨rfl, rfl⟩
   refine D.done tK<|K.st (fun w h => nestF_snoc (l := l) ⟨(objM (s, wf)).1, zo⟩ tM tM tM tM h) ?_
   refine K.fin (fn := Tryz.f126) func126 (fun a w hk hs => res0 results126) (fun w hs => ?_)
   exact ⟨_, Rst cA cB p next (acc ++ [(objM (s, wf)).1]) :: IR p rb (objM (s, wf)).2.2 qx cx (objM (s, wf)).2.1, rfl, ⟨qx, cx, rfl, rfl, hcx⟩, St.fitE (px, capx, ⟨l ++ [⟨(objM (s, wf)).1, zo⟩], by rw [List.map_append, hlm]; rfl, fun o ho => by
    rcases List.mem_append.1 ho with h | h
    ·exact hlc o h
    ·rw [List.mem_singleton.1 h]; exact ⟨h1x, h2x, h3x⟩⟩) hs tG (by repeat (first | exact Drop.refl | apply Drop.skip))⟩
theorem sttM_eq (s : RdW) : sttM s = (⟨s.1.int.1, (lsM objM (s.1.int.2, s.2)).1⟩, (lsM objM (s.1.int.2, s.2)).2) := rfl
theorem objs_sm (s : RdW) (h : s.1.bs.length ≤ 10000000000) : (lsM objM s).1.length ≤ 10000000001 ∧ ∀ o ∈ (lsM objM s).1, o.sm ∧ o.rows.length ≤ 10000000001 ∧ o.msgs.length ≤ 10000000001 ∧ o.dead.length ≤ 10000000001 := by
 have g := Gs.ls (P := fun o : Ob => o.sm ∧ o.rows.length ≤ 10000000001 ∧ o.msgs.length ≤ 10000000001 ∧ o.dead.length ≤ 10000000001) (N := 10000000000) prog_obj (fun s h => objM_sm s h) s h
 exact ⟨g.len, g.2⟩
theorem sz0_ok : Sz.ok ⟨0, none, 0, []⟩ := ⟨⟨by decide, by decide⟩, Nat.zero_le _, Nat.le_refl _, fun o ho => by cases ho⟩
theorem sz0_few : Sz.few ⟨0, none, 0, []⟩ := fun o ho => by cases ho
theorem sz0_st : Sz.st ⟨0, none, 0, []⟩ = (none : Option Stt).getD ⟨0, []⟩ := rfl
set_option maxHeartbeats 1600000 in
theorem im_Read (q : Option Addr) (cap : Nat) (bs : List UInt8) (hb : bs.length ≤ 10000000000) : Fn Tryz.prog 67 [.slice q bs.length cap].toArray [RowF Kd.u8 q bs]
    (fun r post => ∃ sz : Sz, r = .tuple #[.agg sz.cells.toArray, .int .i64 (if (imgRead bs).isSome = true then 0 else 11)] ∧ post = StL sz ∧ sz.ok ∧ sz.few ∧ sz.st = (imgRead bs).getD ⟨0, []⟩) := by
  obtain ⟨n0, s0, ha⟩ : ∃ n0 s0, Rd.int ⟨bs, false⟩ = (n0, s0) := ⟨_, _, rfl⟩
  have hrng := Rd.int_rng ⟨bs, false⟩
  have hdn := prog_int.1 (⟨bs, false⟩, false)
  replace hdn : (Rd.int ⟨bs, false⟩).2.bs.length ≤ bs.length := hdn
  rw [ha] at hrng hdn
  dsimp only at hrng hdn
  have hobs := objs_sm (s0, false) (by show s0.bs.length ≤ _; omega)
  have hrd : imgRead bs = if (!(lsM objM (s0, false)).2.1.done || ((lsM objM (s0, false)).2.2 || !Stt.right ⟨n0, (lsM objM (s0, false)).1⟩)) = true then none else some ⟨n0, (lsM objM (s0, false)).1⟩ := by
    unfold imgRead
    simp only [sttM_eq, ha]
  refine Fn.enter (N := 38) func67 rfl ntmps67 tK rfl (fun ρ L => ?_)
  refine ky<|kl (lL zo_47) ?_
  rintro _ _ ⟨b2, rfl, rfl⟩
  refine ka rfl<|kz<|km rfl<|kl (kc rfl (h := rd_New _ _ _ tN)) ?_
  rintro _ _ ⟨_, ⟨p1, q1, c1, rfl, rfl, hc1⟩, rfl⟩
  refine kq (q_build st_173 rfl tF)<|kl (l_box rfl rfl) ?_
  rintro _ _ ⟨b9, rfl, rfl⟩
  refine kl (lL zo_169) ?_
  rintro _ _ ⟨b4, rfl, rfl⟩
  refine kN rfl (lA ck_169 rfl rfl rfl tP tA) ?_
  rintro _ _ ⟨rfl, rfl⟩
  refine kz<|kq (qD ck_169 rfl)<|kq (qN rfl)<|kq (qO fo_173_0 rfl)<|kq (qD ck_170 rfl)<|kl (kc rfl (h := rd_Int _ _ _ _ (by assumption))) ?_
  rintro _ _ ⟨_, ⟨q2, c2, rfl, rfl, hc2⟩, rfl⟩
  refine kq (q_build st_47 rfl tF)<|kl (lL zo_47) ?_
  rintro _ _ ⟨b5, rfl, rfl⟩
  refine kN rfl (lS ck_47 rfl rfl ⟨rfl, rfl⟩ (by simp [Value.oneCell']) tP) ?_
  rintro _ _ ⟨rfl, rfl⟩
  refine zm ?_
  simp only [ha] at hc2 ⊢
  refine ky<|kq (qD ck_169 rfl)<|kq (q_func rfl rfl)<|KO.st (fun w h => rowO_nil (k := Kd.oz) 62 h)<|KO.st (fun w h => nestF_nil h)<|KO.st (fun w h => St.exG (f := RstF b5 b4 b9 n0 []) (none, 0, ⟨[], rfl, fun o ho => by cases ho⟩) tG h)<|kl (kc rfl (h := im_list (Rst b5 b4 b9 n0) objM (fun o : Ob => o.sm ∧ o.rows.length ≤ 10000000001 ∧ o.msgs.length ≤ 10000000001 ∧ o.dead.length ≤ 10000000001) 10000000000 126 [.pointer (some ⟨b5, 0, none⟩), .pointer (some ⟨b4, 0, none⟩)] b9 p1 prog_obj (fun s h => objM_sm s h) (fun q cap s wf acc h1 h2 h3 => im_r1 b5 b4 b9 p1 n0 q cap s wf acc h1 h3.len (by have := h3.1; rw [if_neg (by show ¬ s.f = true; rw [h2]; simp)] at this; show s.bs.length ≤ _; have h4 : acc.length + s.bs.length ≤ 10000000000 := this; omega)) q2 c2 s0 false hc2 tO)) ?_
  rintro _ _ ⟨_, ⟨q3, c3, rfl, rfl, hc3⟩, rfl⟩
  refine KO.ex (fun w h => St.exP tP h) (fun z => ?_)
  obtain ⟨z1, z2, l, hlm, hlc⟩ := z
  dsimp only [List.cons_append, List.nil_append]
  refine zm ?_
  refine K.fact (rC tM) (fun hcap => ?_)
  refine K.st (fun w h => rO (h.pick tP)) ?_
  have hlen : l.length ≤ 10000000001 := by have := hobs.1; rw [← hlm, List.length_map] at this; exact this
  have hox : ∀ o ∈ l, o.x.sm ∧ o.x.rows.length ≤ 10000000001 ∧ o.x.msgs.length ≤ 10000000001 ∧ o.x.dead.length ≤ 10000000001 := fun o ho => hobs.2 o.x (by rw [← hlm]; exact List.mem_map.2 ⟨o, ho, rfl⟩)
  have hok : Sz.ok ⟨n0, z1, z2, l⟩ := ⟨hrng, by show l.length ≤ _; omega, hcap, fun o ho => ⟨(hox o ho).1, hlc o ho⟩⟩
  have hfew : Sz.few ⟨n0, z1, z2, l⟩ := fun o ho => by have := hox o ho; omega
  have hst : Sz.st ⟨n0, z1, z2, l⟩ = ⟨n0, (lsM objM (s0, false)).1⟩ := by rw [← hlm]; rfl
  rw [← hst] at hrd
  refine ke<|ky<|kq (qD ck_169 rfl)<|kq (qN rfl)<|kq (qO fo_173_0 rfl)<|kq (qD ck_170 rfl)<|kl (kc rfl (h := rd_Done _ _ _ _)) ?_
  rintro _ _ ⟨_, ⟨rfl, rfl⟩, rfl⟩
  refine kq (q_not rfl)<|km rfl ?_
  refine KO.split 25 rfl (fun g25 => ?_) (fun g25 => ?_)
  · refine zq<|zq<|zq<|zq<|kq (qT rfl rfl)<|km rfl<|zq<|zq<|zq<|kq (qT rfl rfl)<|zm<|K.yes rfl<|ke ?_
    have hr : imgRead bs = none := by rw [hrd, if_pos (by simp_all)]
    have hbad : True := trivial
    rw [hr]
    refine kr<|kq (q_build st_47 rfl tF)<|kN rfl (lS ck_47 rfl rfl ⟨rfl, rfl⟩ (by simp [Value.oneCell']) tP) ?_
    rintro _ _ ⟨rfl, rfl⟩
    refine ka rfl<|zm ?_
    refine K.ret (fn := Tryz.f67) func67 (fun a w hk hs => resCT results67 hk rfl ck_47 rfl (cP tM w hs) rfl) (fun w hs => ?_)
    first
      | (have hx := hbad
         exact ⟨_, StL ⟨0, none, 0, []⟩, rfl, ⟨⟨0, none, 0, []⟩, rfl, rfl, sz0_ok, sz0_few, sz0_st⟩, (rowF_nil (k := Kd.oz) none (nestF_nil hs)).fitD⟩)
      | exact ⟨_, StL ⟨n0, z1, z2, l⟩, rfl, ⟨⟨n0, z1, z2, l⟩, rfl, rfl, hok, hfew, rfl⟩, hs.fitD⟩
  · refine kq (qD ck_169 rfl)<|kq (qN rfl)<|kq (qO fo_173_1 rfl)<|kq (qD ck_4 rfl)<|kq (qF rfl rfl)<|km rfl ?_
    first | refine KO.dsplit 31 rfl (fun g31 => ?_) (fun g31 => ?_) | refine KO.split 31 rfl (fun g31 => ?_) (fun g31 => ?_)
    · refine zq<|zq<|zq<|kq (qT rfl rfl)<|zm<|K.yes rfl<|ke ?_
      have hr : imgRead bs = none := by rw [hrd, if_pos (by simp_all)]
      have hbad : True := trivial
      rw [hr]
      refine kr<|kq (q_build st_47 rfl tF)<|kN rfl (lS ck_47 rfl rfl ⟨rfl, rfl⟩ (by simp [Value.oneCell']) tP) ?_
      rintro _ _ ⟨rfl, rfl⟩
      refine ka rfl<|zm ?_
      refine K.ret (fn := Tryz.f67) func67 (fun a w hk hs => resCT results67 hk rfl ck_47 rfl (cP tM w hs) rfl) (fun w hs => ?_)
      first
        | (have hx := hbad
           exact ⟨_, StL ⟨0, none, 0, []⟩, rfl, ⟨⟨0, none, 0, []⟩, rfl, rfl, sz0_ok, sz0_few, sz0_st⟩, (rowF_nil (k := Kd.oz) none (nestF_nil hs)).fitD⟩)
        | exact ⟨_, StL ⟨n0, z1, z2, l⟩, rfl, ⟨⟨n0, z1, z2, l⟩, rfl, rfl, hok, hfew, rfl⟩, hs.fitD⟩
    · refine kq (q_as_sz (next_ := n0) (q_ := z1) (c_ := z2) (l_ := l) (qL ck_47 rfl rfl tC) rfl)<|kl (kc rfl (h := st_Right ⟨n0, z1, z2, l⟩ hok hfew)) ?_
      rintro _ _ ⟨_, ⟨rfl, rfl⟩, rfl⟩
      refine kq (q_not rfl)<|kq (qF rfl rfl)<|zm ?_
      refine kT (s := 35) rfl (fun g35 => ?_) (fun g35 => ?_)
      · refine ke ?_
        have hr : imgRead bs = none := by rw [hrd, if_pos (by simp_all)]
        have hbad : True := trivial
        rw [hr]
        refine kr<|kq (q_build st_47 rfl tF)<|kN rfl (lS ck_47 rfl rfl ⟨rfl, rfl⟩ (by simp [Value.oneCell']) tP) ?_
        rintro _ _ ⟨rfl, rfl⟩
        refine ka rfl<|zm ?_
        refine K.ret (fn := Tryz.f67) func67 (fun a w hk hs => resCT results67 hk rfl ck_47 rfl (cP tM w hs) rfl) (fun w hs => ?_)
        first
          | (have hx := hbad
             exact ⟨_, StL ⟨0, none, 0, []⟩, rfl, ⟨⟨0, none, 0, []⟩, rfl, rfl, sz0_ok, sz0_few, sz0_st⟩, (rowF_nil (k := Kd.oz) none (nestF_nil hs)).fitD⟩)
          | exact ⟨_, StL ⟨n0, z1, z2, l⟩, rfl, ⟨⟨n0, z1, z2, l⟩, rfl, rfl, hok, hfew, rfl⟩, hs.fitD⟩
      · refine za<|ke ?_
        have hr : imgRead bs = some (Sz.st ⟨n0, z1, z2, l⟩) := by rw [hrd, if_neg (by simp_all)]
        rw [hr]
        refine kr<|kq (q_as_sz (next_ := n0) (q_ := z1) (c_ := z2) (l_ := l) (qL ck_47 rfl rfl tC) rfl)<|kN rfl (lS ck_47 rfl rfl ⟨rfl, rfl⟩ (sz_one _) tP) ?_
        rintro _ _ ⟨rfl, rfl⟩
        refine ka rfl<|zm ?_
        refine K.ret (fn := Tryz.f67) func67 (fun a w hk hs => resCT results67 hk rfl ck_47 rfl (cP tM w hs) rfl) (fun w hs => ?_)
        first
          | (have hx := hbad
             exact ⟨_, StL ⟨0, none, 0, []⟩, rfl, ⟨⟨0, none, 0, []⟩, rfl, rfl, sz0_ok, sz0_few, sz0_st⟩, (rowF_nil (k := Kd.oz) none (nestF_nil hs)).fitD⟩)
          | exact ⟨_, StL ⟨n0, z1, z2, l⟩, rfl, ⟨⟨n0, z1, z2, l⟩, rfl, rfl, hok, hfew, rfl⟩, hs.fitD⟩
end Go.Proofs.YtkbhldicnamcdaaGreat.L
namespace Go.Proofs.YtkbhldicnamcdaaGreat.L
open Go Go.Proofs
attribute [local irreducible] pv fv pt fz RowF RowO rowP old pure_ elA Rd.int Rd.text Rd.flag Rd.msg Rd.rint Rd.rtext Rd.rflag Rd.rmsg
theorem size_take (s : Sz) (i : Nat) : 16 + ((s.l.take i).map (fun o => o.x.size)).sum ≤ s.st.size := by
 have h := sum_take_le (f := fun o : Oz => o.x.size) s.l i
 have e : s.st.size = 16 + (s.l.map (fun o => o.x.size)).sum := by unfold Stt.size Sz.st; rw [List.map_map]; rfl
 rw [e]; omega
set_option maxHeartbeats 3200000 in
theorem st_Size (s : Sz) (hok : s.ok) (hfew : s.few) (hz : s.st.size ≤ 1000000000000) : Fn Tryz.prog 54 [.agg s.cells.toArray].toArray (StL s) (fun r post => r = .int .i64 (s.st.size : Nat) ∧ post = []) := by
 have hst := size_take s
 obtain ⟨hn0, hl, hlc, hall⟩ := hok
 refine Fn.enter (N := 65) func54 rfl ntmps54 tK rfl (fun ρ L => ?_)
 refine ky<|kl (l_box rfl rfl) ?_
 rintro _ _ ⟨b1, rfl, rfl⟩
 refine ka rfl<|kz<|ka rfl<|zm<|ke<|ky<|kq (qO fo_47_1 rfl)<|kq (qD ck_45 rfl)<|kq (qG underlying45 rfl)<|km rfl<|zm<|kB ?_
 refine kX (ι := { x : Nat // x ≤ s.l.length }) (fun x => [(13, .int .i64 x.1), (12, .int .i64 s.l.length), (11, .slice s.q s.l.length s.c), (3, .int .i64 ((16 + ((s.l.take x.1).map (fun o => o.x.size)).sum : Nat) : Int))]) (fun x => [RowF Kd.oz s.q s.l, NestF s.l] ++ L) (fun x => s.l.length - x.1) ⟨0, Nat.zero_le _⟩ tS (fun w h => h.fitD) (fun x ih => ?_)
 obtain ⟨i, hi⟩ := x
 dsimp only at hi ⊢
 refine ky<|kq (q_lt rfl rfl)<|zm<|ke ?_
 refine kD (s := 14) rfl (fun g14 => ?_) (fun g14 => ?_)
 ·obtain ⟨o, ho⟩ : ∃ e, s.l[i]? = some e := ⟨_, List.getElem?_eq_getElem tO⟩
  have hmo := List.mem_of_getElem? ho
  have h1 := hst (i + 1)
  have h5 := sum_succ (f := fun o : Oz => o.x.size) ho
  have hfo := hfew o hmo
  generalize hP : 16 + ((s.l.take i).map (fun o => o.x.size)).sum = P
  have hos : o.x.size = 50 + o.x.name.size + (o.x.rows.map Rw.size).sum + (o.x.msgs.map Msg.wt).sum + (o.x.dead.map Msg.wt).sum := rfl
  have hPs : P + o.x.size ≤ 1000000000000 := by omega
  refine K.st (fun w h => nA (l := s.l) tM hmo h) ?_
  obtain ⟨⟨_, _, _, _, _, _, hr1, hr2, hr3⟩, _⟩ := hall o hmo
  refine za<|ke<|kB<|ke<|kr ?_
  first | refine kq (q_ix _ se_45 rfl rfl rfl isF tM rfl tL) ?_ | refine kq (q_ix _ se_45 rfl rfl rfl isO tM rfl tL) ?_
  first | refine kq (q_ldEN ck_62 rfl isF tM tE) ?_ | refine kq (q_ldEN ck_62 rfl isO tM tE) ?_
  refine kl (lL zo_62) ?_
  rintro _ _ ⟨b5, rfl, rfl⟩
  refine kN rfl (lS ck_62 rfl rfl ⟨rfl, rfl⟩ (oz_one _) tP) ?_
  rintro _ _ ⟨rfl, rfl⟩
  refine kz<|km rfl<|kq (qO fo_62_0 rfl)<|kq (qD ck_9 rfl)<|kq (q_lenS underlying9 rfl)<|kq (q_add rfl rfl tN tN)<|kq (q_add rfl rfl tN tN)<|ka rfl<|zm<|ke<|ky<|kq (qO fo_62_3 rfl)<|kq (qD ck_59 rfl)<|kq (qG underlying59 rfl)<|km rfl<|zm<|kB ?_
  refine kX (ι := { x : Nat // x ≤ o.x.rows.length }) (fun x => [(26, .int .i64 x.1), (25, .int .i64 o.x.rows.length), (24, .slice o.z.q1 o.x.rows.length o.z.c1), (3, .int .i64 ((P + 50 + o.x.name.size + ((o.x.rows.take x.1).map Rw.size).sum : Nat) : Int)), (13, .int .i64 i), (12, .int .i64 s.l.length), (11, .slice s.q s.l.length s.c), (5, .pointer (some ⟨b5, 0, none⟩))]) (fun x => pv b5 62 o.cells :: ObL o ++ [RowF Kd.oz s.q s.l, NestF s.l] ++ L) (fun x => o.x.rows.length - x.1) ⟨0, Nat.zero_le _⟩ (eC rfl (eC rfl (eC rfl (eC (by refine congrArg (fun z => some (Value.int .i64 z)) ?_; simp; omega) (eC rfl (eC rfl (eC rfl (eC rfl (Env.sub_nil _))))))))) (fun w h => h.fitD) (fun x ih2 => ?_)
  obtain ⟨k, hk⟩ := x
  have hle := sum_take_le (f := Rw.size) o.x.rows k
  dsimp only at hk ⊢
  refine ky<|kq (q_lt rfl rfl)<|zm<|ke ?_
  refine kD (s := 27) rfl (fun g27 => ?_) (fun g27 => ?_)
  ·obtain ⟨r, hr⟩ : ∃ e, o.x.rows[k]? = some e := ⟨_, List.getElem?_eq_getElem tO⟩
   have hss := sum_succ (f := Rw.size) hr
   have hle2 := sum_take_le (f := Rw.size) o.x.rows (k + 1)
   rw [show Rw.size r = 20 + r.key.size + r.value.size from rfl] at hss
   refine za<|ke<|kB<|ke<|kr ?_
   first | refine kq (q_ix _ se_59 rfl rfl rfl isF tM rfl tL) ?_ | refine kq (q_ix _ se_59 rfl rfl rfl isO tM rfl tL) ?_
   first | refine kq (q_ldEN ck_136 rfl isF tM tE) ?_ | refine kq (q_ldEN ck_136 rfl isO tM tE) ?_
   refine kl (lL zo_136) ?_
   rintro _ _ ⟨b7, rfl, rfl⟩
   refine kN rfl (lS ck_136 rfl rfl ⟨rfl, rfl⟩ (rw_one _) tP) ?_
   rintro _ _ ⟨rfl, rfl⟩
   refine zm<|kr<|km rfl<|kq (qO fo_136_0 rfl)<|kq (qD ck_9 rfl)<|kq (q_lenS underlying9 rfl)<|kq (q_add rfl rfl tN tN)<|kq (qO fo_136_1 rfl)<|kq (qD ck_9 rfl)<|kq (q_lenS underlying9 rfl)<|kq (q_add rfl rfl tN tN)<|kq (q_add rfl rfl tN tN)<|ka rfl<|zm<|zd<|kr<|kq (q_add rfl rfl tN tN)<|km rfl<|zm ?_
   refine K.weak (eC rfl (eC rfl (eC rfl (eC ?_ (eC rfl (eC rfl (eC rfl (eC rfl (Env.sub_nil _))))))))) (fun w h => h.fitD) (ih2 ⟨k + 1, by omega⟩ (by show o.x.rows.length - (k + 1) < o.x.rows.length - k; omega))
   show _ = some (Value.int .i64 ((P + 50 + o.x.name.size + ((o.x.rows.take (k + 1)).map Rw.size).sum : Nat) : Int))
   refine congrArg (fun z => some (Value.int .i64 z)) ?_
   omega
  ·obtain rfl : k = o.x.rows.length := by omega
   rw [List.take_length]
   refine K.exit rfl<|ky<|kq (qO fo_62_4 rfl)<|kq (qD ck_60 rfl)<|kq (qO fo_62_5 rfl)<|kq (qD ck_60 rfl)<|kl (l_slice sz_188_2 rfl tF) ?_
   rintro _ _ ⟨b45, rfl, rfl⟩
   refine KO.st (fun w h => pv_flat (n := 1) (enc := Sl.cells) (hl := fun _ => rfl) (h1 := fun _ v h => by simp [Sl.cells] at h; subst h; rfl) [⟨o.z.q2, o.z.c2, o.x.msgs⟩, ⟨o.z.q3, o.z.c3, o.x.dead⟩] rfl h)<|KO.st (fun w h => nestSl_nil (k := Kd.msg) h)<|KO.st (fun w h => nestSl_cons (k := Kd.msg) (l := []) ⟨o.z.q3, o.z.c3, o.x.dead⟩ tM tM h)<|KO.st (fun w h => nestSl_cons (k := Kd.msg) (l := [⟨o.z.q3, o.z.c3, o.x.dead⟩]) ⟨o.z.q2, o.z.c2, o.x.msgs⟩ tM tM h)<|kl (OpL.callE rfl (cc_msg (some ⟨b45, 0, none⟩) 2 [⟨o.z.q2, o.z.c2, o.x.msgs⟩, ⟨o.z.q3, o.z.c3, o.x.dead⟩] (by simp) (by simp; omega))) ?_
   rintro _ _ ⟨_, ⟨q9, c9, rfl, rfl⟩, rfl⟩
   rw [show [(⟨o.z.q2, o.z.c2, o.x.msgs⟩ : Sl Msg), ⟨o.z.q3, o.z.c3, o.x.dead⟩].flatMap (·.l) = o.x.msgs ++ o.x.dead by simp]
   have hcl : (o.x.msgs ++ o.x.dead).length ≤ 1099511627776 := by rw [List.length_append]; exact hfo
   have hms : ((o.x.msgs ++ o.x.dead).map Msg.wt).sum = (o.x.msgs.map Msg.wt).sum + (o.x.dead.map Msg.wt).sum := by rw [List.map_append, List.sum_append]
   refine kq (qG underlying60 rfl)<|km rfl<|zm<|kB ?_
   refine kX (ι := { x : Nat // x ≤ (o.x.msgs ++ o.x.dead).length }) (fun x => [(48, .int .i64 x.1), (47, .int .i64 (o.x.msgs ++ o.x.dead).length), (46, .slice q9 (o.x.msgs ++ o.x.dead).length c9), (3, .int .i64 ((P + 50 + o.x.name.size + (o.x.rows.map Rw.size).sum + (((o.x.msgs ++ o.x.dead).take x.1).map Msg.wt).sum : Nat) : Int)), (13, .int .i64 i), (12, .int .i64 s.l.length), (11, .slice s.q s.l.length s.c)]) (fun x => [RowF Kd.msg q9 (o.x.msgs ++ o.x.dead), RowF Kd.oz s.q s.l, NestF s.l] ++ L) (fun x => (o.x.msgs ++ o.x.dead).length - x.1) ⟨0, Nat.zero_le _⟩ (eC rfl (eC rfl (eC rfl (eC (by refine congrArg (fun z => some (Value.int .i64 z)) ?_; simp) (eC rfl (eC rfl (eC rfl (Env.sub_nil _)))))))) (fun w h => h.fitD) (fun x ih3 => ?_)
   obtain ⟨k2, hk2⟩ := x
   have hle3 := sum_take_le (f := Msg.wt) (o.x.msgs ++ o.x.dead) k2
   dsimp only at hk2 ⊢
   refine ky<|kq (q_lt rfl rfl)<|zm<|ke ?_
   refine kD (s := 49) rfl (fun g49 => ?_) (fun g49 => ?_)
   ·obtain ⟨m, hm⟩ : ∃ e, (o.x.msgs ++ o.x.dead)[k2]? = some e := ⟨_, List.getElem?_eq_getElem tO⟩
    have hss := sum_succ (f := Msg.wt) hm
    have hle2 := sum_take_le (f := Msg.wt) (o.x.msgs ++ o.x.dead) (k2 + 1)
    rw [show Msg.wt m = 60 + m.corr.size + m.body.size from rfl] at hss
    refine za<|ke<|kB<|ke<|kr ?_
    first | refine kq (q_ix _ se_60 rfl rfl rfl isF tM rfl tL) ?_ | refine kq (q_ix _ se_60 rfl rfl rfl isO tM rfl tL) ?_
    first | refine kq (q_ldEN ck_56 rfl isF tM tE) ?_ | refine kq (q_ldEN ck_56 rfl isO tM tE) ?_
    refine kl (lL zo_56) ?_
    rintro _ _ ⟨b9, rfl, rfl⟩
    refine kN rfl (lS ck_56 rfl rfl ⟨rfl, rfl⟩ (msg_one _) tP) ?_
    rintro _ _ ⟨rfl, rfl⟩
    refine zm<|kr<|km rfl<|kq (qO fo_56_4 rfl)<|kq (qD ck_9 rfl)<|kq (q_lenS underlying9 rfl)<|kq (q_add rfl rfl tN tN)<|kq (qO fo_56_5 rfl)<|kq (qD ck_9 rfl)<|kq (q_lenS underlying9 rfl)<|kq (q_add rfl rfl tN tN)<|kq (q_add rfl rfl tN tN)<|ka rfl<|zm<|zd<|kr<|kq (q_add rfl rfl tN tN)<|km rfl<|zm ?_
    refine K.weak (eC rfl (eC rfl (eC rfl (eC ?_ (eC rfl (eC rfl (eC rfl (Env.sub_nil _)))))))) (fun w h => h.fitD) (ih3 ⟨k2 + 1, by omega⟩ (by show (o.x.msgs ++ o.x.dead).length - (k2 + 1) < (o.x.msgs ++ o.x.dead).length - k2; omega))
    show _ = some (Value.int .i64 ((P + 50 + o.x.name.size + (o.x.rows.map Rw.size).sum + (((o.x.msgs ++ o.x.dead).take (k2 + 1)).map Msg.wt).sum : Nat) : Int))
    refine congrArg (fun z => some (Value.int .i64 z)) ?_
    omega
   ·obtain rfl : k2 = (o.x.msgs ++ o.x.dead).length := by omega
    rw [List.take_length, hms]
    refine K.exit rfl<|zd<|kr<|kq (q_add rfl rfl tN tN)<|km rfl<|zm ?_
    refine K.weak (eC rfl (eC rfl (eC rfl (eC ?_ (Env.sub_nil _))))) (fun w h => h.fitD) (ih ⟨i + 1, by omega⟩ (by show s.l.length - (i + 1) < s.l.length - i; omega))
    show _ = some (Value.int .i64 ((16 + ((s.l.take (i + 1)).map (fun o => o.x.size)).sum : Nat) : Int))
    refine congrArg (fun z => some (Value.int .i64 z)) ?_
    omega
 ·obtain rfl : i = s.l.length := by omega
  have hfin : 16 + ((s.l.take s.l.length).map (fun o => o.x.size)).sum = s.st.size := by
   rw [List.take_length]
   unfold Stt.size Sz.st
   rw [List.map_map]; rfl
  rw [hfin]
  refine K.exit rfl<|ky<|km rfl<|ka rfl<|zm ?_
  refine kr1 func54 results54 rfl (fun w hs => ?_)
  exact ⟨_, [], rfl, ⟨rfl, rfl⟩, hs.fitD⟩
end Go.Proofs.YtkbhldicnamcdaaGreat.L
namespace Go.Proofs.YtkbhldicnamcdaaGreat.L
open Go Go.Proofs
attribute [local irreducible] pv fv pt fz RowF RowO rowP old pure_ elA Rd.int Rd.text Rd.flag Rd.msg Rd.rint Rd.rtext Rd.rflag Rd.rmsg
attribute [local irreducible] DkX
abbrev ksC (vl : Value) (p : Nat) (s : Sz) (epoch : Int) (dead : Bool) : List Value := [vl, .pointer (some ⟨p, 0, none⟩), .int .i64 s.next, .slice s.q s.l.length s.c, .int .i64 epoch, .bool dead]
structure KsI (k : Ks) where
 l : Nat
 zl : LgI k.lg
 sz : Sz
 hs : sz.st = k.st
 room : sz.l.length ≤ sz.c
 cap : ∀ o ∈ sz.l, o.cap
abbrev KsF (s p : Nat) (k : Ks) (z : KsI k) : List HP := pv s 97 (ksC (.pointer (some ⟨z.l, 0, none⟩)) p z.sz k.epoch k.dead) :: LgF z.l p k.lg z.zl ++ StL z.sz
def KsX (s p : Nat) (k : Ks) : HP := HP.ex (KsF s p k)
theorem KsI.good {k : Ks} (z : KsI k) (h : KsOk k) : z.sz.good 30000 := ⟨by rw [z.hs]; exact st_small h.right h.cnt tD, z.room, z.cap⟩
theorem KsI.ok {k : Ks} (z : KsI k) (h : KsOk k) : z.sz.ok := Sz.ok_of (z.good h).sm z.room z.cap
theorem KsI.cnt {k : Ks} (z : KsI k) (h : KsOk k) : z.sz.cnt z.sz.l.length ≤ 40000 := by rw [Sz.cnt_st, z.hs]; have := h.cnt; omega
theorem ks_begin (s p : Nat) (d : Dk) (vl : Value) (sz : Sz) (e : Int) (dead : Bool) (hw : d.wf) (h354 : 354 ≤ d.len) : Fn Tryz.prog 68 [.pointer (some ⟨s, 0, none⟩)].toArray [pv s 97 (ksC vl p sz e dead), DkX p d]
  (fun r post => ∃ l, ∃ z : LgI (kBegin d e), r = .tuple #[] ∧ post = pv s 97 (ksC (.pointer (some ⟨l, 0, none⟩)) p sz e dead) :: LgF l p (kBegin d e) z ++ [DkX p d]) := by
 refine Fn.enter (N := 15) func68 rfl ntmps68 tK rfl (fun ρ L => ?_)
 refine K.drawS [pv s 97 (ksC vl p sz e dead)] (fun _ h => h.subD) mixed<|dq 0 rfl (q_move rfl)<|dq 1 rfl (q_move rfl)<|dq 2 rfl (qN rfl)<|dq 3 rfl (qO fo_97_1 rfl)<|dq 4 rfl (qD ck_25 rfl)<|dq 6 rfl (q_move rfl)<|dq 7 rfl (qN rfl)<|dq 8 rfl (qO fo_97_3 rfl)<|dq 9 rfl (qD ck_3 rfl)<|dq1 5 rfl (kc rfl (h := rt_Need)) (.inr (by rintro _ _ ⟨_, ⟨rfl, rfl⟩, rfl⟩ w h; exact h.subD)) ?_
 rintro _ _ ⟨_, ⟨rfl, rfl⟩, rfl⟩
 refine dq1 10 rfl (kc rfl (h := lg_Open p d 194 160 e hw tD tD tO)) (.inr (by rintro _ _ ⟨_, ⟨l, z, rfl, rfl⟩, rfl⟩ w h; exact h.subD)) ?_
 rintro _ _ ⟨_, ⟨l, z, rfl, rfl⟩, rfl⟩
 refine dq1 11 rfl (OpQ.loud (qN rfl)) (.inl tK) ?_
 rintro _ _ ⟨rfl, rfl⟩
 refine dq1 12 rfl (OpQ.loud (qO fo_97_0 rfl)) (.inl tK) ?_
 rintro _ _ ⟨rfl, rfl⟩
 refine dq1N 13 rfl (lA ck_95 rfl rfl rfl tP tA) (.inl tK) ?_
 rintro _ _ ⟨rfl, rfl⟩
 refine D.done tK ?_
 refine K.fin (fn := Tryz.f68) func68 (fun a w hk hs => res0 results68) (fun w hs => ?_)
 exact ⟨_, pv s 97 (ksC (.pointer (some ⟨l, 0, none⟩)) p sz e dead) :: LgF l p (kBegin d e) z ++ [DkX p d], rfl, ⟨l, z, rfl, rfl⟩, hs.fitD⟩
set_option maxHeartbeats 1600000 in
theorem ks_renew (s p : Nat) (d : Dk) (k : Ks) (z : KsI k) (hk : KsOk k) (hw : d.wf) (h354 : 354 ≤ d.len) (hc : d.cnt ≤ 80000000) : Fn Tryz.prog 45 [.pointer (some ⟨s, 0, none⟩)].toArray (KsF s p k z ++ [DkX p d])
  (fun r post => ∃ z' : KsI (kRenew k d).2.1, r = .int .i64 (kRenew k d).1 ∧ post = KsF s p (kRenew k d).2.1 z' ++ [DkX p (kRenew k d).2.2]) := by
 have hok := z.ok hk
 have hcn := z.cnt hk
 have hzs := z.hs
 have hw2 := rtWrite_wf (i64 (k.epoch + 1)) (imgBytes k.st) hw
 have hl2 := rtWrite_len (i64 (k.epoch + 1)) (imgBytes k.st) d
 refine Fn.enter (N := 28) func45 rfl ntmps45 tK rfl (fun ρ L => ?_)
 refine ky<|ka rfl<|zm<|ke<|ke<|K.drawS [pv s 97 (ksC (.pointer (some ⟨z.l, 0, none⟩)) p z.sz k.epoch k.dead)] (fun _ h => h.subD) mixed<|dq 0 rfl (q_move rfl)<|dq 1 rfl (qN rfl)<|dq 2 rfl (qO fo_97_1 rfl)<|dq 3 rfl (qD ck_25 rfl)<|dq 4 rfl (q_move rfl)<|dq 5 rfl (qN rfl)<|dq 6 rfl (qO fo_97_3 rfl)<|dq 7 rfl (qD ck_3 rfl)<|dq 8 rfl (q_is (q_addw rfl rfl) (congrArg (Value.int .i64) (wrap_i64_i64 (k.epoch + 1))))<|dq 9 rfl (q_move rfl)<|dq 10 rfl (qN rfl)<|dq 11 rfl (qO fo_97_2 rfl)<|dq 12 rfl (q_as_sz (l_ := z.sz.l) (qL ck_47 rfl rfl (cells_pvAt tM rfl)) rfl)<|dq1 13 rfl (kc rfl (h := im_Bytes z.sz hok hcn)) (.inr (by rintro _ _ ⟨_, ⟨qb, cb, rfl, rfl, hcb⟩, rfl⟩ w h; exact h.subD)) ?_
 rintro _ _ ⟨_, ⟨qb, cb, rfl, rfl, hcb⟩, rfl⟩
 rw [hzs] at hcb ⊢
 refine dq1 14 rfl (kc rfl (h := rt_Write (RowF Kd.u8 qb (imgBytes k.st)) p d (i64 (k.epoch + 1)) qb cb (imgBytes k.st) isF hw hc)) (.inr (by rintro _ _ ⟨_, ⟨rfl, rfl⟩, rfl⟩ w h; exact h.subD)) ?_
 rintro _ _ ⟨_, ⟨rfl, rfl⟩, rfl⟩
 refine dq 15 rfl (q_ne rfl rfl)<|D.done tK ?_
 refine kD (s := 18) rfl (fun g18 => ?_) (fun g18 => ?_)
 ·have hr : kRenew k d = (12, k, (rtWrite (i64 (k.epoch + 1)) (imgBytes k.st) d).2) := by unfold kRenew; dsimp only; rw [if_neg g18]
  refine ky<|ka rfl<|zm ?_
  refine kr1 func45 results45 rfl (fun w hs => ?_)
  rw [hr]
  exact ⟨_, KsF s p k z ++ [DkX p (rtWrite (i64 (k.epoch + 1)) (imgBytes k.st) d).2], rfl, ⟨z, rfl, rfl⟩, hs.fitD⟩
 ·obtain ⟨d2, hd2⟩ : ∃ d2, d2 = (rtWrite (i64 (k.epoch + 1)) (imgBytes k.st) d).2 := ⟨_, rfl⟩
  have hr : kRenew k d = (0, { k with epoch := i64 (k.epoch + 1), lg := kBegin d2 (i64 (k.epoch + 1)) }, d2) := by unfold kRenew; dsimp only; rw [if_pos (Decidable.not_not.1 g18), hd2]
  rw [← hd2] at hw2 hl2 ⊢
  refine za<|ky<|km rfl<|kq (qN rfl)<|kq (qO fo_97_3 rfl)<|kq (qD ck_3 rfl)<|kq (q_is (q_addw rfl rfl) (congrArg (Value.int .i64) (wrap_i64_i64 (k.epoch + 1))))<|kq (qN rfl)<|kq (qO fo_97_3 rfl)<|kN rfl (lA ck_3 rfl rfl rfl tP tA) ?_
  rintro _ _ ⟨rfl, rfl⟩
  refine kz<|km rfl<|kl (kc rfl (h := ks_begin s p d2 (.pointer (some ⟨z.l, 0, none⟩)) z.sz (i64 (k.epoch + 1)) k.dead hw2 tO)) ?_
  rintro _ _ ⟨_, ⟨l2, z2, rfl, rfl⟩, rfl⟩
  refine kz<|ka rfl<|zm ?_
  refine kr1 func45 results45 rfl (fun w hs => ?_)
  rw [hr]
  exact ⟨_, KsF s p { k with epoch := i64 (k.epoch + 1), lg := kBegin d2 (i64 (k.epoch + 1)) } ⟨l2, z2, z.sz, z.hs, z.room, z.cap⟩ ++ [DkX p d2], rfl, ⟨_, rfl, rfl⟩, hs.fitD⟩
theorem kRenew_ok {k : Ks} {d : Dk} (hk : KsOk k) (hw : d.wf) : KsOk (kRenew k d).2.1 := ⟨by rw [kRenew_st]; exact hk.right, by rw [kRenew_st]; exact hk.cnt, kRenew_lg hw hk.lg⟩
set_option maxHeartbeats 1600000 in
theorem ks_append (A : HP) (s p : Nat) (d : Dk) (k : Ks) (z : KsI k) (qb : Option Addr) (cb : Nat) (b : List UInt8) (hA : IsRow A Kd.u8 qb b) (hk : KsOk k) (hw : d.wf) (h354 : 354 ≤ d.len) (hc : d.cnt ≤ 70000000) : Fn Tryz.prog 55 [.pointer (some ⟨s, 0, none⟩), .slice qb b.length cb].toArray (A :: KsF s p k z ++ [DkX p d])
  (fun r post => ∃ z' : KsI (kAppend k b d).2.1, r = .int .i64 (kAppend k b d).1 ∧ post = A :: KsF s p (kAppend k b d).2.1 z' ++ [DkX p (kAppend k b d).2.2]) := by
 have hrm : k.lg.room ≤ 64 * 4096 := by have := hk.lg.nx; have := hk.lg.pl; unfold Lg.room; omega
 have hc2 := kRenew_cnt k d
 have hw2 := kRenew_wf k hw
 have hok2 := kRenew_ok hk hw
 refine Fn.enter (N := 28) func55 rfl ntmps55 tK rfl (fun ρ L => ?_)
 refine ky<|ka rfl<|zm<|ke<|ky<|km rfl<|kq (qG underlying23 rfl)<|km rfl<|kq (qN rfl)<|kq (qO fo_97_0 rfl)<|kq (qD ck_95 rfl)<|kl (kc rfl (h := lg_Room z.l p k.lg z.zl.q z.zl.R.length z.zl.c hk.lg)) ?_
 rintro _ _ ⟨_, ⟨rfl, rfl⟩, rfl⟩
 refine kq (q_gt rfl rfl)<|zm ?_
 refine kD (s := 13) rfl (fun g13 => ?_) (fun g13 => ?_)
 ·refine ke<|ky<|km rfl<|kq (qG underlying23 rfl)<|kq (q_gt rfl rfl)<|zm ?_
  refine kD (s := 16) rfl (fun g16 => ?_) (fun g16 => ?_)
  ·have hr : kAppend k b d = (9, k, d) := by unfold kAppend; rw [if_pos g13, if_pos g16]
   refine ky<|ka rfl<|zm ?_
   refine kr1 func55 results55 rfl (fun w hs => ?_)
   rw [hr]
   exact ⟨_, A :: KsF s p k z ++ [DkX p d], rfl, ⟨z, rfl, rfl⟩, hs.fitD⟩
  ·refine za<|ky<|km rfl<|kl (kc rfl (h := ks_renew s p d k z hk hw h354 tO)) ?_
   rintro _ _ ⟨_, ⟨z2, rfl, rfl⟩, rfl⟩
   refine ka rfl<|kz<|km rfl<|kq (q_ne rfl rfl)<|zm ?_
   refine kD (s := 20) rfl (fun g20 => ?_) (fun g20 => ?_)
   ·have hr : kAppend k b d = kRenew k d := by unfold kAppend; rw [if_pos g13, if_neg g16]; dsimp only; rw [if_neg g20]
    refine ky<|km rfl<|ka rfl<|zm ?_
    refine kr1 func55 results55 rfl (fun w hs => ?_)
    rw [hr]
    exact ⟨_, A :: KsF s p (kRenew k d).2.1 z2 ++ [DkX p (kRenew k d).2.2], rfl, ⟨z2, rfl, rfl⟩, hs.fitD⟩
   ·obtain ⟨k2, d2, hkd⟩ : ∃ k2 d2, (kRenew k d).2 = (k2, d2) := ⟨_, _, rfl⟩
    have hr : kAppend k b d = ((k2.lg.append b d2).1, { k2 with lg := (k2.lg.append b d2).2.1 }, (k2.lg.append b d2).2.2) := by
     unfold kAppend; rw [if_pos g13, if_neg g16]; dsimp only; rw [if_pos (Decidable.not_not.1 g20), hkd]
    revert z2
    rw [hkd] at hw2 hc2 hok2 ⊢
    dsimp only at hw2 hc2 hok2 ⊢
    intro z2
    refine za<|ky<|km rfl<|kq (qN rfl)<|kq (qO fo_97_0 rfl)<|kq (qD ck_95 rfl)<|km rfl<|kl (kc rfl (h := lg_Append A z2.l p d2 k2.lg z2.zl qb cb b hA hok2.lg hw2 tO tO)) ?_
    rintro _ _ ⟨_, ⟨z3, rfl, rfl⟩, rfl⟩
    refine ka rfl<|zm ?_
    refine kr1 func55 results55 rfl (fun w hs => ?_)
    rw [hr]
    exact ⟨_, A :: KsF s p { k2 with lg := (k2.lg.append b d2).2.1 } ⟨z2.l, z3, z2.sz, z2.hs, z2.room, z2.cap⟩ ++ [DkX p (k2.lg.append b d2).2.2], rfl, ⟨_, rfl, rfl⟩, hs.fitD⟩
 ·have hr : kAppend k b d = ((k.lg.append b d).1, { k with lg := (k.lg.append b d).2.1 }, (k.lg.append b d).2.2) := by unfold kAppend; rw [if_neg g13]
  refine za<|ky<|km rfl<|kq (qN rfl)<|kq (qO fo_97_0 rfl)<|kq (qD ck_95 rfl)<|km rfl<|kl (kc rfl (h := lg_Append A z.l p d k.lg z.zl qb cb b hA hk.lg hw tO tO)) ?_
  rintro _ _ ⟨_, ⟨z3, rfl, rfl⟩, rfl⟩
  refine ka rfl<|zm ?_
  refine kr1 func55 results55 rfl (fun w hs => ?_)
  rw [hr]
  exact ⟨_, A :: KsF s p { k with lg := (k.lg.append b d).2.1 } ⟨z.l, z3, z.sz, z.hs, z.room, z.cap⟩ ++ [DkX p (k.lg.append b d).2.2], rfl, ⟨_, rfl, rfl⟩, hs.fitD⟩
end Go.Proofs.YtkbhldicnamcdaaGreat.L
namespace Go.Proofs.YtkbhldicnamcdaaGreat.L
open Go Go.Proofs
attribute [local irreducible] pv fv pt fz RowF RowO rowP old pure_ elA Rd.int Rd.text Rd.flag Rd.msg Rd.rint Rd.rtext Rd.rflag Rd.rmsg
theorem ob_keys {o : Ob} (h : o.right = true) : ∀ r ∈ o.rows, (r.key.size : Int) ≤ 40 := fun r hr => by
 unfold Ob.right at h
 rw [Bool.and_eq_true] at h
 have h := h.2
 split at h
 ·simp only [Bool.and_eq_true, List.all_eq_true] at h
  have := h.2 r hr
  unfold Rw.right at this
  rw [Bool.and_eq_true] at this
  exact rwKey_le this.1
 ·simp only [Bool.and_eq_true, decide_eq_true_eq] at h
  have h0 : o.rows.length = 0 := by omega
  rw [List.length_eq_zero_iff.1 h0] at hr
  cases hr
theorem ob_name {o : Ob} (h : o.right = true) : (o.name.size : Int) ≤ 16 := by
 unfold Ob.right effName at h
 simp only [Bool.and_eq_true, decide_eq_true_eq] at h
 exact h.1.1.2
theorem ready_of {s : Sz} {e : Eff} (hr : s.st.right = true) (he : e.right = true) (hroom : s.l.length ≤ s.c) (hcap : ∀ o ∈ s.l, o.cap) (hc : s.st.cnt ≤ 200000) : Ready s e := by
 have hsm := st_small hr hc tD
 have hf := right_fits he
 have hob : ∀ o ∈ s.l, o.x.right = true := fun o ho => (right_SR hr).obj o.x (List.mem_map_of_mem ho)
 refine ⟨he, hroom, Sz.len_of hsm, fun o ho => Oz.le_of (hsm.oz ho) tO, hcap, fun o ho m hm => ((hsm.oz ho).1.2.2.2.2.1 m hm).2.2.1.1, fun o ho r hrr => ?_, hf.2.2.1, fun o ho => ?_, hf.2.1, Sz.ok_of hsm hroom hcap, by rw [Sz.cnt_st]; omega⟩
 ·have := ob_keys (hob o ho) r hrr; omega
 ·have := ob_name (hob o ho); omega
set_option maxHeartbeats 3200000 in
theorem ref_Apply (A : HP) (s : Sz) (qe : Option Addr) (ce : Nat) (l : List Eff) (hA : IsRow A Kd.eff qe l) (hok : s.ok) (hc : s.st.cnt + l.length ≤ 100000) : Fn Tryz.prog 36 [.agg s.cells.toArray, .slice qe l.length ce].toArray (A :: StL s)
  (fun r post => ∃ s' : Sz, r = .tuple #[.agg s'.cells.toArray, .int .i64 (applyS s.st l).2] ∧ s'.st = (applyS s.st l).1 ∧ post = A :: StL s' ∧ s'.ok) := by
 have hN : s.cnt s.l.length ≤ 9000000000000000000 := by rw [Sz.cnt_st]; omega
 have hok0 : Sz.ok ⟨0, none, 0, []⟩ := ⟨⟨by decide, by decide⟩, by decide, by decide, fun o ho => by cases ho⟩
 refine Fn.enter (N := 38) func36 rfl ntmps36 tK rfl (fun ρ L => ?_)
 refine ky<|kl (l_box rfl rfl) ?_
 rintro _ _ ⟨b2, rfl, rfl⟩
 refine kl (lL zo_47) ?_
 rintro _ _ ⟨b4, rfl, rfl⟩
 refine ka rfl<|zm<|ke<|ky<|kq (qL ck_47 rfl rfl tC)<|kl (kc rfl (h := ref_RightState _ (by assumption) (by assumption))) ?_
 rintro _ _ ⟨_, ⟨rfl, rfl⟩, rfl⟩
 refine kq (q_not rfl)<|zm ?_
 refine kT (s := 11) rfl (fun g11 => ?_) (fun g11 => ?_)
 ·have hr : s.st.right = false := by simpa using g11
  have hap : applyS s.st l = (⟨0, []⟩, 1) := by unfold applyS; rw [if_pos hr]
  refine ky<|kq (q_as_sz (l_ := []) (q_build st_47 rfl tF) rfl)<|kN rfl (lS ck_47 rfl rfl ⟨rfl, rfl⟩ (sz_one _) tP) ?_
  rintro _ _ ⟨rfl, rfl⟩
  refine ka rfl<|zm ?_
  refine K.ret (fn := Tryz.f36) func36 (fun a w hk hs => resCT results36 hk rfl ck_47 rfl (cP tM w hs) rfl) (fun w hs => ?_)
  rw [hap]
  exact ⟨_, A :: StL ⟨0, none, 0, []⟩, rfl, ⟨⟨0, none, 0, []⟩, rfl, rfl, rfl, hok0⟩, (nestF_nil (rowF_nilA (k := Kd.oz) (hs.fit (M := [A]) tG (by repeat (first | exact Drop.refl | apply Drop.skip))))).fitD⟩
 ·have hr : s.st.right = true := by simpa using g11
  have hap : applyS s.st l = doAll s.st l := apply_eq hr l
  have hsm := st_small hr (n := 200000) tO tD
  have hlen := Sz.len_of hsm
  have hle : ∀ o ∈ s.l, o.le 1000000000 := fun o ho => Oz.le_of (hsm.oz ho) tO
  rw [hap]
  refine za<|ky<|kq (qL ck_47 rfl rfl tC)<|kl (kc rfl (h := ref_Copy s hlen hle)) ?_
  rintro _ _ ⟨_, ⟨q', c', l', rfl, rfl, hm, hlc, hcap⟩, rfl⟩
  refine kl (lL zo_47) ?_
  rintro _ _ ⟨b6, rfl, rfl⟩
  refine kN rfl (lS ck_47 rfl rfl ⟨rfl, rfl⟩ (sz_one _) tP) ?_
  rintro _ _ ⟨rfl, rfl⟩
  refine zm<|ke<|ke ?_
  have hst0 : Sz.st ⟨s.next, q', c', l'⟩ = s.st := by unfold Sz.st; dsimp only; rw [hm]
  refine kr<|ka rfl<|zm<|kB ?_
  refine kX (ι := { x : Nat × Sz // x.1 ≤ l.length ∧ doAll s.st l = doAll x.2.st (l.drop x.1) ∧ x.2.st.right = true ∧ x.2.st.cnt ≤ s.st.cnt + x.1 ∧ x.2.l.length ≤ x.2.c ∧ ∀ o ∈ x.2.l, o.cap }) (fun x => [(7, .int .i64 x.1.1), (1, .slice qe l.length ce), (6, .pointer (some ⟨b6, 0, none⟩)), (4, .pointer (some ⟨b4, 0, none⟩))]) (fun x => StO b6 x.1.2 ++ [A, pv b4 47 [.int .i64 0, .slice none 0 0]] ++ L) (fun x => l.length - x.1.1) ⟨(0, ⟨s.next, q', c', l'⟩), Nat.zero_le _, by rw [hst0]; rfl, by rw [hst0]; exact hr, by rw [hst0]; exact Nat.le_refl _, hlc, hcap⟩ tS (fun w h => h.fitD) (fun x ih => ?_)
  obtain ⟨⟨i, sx⟩, hi, hd, hsr, hsc, hsm2, hsp⟩ := x
  dsimp only at hi hd hsr hsc hsm2 hsp ⊢
  refine ke<|ky<|km rfl<|km rfl<|kq (qG underlying64 rfl)<|kq (q_lt rfl rfl)<|zm ?_
  refine kD (s := 18) rfl (fun g18 => ?_) (fun g18 => ?_)
  ·obtain ⟨e, he⟩ : ∃ e, l[i]? = some e := ⟨_, List.getElem?_eq_getElem tO⟩
   have hdr : l.drop i = e :: l.drop (i + 1) := by
    obtain ⟨h1, h2⟩ := List.getElem?_eq_some_iff.1 he
    rw [← h2, List.getElem_cons_drop h1]
   refine za<|ke<|kB<|ke<|ky<|km rfl<|km rfl<|kq (q_ix (xs := l) i se_64 rfl rfl rfl hA tM rfl tO)<|kq (q_ldEN (xs := l) (enc := Eff.cells) ck_58 rfl hA tM he)<|kl (kc rfl (h := ref_RightEffect _)) ?_
   rintro _ _ ⟨_, ⟨rfl, rfl⟩, rfl⟩
   refine kq (q_not rfl)<|zm ?_
   refine kT (s := 26) rfl (fun g26 => ?_) (fun g26 => ?_)
   ·have her : e.right = false := by simpa using g26
    have hfin : doAll sx.st (l.drop i) = (⟨0, []⟩, 1) := by
     have h1 : doS sx.st e = (sx.st, 1) := by unfold doS; rw [if_pos her]
     rw [hdr, doAll_stop (by rw [h1]; exact (by decide : ¬ (1 : Int) = 0)), h1]
    refine ky<|kq (q_as_sz (l_ := []) (q_build st_47 rfl tF) rfl)<|kN rfl (lS ck_47 rfl rfl ⟨rfl, rfl⟩ (sz_one _) tP) ?_
    rintro _ _ ⟨rfl, rfl⟩
    refine ka rfl<|zm ?_
    refine K.ret (fn := Tryz.f36) func36 (fun a w hk hs => resCT results36 hk rfl ck_47 rfl (cP tM w hs) rfl) (fun w hs => ?_)
    rw [hd, hfin]
    exact ⟨_, A :: StL ⟨0, none, 0, []⟩, rfl, ⟨⟨0, none, 0, []⟩, rfl, rfl, rfl, hok0⟩, (nestF_nil (rowF_nilA (k := Kd.oz) (hs.fit (M := [A]) tG (by repeat (first | exact Drop.refl | apply Drop.skip))))).fitD⟩
   ·have her : e.right = true := by simpa using g26
    have hR := ready_of hsr her hsm2 hsp tO
    have hcn := doS_cnt sx.st e
    refine za<|ky<|km rfl<|km rfl<|kq (q_ix (xs := l) i se_64 rfl rfl rfl hA tM rfl tO)<|kq (q_ldEN (xs := l) (enc := Eff.cells) ck_58 rfl hA tM he)<|kl (kc rfl (h := ref_one b6 sx e hR)) ?_
    rintro _ _ ⟨_, ⟨s', rfl, hs1, rfl, hs2, hs3⟩, rfl⟩
    refine ka rfl<|kz<|km rfl<|kq (q_ne rfl rfl)<|zm ?_
    refine kD (s := 34) rfl (fun g34 => ?_) (fun g34 => ?_)
    ·have hfin : doAll sx.st (l.drop i) = (⟨0, []⟩, (doS sx.st e).2) := by rw [hdr]; exact doAll_stop g34
     refine ky<|kq (q_as_sz (l_ := []) (q_build st_47 rfl tF) rfl)<|km rfl<|kN rfl (lS ck_47 rfl rfl ⟨rfl, rfl⟩ (sz_one _) tP) ?_
     rintro _ _ ⟨rfl, rfl⟩
     refine ka rfl<|zm ?_
     refine K.ret (fn := Tryz.f36) func36 (fun a w hk hs => resCT results36 hk rfl ck_47 rfl (cP tM w hs) rfl) (fun w hs => ?_)
     rw [hd, hfin]
     exact ⟨_, A :: StL ⟨0, none, 0, []⟩, rfl, ⟨⟨0, none, 0, []⟩, rfl, rfl, rfl, hok0⟩, (nestF_nil (rowF_nilA (k := Kd.oz) (hs.fit (M := [A]) tG (by repeat (first | exact Drop.refl | apply Drop.skip))))).fitD⟩
    ·have h0 : (doS sx.st e).2 = 0 := Decidable.not_not.1 g34
     have hs1 := hs1 h0
     have hfin : doAll sx.st (l.drop i) = doAll s'.st (l.drop (i + 1)) := by rw [hdr, hs1]; exact doAll_step h0
     refine za<|zd<|kr<|km rfl<|kq (q_add rfl rfl tN tN)<|ka rfl<|zm ?_
     exact K.weak tS (fun w h => h.fitD) (ih ⟨(i + 1, s'), by show i + 1 ≤ _; omega, by show doAll s.st l = doAll s'.st (l.drop (i + 1)); rw [hd, hfin], by rw [hs1]; exact (doS_SR (right_SR hsr) h0).right, by rw [hs1]; show _ ≤ s.st.cnt + (i + 1); omega, hs2, hs3⟩ (by show l.length - (i + 1) < l.length - i; omega))
  ·obtain rfl : i = l.length := by omega
   have hfin : doAll sx.st (l.drop l.length) = (sx.st, 0) := by rw [List.drop_length]; rfl
   have hsxo := Sz.ok_of (st_small hsr (n := 200000) tO tD) hsm2 hsp
   clear ih
   refine K.exit rfl<|ky<|kq (qL ck_47 rfl rfl tC)<|kN rfl (lS ck_47 rfl rfl ⟨rfl, rfl⟩ (sz_one _) tP) ?_
   rintro _ _ ⟨rfl, rfl⟩
   refine ka rfl<|zm ?_
   refine K.ret (fn := Tryz.f36) func36 (fun a w hk hs => resCT results36 hk rfl ck_47 rfl (cP tM w hs) rfl) (fun w hs => ?_)
   rw [hd, hfin]
   exact ⟨_, A :: StL sx, rfl, ⟨sx, rfl, rfl, rfl, hsxo⟩, ((rO (e := 62) (cap := sx.c) (k := Kd.oz) (p := sx.q) (xs := sx.l) (hs.pick tP)).fit (M := A :: StL sx) tG (by repeat (first | exact Drop.refl | apply Drop.skip)))⟩
set_option maxHeartbeats 3200000 in
theorem ref_Claims (s : Sz) (n : Nat) (hs : s.good n) (hn : (claimsS s.st).length ≤ 100000000) (hn2 : n ≤ 100000000) : Fn Tryz.prog 37 [.agg s.cells.toArray].toArray (StL s) (fun r post => ∃ po co, r = .slice po (claimsS s.st).length co ∧ post = [RowO Kd.eff 58 po co (claimsS s.st)]) := by
 have hlen := Sz.len_of hs.sm
 have hcl : claimsS s.st = s.l.flatMap (fun o => claimsO o.x) := by
  show (s.l.map (·.x)).flatMap claimsO = _
  rw [List.flatMap_map]
 rw [hcl] at hn
 refine Fn.enter (N := 55) func37 rfl ntmps37 tK rfl (fun ρ L => ?_)
 refine ky<|kl (l_box rfl rfl) ?_
 rintro _ _ ⟨b1, rfl, rfl⟩
 refine ka rfl<|kz<|ka rfl<|zm<|ke<|ky<|ka rfl<|zm<|kB ?_
 refine kX (ι := { x : Nat × Option Addr × Nat // x.1 ≤ s.l.length }) (fun x => [(4, .int .i64 x.1.1), (3, .slice x.1.2.1 ((s.l.take x.1.1).flatMap (fun o => claimsO o.x)).length x.1.2.2), (1, .pointer (some ⟨b1, 0, none⟩))]) (fun x => RowO Kd.eff 58 x.1.2.1 x.1.2.2 ((s.l.take x.1.1).flatMap (fun o => claimsO o.x)) :: pv b1 47 s.cells :: StL s ++ L) (fun x => s.l.length - x.1.1) ⟨(0, none, 0), Nat.zero_le _⟩ tS (fun w h => rowO_nil (k := Kd.eff) 58 (h.fit (M := pv b1 47 s.cells :: StL s) tG (by repeat (first | exact Drop.refl | apply Drop.skip)))) (fun x ih => ?_)
 obtain ⟨⟨i, po, co⟩, hi⟩ := x
 dsimp only at hi ⊢
 have hol := flatMap_take_le (fun o : Oz => claimsO o.x) s.l i
 obtain ⟨A, hA⟩ : ∃ A, A = (s.l.take i).flatMap (fun o => claimsO o.x) := ⟨_, rfl⟩
 rw [← hA] at hol ⊢
 refine ke<|ky<|km rfl<|kq (qO fo_47_1 rfl)<|kq (qD ck_45 rfl)<|kq (qG underlying45 rfl)<|kq (q_lt rfl rfl)<|zm ?_
 refine kD (s := 10) rfl (fun g10 => ?_) (fun g10 => ?_)
 ·obtain ⟨o, ho⟩ : ∃ o, s.l[i]? = some o := ⟨_, List.getElem?_eq_getElem tO⟩
  have hil := (List.getElem?_eq_some_iff.1 ho).1
  have hmo := List.mem_of_getElem? ho
  have hos := flatMap_take_succ (fun o : Oz => claimsO o.x) ho
  rw [← hA] at hos
  have hol2 := flatMap_take_le (fun o : Oz => claimsO o.x) s.l (i + 1)
  have hom := (hs.sm.oz hmo).2.2.1
  refine K.st (fun w h => nA (l := s.l) tM hmo h)<|za<|ke<|kB<|ky<|ka rfl<|zm<|kB ?_
  refine kX (ι := { x : Nat × Option Addr × Nat // x.1 ≤ o.x.msgs.length }) (fun x => [(5, .int .i64 x.1.1), (3, .slice x.1.2.1 (A ++ claimsO { o.x with msgs := o.x.msgs.take x.1.1 }).length x.1.2.2), (4, .int .i64 i), (1, .pointer (some ⟨b1, 0, none⟩))]) (fun x => RowO Kd.eff 58 x.1.2.1 x.1.2.2 (A ++ claimsO { o.x with msgs := o.x.msgs.take x.1.1 }) :: RowF Kd.msg o.z.q2 o.x.msgs :: pv b1 47 s.cells :: StL s ++ L) (fun x => o.x.msgs.length - x.1.1) ⟨(0, po, co), Nat.zero_le _⟩ (by rw [show A ++ claimsO { o.x with msgs := o.x.msgs.take 0 } = A from List.append_nil _]; exact tS) (fun w h => by rw [show A ++ claimsO { o.x with msgs := o.x.msgs.take 0 } = A from List.append_nil _]; exact h.fitD) (fun x ih2 => ?_)
  obtain ⟨⟨j, px, cx⟩, hj⟩ := x
  dsimp only at hj ⊢
  obtain ⟨B, hB⟩ : ∃ B, B = A ++ claimsO { o.x with msgs := o.x.msgs.take j } := ⟨_, rfl⟩
  have hcj : (claimsO { o.x with msgs := o.x.msgs.take j }).length ≤ n := by
   unfold claimsO
   rw [List.length_map]
   refine Nat.le_trans (List.length_filter_le _ _) ?_
   show (o.x.msgs.take j).length ≤ n
   rw [List.length_take]; omega
  have hBl : B.length ≤ 1000000000 := by rw [hB, List.length_append]; omega
  rw [← hB]
  refine ke<|ky<|km rfl<|kq (qO fo_47_1 rfl)<|kq (qD ck_45 rfl)<|km rfl<|kq (q_ix (xs := s.l) i se_45 rfl rfl rfl isF tM rfl hil)<|kq (qE fo_62_4 rfl)<|kq (q_ldE (xs := s.l) ck_60 rfl isF tM ho rfl)<|kq (qG underlying60 rfl)<|kq (q_lt rfl rfl)<|zm ?_
  refine kD (s := 21) rfl (fun g21 => ?_) (fun g21 => ?_)
  ·obtain ⟨m, hm⟩ : ∃ m, o.x.msgs[j]? = some m := ⟨_, List.getElem?_eq_getElem tO⟩
   have hjl := (List.getElem?_eq_some_iff.1 hm).1
   have hcs : claimsO { o.x with msgs := o.x.msgs.take (j + 1) } = claimsO { o.x with msgs := o.x.msgs.take j } ++ (if m.claimed = true then [(⟨7, o.x.name, ⟨#[]⟩, ⟨#[]⟩, m.id, 0, true, ⟨0, 0, 0, false, ⟨#[]⟩, ⟨#[]⟩⟩⟩ : Eff)] else []) := by
    unfold claimsO
    show ((o.x.msgs.take (j + 1)).filter _).map _ = ((o.x.msgs.take j).filter _).map _ ++ _
    rw [filter_take_succ (fun m : Msg => m.claimed) hm, List.map_append]
    cases hmc : m.claimed <;> simp [hmc]
   refine za<|ke<|kB<|ky<|kq (qO fo_47_1 rfl)<|kq (qD ck_45 rfl)<|km rfl<|kq (q_ix (xs := s.l) i se_45 rfl rfl rfl isF tM rfl hil)<|kq (qE fo_62_4 rfl)<|kq (q_ldE (xs := s.l) ck_60 rfl isF tM ho rfl)<|km rfl<|kq (q_ix (xs := o.x.msgs) j se_60 rfl rfl rfl isF tM rfl hjl)<|kq (qE fo_56_3 rfl)<|kq (q_ldE (xs := o.x.msgs) ck_4 rfl isF tM hm rfl)<|zm ?_
   first | refine kD (s := 33) rfl (fun g33 => ?_) (fun g33 => ?_) | refine kT (s := 33) rfl (fun g33 => ?_) (fun g33 => ?_)
   ·have hmc : m.claimed = true := by simpa using g33
    have hz : A ++ claimsO { o.x with msgs := o.x.msgs.take (j + 1) } = B ++ [(⟨7, o.x.name, ⟨#[]⟩, ⟨#[]⟩, m.id, 0, true, ⟨0, 0, 0, false, ⟨#[]⟩, ⟨#[]⟩⟩⟩ : Eff)] := by rw [hcs, if_pos hmc, ← List.append_assoc, ← hB]
    refine K.drawS [pv b1 47 s.cells, RowF Kd.oz s.q s.l, RowF Kd.msg o.z.q2 o.x.msgs] (fun _ h => h.subD) mixed<|dq 0 rfl (q_move rfl)<|dq 1 rfl (qO fo_47_1 rfl)<|dq 2 rfl (qD ck_45 rfl)<|dq 3 rfl (q_move rfl)<|dq 4 rfl (q_ix (xs := s.l) i se_45 rfl rfl rfl isF tM rfl hil)<|dq 5 rfl (qE fo_62_0 rfl)<|dq 6 rfl (q_ldE (xs := s.l) ck_9 rfl isF tM ho rfl)<|dq 7 rfl (qO fo_47_1 rfl)<|dq 8 rfl (qD ck_45 rfl)<|dq 9 rfl (q_move rfl)<|dq 10 rfl (q_ix (xs := s.l) i se_45 rfl rfl rfl isF tM rfl hil)<|dq 11 rfl (qE fo_62_4 rfl)<|dq 12 rfl (q_ldE (xs := s.l) ck_60 rfl isF tM ho rfl)<|dq 13 rfl (q_move rfl)<|dq 14 rfl (q_ix (xs := o.x.msgs) j se_60 rfl rfl rfl isF tM rfl hjl)<|dq 15 rfl (qE fo_56_0 rfl)<|dq 16 rfl (q_ldE (xs := o.x.msgs) ck_3 rfl isF tM hm rfl)<|dq 17 rfl (q_as (q_build st_58 rfl tF) (show _ = Eff.cells (⟨7, o.x.name, ⟨#[]⟩, ⟨#[]⟩, m.id, 0, true, ⟨0, 0, 0, false, ⟨#[]⟩, ⟨#[]⟩⟩⟩ : Eff) from rfl))<|dq1 18 rfl (lO sz_64_1 rfl rfl ⟨rfl, rfl, rfl⟩) (.inr (by rintro _ _ ⟨b52, rfl, rfl⟩ w h; exact h.subD)) ?_
    rintro _ _ ⟨b52, rfl, rfl⟩
    refine dq1 19 rfl (lX Kd.eff (ys := [(⟨7, o.x.name, ⟨#[]⟩, ⟨#[]⟩, m.id, 0, true, ⟨0, 0, 0, false, ⟨#[]⟩, ⟨#[]⟩⟩⟩ : Eff)]) se_64 underlying64 ⟨_, ze_58, rfl⟩ tD rfl rfl tP isP tM rfl rfl (by show (2 * (B.length + 1) + 768) * _ ≤ _; omega)) (.inr (by rintro _ _ ⟨pn, dn, rfl, rfl⟩ w h; exact h.subD)) ?_
    rintro _ _ ⟨pn, dn, rfl, rfl⟩
    refine dq 20 rfl (q_assign rfl)<|D.done tK<|zd<|kr<|km rfl<|kq (q_add rfl rfl tN tN)<|ka rfl<|zm ?_
    exact K.weak (E' := [(5, .int .i64 ((j + 1 : Nat) : Int)), (3, .slice pn (A ++ claimsO { o.x with msgs := o.x.msgs.take (j + 1) }).length dn), (4, .int .i64 i), (1, .pointer (some ⟨b1, 0, none⟩))]) (by rw [hz]; exact tS) (fun w h => by rw [hz]; exact h.fitD) (ih2 ⟨(j + 1, pn, dn), by show j + 1 ≤ _; omega⟩ (by show o.x.msgs.length - (j + 1) < o.x.msgs.length - j; omega))
   ·have hmc : ¬ m.claimed = true := by simpa using g33
    have hz : A ++ claimsO { o.x with msgs := o.x.msgs.take (j + 1) } = B := by rw [hcs, if_neg hmc, List.append_nil, ← hB]
    refine za<|zd<|kr<|km rfl<|kq (q_add rfl rfl tN tN)<|ka rfl<|zm ?_
    exact K.weak (E' := [(5, .int .i64 ((j + 1 : Nat) : Int)), (3, .slice px (A ++ claimsO { o.x with msgs := o.x.msgs.take (j + 1) }).length cx), (4, .int .i64 i), (1, .pointer (some ⟨b1, 0, none⟩))]) (by rw [hz]; exact tS) (fun w h => by rw [hz]; exact h.fitD) (ih2 ⟨(j + 1, px, cx), by show j + 1 ≤ _; omega⟩ (by show o.x.msgs.length - (j + 1) < o.x.msgs.length - j; omega))
  ·obtain rfl : j = o.x.msgs.length := by omega
   have hBA : (s.l.take (i + 1)).flatMap (fun o => claimsO o.x) = B := by rw [hos, hB, List.take_length]
   clear ih2
   refine K.exit rfl<|zd<|kr<|km rfl<|kq (q_add rfl rfl tN tN)<|ka rfl<|zm ?_
   exact K.weak (E' := [(4, .int .i64 ((i + 1 : Nat) : Int)), (3, .slice px ((s.l.take (i + 1)).flatMap (fun o => claimsO o.x)).length cx), (1, .pointer (some ⟨b1, 0, none⟩))]) (by rw [hBA]; exact tS) (fun w h => by rw [hBA]; exact h.fitD) (ih ⟨(i + 1, px, cx), by show i + 1 ≤ _; omega⟩ (by show s.l.length - (i + 1) < s.l.length - i; omega))
 ·obtain rfl : i = s.l.length := by omega
  rw [List.take_length] at hA
  have hfin : claimsS s.st = A := by rw [hcl, hA]
  clear ih
  refine K.exit rfl<|ky<|km rfl<|ka rfl<|zm ?_
  refine kr1 func37 results37 rfl (fun w hs => ?_)
  rw [hfin]
  exact ⟨_, [RowO Kd.eff 58 po co A], rfl, ⟨po, co, rfl, rfl⟩, hs.fitD⟩
end Go.Proofs.YtkbhldicnamcdaaGreat.L
namespace Go.Proofs.YtkbhldicnamcdaaGreat.L
open Go Go.Proofs
open Go Go.RowKit Go.ChangeShapes
def rowW {α : Type} (k : Kd α) (W : World) (p : Option Addr) (xs : List α) : Prop := xs = [] ∨ ∃ b o c e fr, p = some ⟨b, o, none⟩ ∧ W.heap[b]? = some (.cells c e fr) ∧ rowAt k (heapOf W) c o xs
theorem rowW_hold {α : Type} {k : Kd α} {W : World} {p : Option Addr} {xs : List α} {g : Hp} (h : rowW k W p xs) (hg : Hp.le (heapOf W) g) : (RowF k p xs).holds g (fun _ => none) :=
 h.imp id fun ⟨b, o, c, e, fr, hp, hb, hr⟩ => ⟨b, o, c, e, fr, hp, hg _ _ hb, hr.mono hg⟩
abbrev Kd.effs : Kd (Sl Eff) := Kd.sl
theorem opens_effs {H : Type} {enc : TypeId × Value → H} {W : World} : Opens enc Tryz.prog W Kd.effs 64 (fun s : Sl Eff => s.l.length ≤ s.c ∧ (s.l.length : Int) ≤ 9223372036854775807 ∧ rowW Kd.eff W s.q s.l) := fun fuel cs y h => by
 obtain ⟨p, xs, cap, e, l, m, B, g⟩ := opens_slice (k := Kd.eff) underlying64 tK tD opens_eff h
 exact ⟨⟨p, cap, xs⟩, e, l, by show (xs.length : Int) ≤ _; omega, g⟩
theorem St.slsOf {α : Type} {k : Kd α} {W : World} {L : List HP} {w : World} {l : List (Sl α)} (m : old W ∈ L) (h : ∀ s ∈ l, rowW k W s.q s.l) (hs : St W L w) : St W (NestSl k l :: L) w :=
 St.derive m rfl (fun g _ hg => fun s hs => rowW_hold (h s hs) (show Hp.le (heapOf W) g from hg)) hs
end Go.Proofs.YtkbhldicnamcdaaGreat.L
namespace Go.Proofs.YtkbhldicnamcdaaGreat.L
open Go Go.Proofs
attribute [local irreducible] pv fv pt fz RowF RowO rowP old pure_ elA Rd.int Rd.text Rd.flag Rd.msg Rd.rint Rd.rtext Rd.rflag Rd.rmsg
attribute [local irreducible] DkX
theorem kAppend_st (k : Ks) (b : List UInt8) (d : Dk) : (kAppend k b d).2.1.st = k.st ∧ (kAppend k b d).2.1.dead = k.dead := by
 unfold kAppend
 split
 ·split
  ·exact ⟨rfl, rfl⟩
  ·dsimp only
   split
   ·exact ⟨kRenew_st k d, kRenew_dead k d⟩
   ·exact ⟨kRenew_st k d, kRenew_dead k d⟩
 ·exact ⟨rfl, rfl⟩
set_option maxHeartbeats 3200000 in
theorem ks_Do (s p : Nat) (d : Dk) (k : Ks) (z : KsI k) (q : Option Addr) (c : Nat) (l : List Eff) (hk : KsOk k) (hw : d.wf) (h354 : 354 ≤ d.len) (hc : d.cnt ≤ 60000000) (hl : l.length ≤ 10000) : Fn Tryz.prog 24 [.pointer (some ⟨s, 0, none⟩), .slice q l.length c].toArray (RowF Kd.eff q l :: KsF s p k z ++ [DkX p d])
  (fun r post => ∃ z' : KsI (kDo k l d).2.1, r = .int .i64 (kDo k l d).1 ∧ post = KsF s p (kDo k l d).2.1 z' ++ [DkX p (kDo k l d).2.2]) := by
 have hg := z.good hk
 have hcn := apply_cnt k.st l
 have hk30 := hk.cnt
 refine Fn.enter (N := 52) func24 rfl ntmps24 tK rfl (fun ρ L => ?_)
 refine ky<|ka rfl<|zm<|ke<|ky<|km rfl<|kq (q_pnil underlying36 rfl rfl)<|km rfl<|km rfl<|kq (qN rfl)<|kq (qO fo_97_4 rfl)<|kq (qD ck_4 rfl)<|kq (qF rfl rfl)<|zm ?_
 first | refine kD (s := 14) rfl (fun g14 => ?_) (fun g14 => ?_) | refine kT (s := 14) rfl (fun g14 => ?_) (fun g14 => ?_)
 ·have hr : kDo k l d = (12, k, d) := by unfold kDo; rw [if_pos g14]
  refine ky<|ka rfl<|zm ?_
  refine kr1 func24 results24 rfl (fun w hs => ?_)
  rw [hr]
  exact ⟨_, KsF s p k z ++ [DkX p d], rfl, ⟨z, rfl, rfl⟩, hs.fitD⟩
 ·have hdd : ¬ k.dead = true := by simpa using g14
  refine za<|ky<|km rfl<|kq (qN rfl)<|kq (qO fo_97_2 rfl)<|kq (q_as_sz (l_ := z.sz.l) (qL ck_47 rfl rfl (cells_pvAt tM rfl)) rfl)<|km rfl<|kl (kc rfl (h := st_Apply (RowF Kd.eff q l) z.sz 30000 q c l isF hg tO)) ?_
  rintro _ _ ⟨_, ⟨s', rfl, hs1, rfl, hs2⟩, rfl⟩
  rw [z.hs] at hs1 ⊢
  refine km rfl<|kq (qX rfl rfl)<|kq (qX rfl rfl)<|kl (lL zo_47) ?_
  rintro _ _ ⟨b5, rfl, rfl⟩
  refine kN rfl (lS ck_47 rfl rfl ⟨rfl, rfl⟩ (sz_one _) tP) ?_
  rintro _ _ ⟨rfl, rfl⟩
  refine ka rfl<|zm<|ke<|kB<|ky<|km rfl<|kq (q_ne rfl rfl)<|ka rfl<|zm ?_
  refine kD (s := 24) rfl (fun g24 => ?_) (fun g24 => ?_)
  ·have hr : kDo k l d = ((applyS k.st l).2, k, d) := by unfold kDo; rw [if_neg hdd, if_pos g24]
   refine ky<|km rfl<|ka rfl<|zm ?_
   refine kr1 func24 results24 rfl (fun w hs => ?_)
   rw [hr]
   exact ⟨_, KsF s p k z ++ [DkX p d], rfl, ⟨z, rfl, rfl⟩, hs.fitD⟩
  ·have h0 := Decidable.not_not.1 g24
   have ha := apply_right h0
   have hsz := size_right ha.2.1
   have hok' := Sz.ok_of hs2.sm hs2.room hs2.cap
   have hfw' := Sz.few_of hs2.sm tO
   refine ky<|kq (q_as_sz (l_ := s'.l) (qL ck_47 rfl rfl tC) rfl)<|kl (kc rfl (h := st_Size s' hok' hfw' (by rw [hs1]; omega))) ?_
   rintro _ _ ⟨_, ⟨rfl, rfl⟩, rfl⟩
   rw [hs1]
   refine kq (q_gt rfl rfl)<|ka rfl<|zm ?_
   refine kD (s := 28) rfl (fun g28 => ?_) (fun g28 => ?_)
   ·have hr : kDo k l d = (9, k, d) := by unfold kDo; rw [if_neg hdd, if_neg g24, if_pos g28]
    refine ky<|ka rfl<|zm ?_
    refine kr1 func24 results24 rfl (fun w hs => ?_)
    rw [hr]
    exact ⟨_, KsF s p k z ++ [DkX p d], rfl, ⟨z, rfl, rfl⟩, hs.fitD⟩
   ·refine ky<|km rfl<|kq (qG underlying64 rfl)<|kq (q_eq rfl rfl)<|ka rfl<|zm ?_
    refine kD (s := 32) rfl (fun g32 => ?_) (fun g32 => ?_)
    ·have hl0 : l = [] := List.length_eq_zero_iff.1 tO
     have hr : kDo k l d = (0, k, d) := by unfold kDo; rw [if_neg hdd, if_neg g24, if_neg g28, if_pos hl0]
     refine ky<|ka rfl<|zm ?_
     refine kr1 func24 results24 rfl (fun w hs => ?_)
     rw [hr]
     exact ⟨_, KsF s p k z ++ [DkX p d], rfl, ⟨z, rfl, rfl⟩, hs.fitD⟩
    ·have hl0 : ¬ l = [] := fun e => g32 (by rw [e]; rfl)
     obtain ⟨r, hrr⟩ : ∃ r, kAppend k (effsBytes l) d = r := ⟨_, rfl⟩
     have hr : kDo k l d = (r.1, { r.2.1 with dead := decide (r.1 = 12), st := if r.1 = 0 then (applyS k.st l).1 else k.st }, r.2.2) := by unfold kDo; rw [if_neg hdd, if_neg g24, if_neg g28, if_neg hl0]; dsimp only; rw [hrr]
     have hst := kAppend_st k (effsBytes l) d
     rw [hrr] at hst
     refine za<|zd<|ky<|km rfl<|km rfl<|kl (kc rfl (h := eff_Bytes q c l tO)) ?_
     rintro _ _ ⟨_, ⟨qb, cb, rfl, rfl, hcb⟩, rfl⟩
     refine kl (kc rfl (h := ks_append (RowF Kd.u8 qb (effsBytes l)) s p d k z qb cb (effsBytes l) isF hk hw h354 tO)) ?_
     rintro _ _ ⟨_, ⟨z2, rfl, rfl⟩, rfl⟩
     revert z2
     rw [hrr]
     intro z2
     refine ka rfl<|kz<|km rfl<|km rfl<|kq (q_eq rfl rfl)<|kq (qN rfl)<|kq (qO fo_97_4 rfl)<|kN rfl (lA ck_4 rfl rfl rfl tP tA) ?_
     rintro _ _ ⟨rfl, rfl⟩
     refine zm<|ke<|ky<|km rfl<|kq (q_eq rfl rfl)<|zm ?_
     refine kD (s := 46) rfl (fun g46 => ?_) (fun g46 => ?_)
     ·have hr2 : kDo k l d = (r.1, { r.2.1 with dead := decide (r.1 = 12), st := (applyS k.st l).1 }, r.2.2) := by rw [hr, if_pos g46]
      refine kr<|km rfl<|kq (q_as_sz (l_ := s'.l) (qL ck_47 rfl rfl tC) rfl)<|kq (qN rfl)<|kq (qO fo_97_2 rfl)<|kN rfl (l_storeN ck_47 rfl rfl rfl (sz_one _) tP tSN) ?_
      rintro _ _ ⟨rfl, rfl⟩
      refine kz<|km rfl<|ka rfl<|zm ?_
      refine kr1 func24 results24 rfl (fun w hs => ?_)
      rw [hr2]
      exact ⟨_, KsF s p { r.2.1 with dead := decide (r.1 = 12), st := (applyS k.st l).1 } ⟨z2.l, z2.zl, s', hs1, hs2.room, hs2.cap⟩ ++ [DkX p r.2.2], rfl, ⟨_, rfl, rfl⟩, hs.fitD⟩
     ·have hr2 : kDo k l d = (r.1, { r.2.1 with dead := decide (r.1 = 12), st := k.st }, r.2.2) := by rw [hr, if_neg g46]
      refine za<|ky<|km rfl<|ka rfl<|zm ?_
      refine kr1 func24 results24 rfl (fun w hs => ?_)
      rw [hr2]
      exact ⟨_, KsF s p { r.2.1 with dead := decide (r.1 = 12), st := k.st } ⟨z2.l, z2.zl, z2.sz, by rw [z2.hs]; exact hst.1, z2.room, z2.cap⟩ ++ [DkX p r.2.2], rfl, ⟨_, rfl, rfl⟩, hs.fitD⟩
theorem ks_Epoch (s p : Nat) (k : Ks) (z : KsI k) : Fn Tryz.prog 22 [.pointer (some ⟨s, 0, none⟩)].toArray (KsF s p k z) (fun r post => r = .int .i64 k.epoch ∧ post = KsF s p k z) := by
 refine Fn.enter (N := 9) func22 rfl ntmps22 tK rfl (fun ρ L => ?_)
 refine ky<|ka rfl<|zm<|ke<|ky<|km rfl<|kq (q_pnil underlying36 rfl rfl)<|zm<|K.no rfl<|za<|ky<|km rfl<|kq (qN rfl)<|kq (qO fo_97_3 rfl)<|kq (qD ck_3 rfl)<|ka rfl<|zm ?_
 refine kr1 func22 results22 rfl (fun w hs => ?_)
 exact ⟨_, KsF s p k z, rfl, ⟨rfl, rfl⟩, hs.fitD⟩
theorem ks_State (s p : Nat) (k : Ks) (z : KsI k) (hk : KsOk k) : Fn Tryz.prog 21 [.pointer (some ⟨s, 0, none⟩)].toArray (KsF s p k z) (fun r post => ∃ s' : Sz, r = .agg s'.cells.toArray ∧ s'.st = k.st ∧ s'.good 30000 ∧ post = StL s' ++ KsF s p k z) := by
 have hg := z.good hk
 have hlen := Sz.len_of hg.sm
 refine Fn.enter (N := 11) func21 rfl ntmps21 tK rfl (fun ρ L => ?_)
 refine ky<|kl (lL zo_47) ?_
 rintro _ _ ⟨b2, rfl, rfl⟩
 refine zm<|ke<|ky<|km rfl<|kq (q_pnil underlying36 rfl rfl)<|zm<|K.no rfl<|za<|ky<|km rfl<|kq (qN rfl)<|kq (qO fo_97_2 rfl)<|kq (q_as_sz (l_ := z.sz.l) (qL ck_47 rfl rfl (cells_pvAt tM rfl)) rfl)<|kl (kc rfl (h := st_CloneO z.sz hlen (fun o ho => Oz.le_of (hg.sm.oz ho) tD))) ?_
 rintro _ _ ⟨_, ⟨q', c', l', rfl, rfl, hl1, hl2, hl3⟩, rfl⟩
 refine kN rfl (lS ck_47 rfl rfl ⟨rfl, rfl⟩ (sz_one _) tP) ?_
 rintro _ _ ⟨rfl, rfl⟩
 refine zm<|K.st (fun w h => rO (k := Kd.oz) (e := 62) (p := q') (cap := c') (xs := l') (h.pick tP))<|K.st (fun w h => allO_freeze (l := l') (h.pick tP)) ?_
 have hst : Sz.st ⟨z.sz.next, q', c', l'⟩ = k.st := by rw [← z.hs]; unfold Sz.st; rw [hl1]
 have hgd : Sz.good ⟨z.sz.next, q', c', l'⟩ 30000 := ⟨by rw [hst]; exact st_small hk.right hk.cnt tD, hl2, hl3⟩
 refine K.ret (fn := Tryz.f21) func21 (fun a w hk hs => resC results21 hk rfl ck_47 rfl (cP tM w hs)) (fun w hs => ?_)
 exact ⟨_, StL ⟨z.sz.next, q', c', l'⟩ ++ KsF s p k z, rfl, ⟨⟨z.sz.next, q', c', l'⟩, rfl, hst, hgd, rfl⟩, hs.fitD⟩
theorem rtOne_le {d : Dk} {w : Int} {p : Int × List UInt8} (h : rtOne d w = some p) : p.2.length ≤ 6144 := by
 unfold rtOne at h
 dsimp only at h
 split at h
 ·cases h
 ·rename_i hc
  cases h
  have h1 := Dk.spanGet_cut d (rtPlace (rtSize (d.read w)).1) (rtSize (d.read w)).2
  simp only [Bool.or_eq_true, decide_eq_true_eq, not_or] at hc
  have h2 : ¬ 6144 < (rtSize (d.read w)).2 := hc.1.1.2
  have h3 : ¬ (rtSize (d.read w)).2 < 0 := hc.1.1.1.2
  have h4 : Dk.cutN (rtSize (d.read w)).2 ≤ 6144 := by unfold Dk.cutN; omega
  show (d.spanGet _ _).length ≤ 6144
  omega
theorem rtB_le (d : Dk) : (rtB (rtRead d)).length ≤ 6144 := by
 have key : ∀ o : Option (Int × List UInt8), (∀ p, o = some p → p.2.length ≤ 6144) → (rtB o).length ≤ 6144 := fun o h => by
  cases o with
  | none => exact Nat.zero_le _
  | some p => exact h p rfl
 refine key _ (fun p hp => ?_)
 unfold rtRead at hp
 split at hp
 ·rename_i p1 h1
  split at hp
  ·cases hp; exact rtOne_le h1
  ·exact rtOne_le hp
 ·exact rtOne_le hp
theorem Sz.cap_of {s : Sz} (h : s.ok) : s.l.length ≤ s.c ∧ ∀ o ∈ s.l, o.cap := ⟨h.2.2.1, fun o ho => (h.2.2.2 o ho).2⟩
theorem none_of {α : Type} {o : Option α} (h : ¬ (if o.isSome = true then (0 : Int) else 11) = 0) : o = none := by
 rcases o with _ | x
 ·rfl
 ·exact absurd rfl h
theorem some_of {α : Type} {o : Option α} (h : ¬ ¬ (if o.isSome = true then (0 : Int) else 11) = 0) : ∃ x, o = some x := by
 rcases o with _ | x
 ·exact absurd (show (11 : Int) = 0 from Decidable.not_not.1 h) tD
 ·exact ⟨x, rfl⟩
theorem none_of' {α : Type} {o : Option α} (h : ¬ o.isSome = true) : o = none := by
 rcases o with _ | x
 ·rfl
 ·exact absurd rfl h
set_option maxHeartbeats 3200000 in
theorem ks_read (s p : Nat) (d : Dk) (hw : d.wf) (h354 : 354 ≤ d.len) : Fn Tryz.prog 42 [.pointer (some ⟨s, 0, none⟩)].toArray [pv s 97 (ksC (.pointer none) p ⟨0, none, 0, []⟩ 0 false), DkX p d]
  (fun r post => (r = .int .i64 11 ∧ post = [DkX p d] ∧ kRead d = none) ∨ ∃ k, ∃ z : KsI k, r = .int .i64 0 ∧ post = KsF s p k z ++ [DkX p d] ∧ kRead d = some k ∧ KsOk k) := by
 have hbl := rtB_le d
 have hfail : ∀ {w' : World} {ρ : World} {L : List HP}, kRead d = none → St ρ ([DkX p d] ++ L) w' → Post ρ L (fun r post => (r = .int .i64 11 ∧ post = [DkX p d] ∧ kRead d = none) ∨ ∃ k, ∃ z : KsI k, r = .int .i64 0 ∧ post = KsF s p k z ++ [DkX p d] ∧ kRead d = some k ∧ KsOk k) (.returned (.int .i64 11)) w' := fun hn hs => ⟨_, [DkX p d], rfl, .inl ⟨rfl, rfl, hn⟩, hs⟩
 refine Fn.enter (N := 75) func42 rfl ntmps42 tK rfl (fun ρ L => ?_)
 refine ky<|ka rfl<|kz<|km rfl<|kq (q_as_sz (l_ := []) (q_build st_47 rfl tF) rfl)<|kq (qN rfl)<|kq (qO fo_97_2 rfl)<|kN rfl (l_storeN ck_47 rfl rfl rfl (sz_one _) tP tSN) ?_
 rintro _ _ ⟨rfl, rfl⟩
 refine kz<|km rfl<|kq (qN rfl)<|kq (qO fo_97_1 rfl)<|kq (qD ck_25 rfl)<|kl (kc rfl (h := rt_Read p d hw)) ?_
 rintro _ _ ⟨_, ⟨qi, ci, rfl, rfl, hci⟩, rfl⟩
 refine km rfl<|kq (qX rfl rfl)<|kq (qX rfl rfl)<|kq (qX rfl rfl)<|ka rfl<|ka rfl<|ka rfl<|zm<|ke<|ky<|km rfl<|zm ?_
 refine K.via (ι := { x : Sz × Int // kStart d = some (x.1.st, x.2) ∧ x.1.st.right = true ∧ x.1.st.cnt ≤ 6144 ∧ x.1.l.length ≤ x.1.c ∧ ∀ o ∈ x.1.l, o.cap }) (I := fun x => ([(0, .pointer (some ⟨s, 0, none⟩))], pv s 97 (ksC (.pointer none) p x.1.1 x.1.2 false) :: StL x.1.1 ++ [DkX p d] ++ L)) (fun x => ?_) (fun cont => ?_)
 ·obtain ⟨⟨s0, e0⟩, hstart, hr0, hc0, hcp0⟩ := x
  dsimp only at hstart hr0 hc0 hcp0 ⊢
  refine ky<|km rfl<|kl (kc rfl (h := ks_begin s p d (.pointer none) s0 e0 false hw h354)) ?_
  rintro _ _ ⟨_, ⟨l, zl, rfl, rfl⟩, rfl⟩
  have hlgw := kBegin_wf hw e0
  have hkr : kRead d = (recsS s0.st (kBegin d e0).recs).map (fun t => ⟨t, e0, false, kBegin d e0⟩) := by unfold kRead; rw [hstart]
  have htot := hlgw.tot
  have hnxe := hlgw.nx
  have hend : (kBegin d e0).end_ ≤ 354 ∧ 194 ≤ (kBegin d e0).at_ := kBegin_at d e0
  generalize kBegin d e0 = g at hlgw hkr htot hnxe hend zl ⊢
  refine zm<|ke<|ky<|km rfl<|kq (qN rfl)<|kq (qO fo_97_0 rfl)<|kq (qD ck_95 rfl)<|kl (kc rfl (h := lg_Records l p g zl hlgw)) ?_
  rintro _ _ ⟨_, ⟨qr, cr, R, rfl, hR, hRc, rfl⟩, rfl⟩
  have hRl : R.length = g.recs.length := by rw [← hR, List.length_map]
  have hgl := hlgw.len
  refine kq (qG underlying80 rfl)<|km rfl<|zm<|kB ?_
  refine kX (ι := { x : Nat × Sz // x.1 ≤ R.length ∧ recsS s0.st g.recs = recsS x.2.st (g.recs.drop x.1) ∧ x.2.st.right = true ∧ x.2.st.cnt ≤ 6144 + ((g.recs.take x.1).map List.length).sum ∧ x.2.l.length ≤ x.2.c ∧ ∀ o ∈ x.2.l, o.cap }) (fun x => [(49, .int .i64 x.1.1), (48, .int .i64 R.length), (47, .slice qr R.length cr), (0, .pointer (some ⟨s, 0, none⟩))]) (fun x => pv s 97 (ksC (.pointer (some ⟨l, 0, none⟩)) p x.1.2 e0 false) :: LgF l p g zl ++ StL x.1.2 ++ [RowO Kd.sb 23 qr cr R, NestSl Kd.u8 R, DkX p d] ++ L) (fun x => R.length - x.1.1) ⟨(0, s0), Nat.zero_le _, rfl, hr0, by show s0.st.cnt ≤ 6144 + _; omega, hcp0⟩ tS (fun w h => h.fitD) (fun x ih => ?_)
  obtain ⟨⟨i, si⟩, hi, hrec, hri, hci2, hrm, hcpi⟩ := x
  dsimp only at hi hrec hri hci2 hrm hcpi ⊢
  have hbnd := sum_take_le (f := List.length) g.recs i
  have hgd : si.good 20000 := ⟨st_small hri tO tD, hrm, hcpi⟩
  refine ky<|kq (q_lt rfl rfl)<|zm<|ke ?_
  refine kD (s := 50) rfl (fun g50 => ?_) (fun g50 => ?_)
  ·obtain ⟨sl, hsl⟩ : ∃ sl, R[i]? = some sl := ⟨_, List.getElem?_eq_getElem tO⟩
   have hbr : g.recs[i]? = some sl.l := by rw [← hR, List.getElem?_map, hsl]; rfl
   have hbm := List.mem_of_getElem? hsl
   have hb26 := hlgw.sz _ (List.mem_of_getElem? hbr)
   have hdr : g.recs.drop i = sl.l :: g.recs.drop (i + 1) := by
    obtain ⟨h1, h2⟩ := List.getElem?_eq_some_iff.1 hbr
    rw [← h2, List.getElem_cons_drop h1]
   have hsum := sum_succ (f := List.length) hbr
   have hb2 := sum_take_le (f := List.length) g.recs (i + 1)
   rw [hdr] at hrec
   refine K.st (fun w h => nestSl_at (l := R) (s := sl) tM hbm h)<|za<|ke<|kB<|ky<|kq (q_ix (xs := R) i se_80 rfl rfl rfl isO tM rfl tO)<|kq (q_ldE (xs := R) (el := sl) ck_23 rfl isO tM hsl rfl)<|ka rfl<|kz<|km rfl<|kl (kc rfl (h := eff_Read sl.q sl.c sl.l tO)) ?_
   rintro _ _ ⟨_, ⟨qe, ce, rfl, rfl, hce⟩, rfl⟩
   refine km rfl<|kq (qX rfl rfl)<|kq (qX rfl rfl)<|ka rfl<|ka rfl<|zm<|ke<|ky<|km rfl<|kq (q_ne rfl rfl)<|zm ?_
   refine kD (s := 59) rfl (fun g59 => ?_) (fun g59 => ?_)
   ·have hkn : kRead d = none := by
     have h1 : effRead sl.l = none := none_of g59
     rw [hkr, hrec]; unfold recsS; rw [h1]; rfl
    refine ky<|ka rfl<|zm ?_
    refine kr1 func42 results42 rfl (fun w hs => ?_)
    exact hfail hkn (hs.fit (M := [DkX p d]) (L := L) tG (by repeat (first | exact Drop.refl | apply Drop.skip)))
   ·obtain ⟨es, hes⟩ : ∃ es, effRead sl.l = some es := some_of g59
    have hel := effRead_len hes
    rw [hes]
    dsimp only [Option.getD_some]
    have hac := apply_cnt si.st es
    refine za<|ky<|km rfl<|km rfl<|kq (qN rfl)<|kq (qO fo_97_2 rfl)<|kq (q_as_sz (l_ := si.l) (qL ck_47 rfl rfl (cells_pvAt tM rfl)) rfl)<|km rfl<|kl (kc rfl (h := st_Apply (RowF Kd.eff qe es) si 20000 qe ce es isF hgd tO)) ?_
    rintro _ _ ⟨_, ⟨s', rfl, hs1, rfl, hs2⟩, rfl⟩
    refine km rfl<|kq (qX rfl rfl)<|kq (qX rfl rfl)<|kq (qN rfl)<|kq (qO fo_97_2 rfl)<|kN rfl (l_storeN ck_47 rfl rfl rfl (sz_one _) tP tSN) ?_
    rintro _ _ ⟨rfl, rfl⟩
    refine ka rfl<|kz<|km rfl<|kq (q_ne rfl rfl)<|zm ?_
    refine kD (s := 73) rfl (fun g73 => ?_) (fun g73 => ?_)
    ·have hkn : kRead d = none := by rw [hkr, hrec]; unfold recsS; rw [hes]; dsimp only; rw [if_neg g73]; rfl
     refine ky<|ka rfl<|zm ?_
     refine kr1 func42 results42 rfl (fun w hs => ?_)
     exact hfail hkn (hs.fit (M := [DkX p d]) (L := L) tG (by repeat (first | exact Drop.refl | apply Drop.skip)))
    ·have h0 := Decidable.not_not.1 g73
     have har := apply_right h0
     have hrec2 : recsS s0.st g.recs = recsS s'.st (g.recs.drop (i + 1)) := by rw [hrec]; show (match effRead sl.l with | none => _ | some es => _) = _; rw [hes]; dsimp only; rw [if_pos h0, hs1]
     refine za<|zd<|kr<|kq (q_add rfl rfl tN tN)<|km rfl<|zm ?_
     exact K.weak tS (fun w h => h.fitD) (ih ⟨(i + 1, s'), by show i + 1 ≤ _; omega, hrec2, by show s'.st.right = true; rw [hs1]; exact har.2.1, by show s'.st.cnt ≤ _; rw [hs1]; show _ ≤ 6144 + ((g.recs.take (i + 1)).map List.length).sum; omega, hs2.room, hs2.cap⟩ (by show R.length - (i + 1) < R.length - i; omega))
  ·obtain rfl : i = R.length := by omega
   have hkf : kRead d = some ⟨si.st, e0, false, g⟩ := by rw [hkr, hrec, hRl, List.drop_length]; rfl
   clear ih
   refine K.exit rfl<|ky<|ka rfl<|zm ?_
   refine kr1 func42 results42 rfl (fun w hs => ?_)
   exact ⟨_, KsF s p ⟨si.st, e0, false, g⟩ ⟨l, zl, si, rfl, hrm, hcpi⟩ ++ [DkX p d], rfl, .inr ⟨_, _, rfl, rfl, hkf, ⟨hri, by show si.st.cnt ≤ 30000; omega, hlgw⟩⟩, hs.fitD⟩
 ·first | refine kD (s := 25) rfl (fun g25 => ?_) (fun g25 => ?_) | refine kT (s := 25) rfl (fun g25 => ?_) (fun g25 => ?_)
  ·obtain ⟨pr, hpr⟩ : ∃ pr, rtRead d = some pr := Option.isSome_iff_exists.1 g25
   have hEe : rtE (rtRead d) = pr.1 := by rw [hpr]; rfl
   have hBe : rtB (rtRead d) = pr.2 := by rw [hpr]; rfl
   refine ky<|km rfl<|kl (kc rfl (h := im_Read qi ci (rtB (rtRead d)) tO)) ?_
   rintro _ _ ⟨_, ⟨sz, rfl, rfl, hok, hfew, hst⟩, rfl⟩
   refine km rfl<|kq (qX rfl rfl)<|kq (qX rfl rfl)<|kl (lL zo_47) ?_
   rintro _ _ ⟨b6, rfl, rfl⟩
   refine kN rfl (lS ck_47 rfl rfl ⟨rfl, rfl⟩ (sz_one _) tP) ?_
   rintro _ _ ⟨rfl, rfl⟩
   refine ka rfl<|zm<|ke<|ky<|km rfl<|kq (q_ne rfl rfl)<|zm ?_
   refine kD (s := 32) rfl (fun g32 => ?_) (fun g32 => ?_)
   ·have hkn : kRead d = none := by
     have h1 : imgRead pr.2 = none := by rw [← hBe]; exact none_of g32
     unfold kRead kStart; rw [hpr]; dsimp only; rw [h1]; rfl
    refine ky<|ka rfl<|zm ?_
    refine kr1 func42 results42 rfl (fun w hs => ?_)
    exact hfail hkn (hs.fit (M := [DkX p d]) (L := L) tG (by repeat (first | exact Drop.refl | apply Drop.skip)))
   ·obtain ⟨x, hx⟩ : ∃ x, imgRead pr.2 = some x := by rw [hBe] at g32; exact some_of g32
    have hszx : sz.st = x := by rw [hst, hBe, hx]; rfl
    have hstart : kStart d = some (sz.st, rtE (rtRead d)) := by unfold kStart; rw [hpr]; dsimp only; rw [hx, hszx]; rfl
    have hcan := imgRead_can hx
    have hr0 : sz.st.right = true := by rw [hszx]; exact hcan.2
    have hc0 : sz.st.cnt ≤ 6144 := by
     have h1 := cnt_bytes x
     rw [← hcan.1, ← hBe] at h1
     rw [hszx]; omega
    refine za<|kr<|km rfl<|km rfl<|kq (q_as_sz (l_ := sz.l) (qL ck_47 rfl rfl tC) rfl)<|km rfl<|kq (qN rfl)<|kq (qO fo_97_2 rfl)<|kN rfl (l_storeN ck_47 rfl rfl rfl (sz_one _) tP tSN) ?_
    rintro _ _ ⟨rfl, rfl⟩
    refine kq (qN rfl)<|kq (qO fo_97_3 rfl)<|kN rfl (lA ck_3 rfl rfl rfl tP tA) ?_
    rintro _ _ ⟨rfl, rfl⟩
    refine zm ?_
    exact K.weak tS (fun w h => h.fitD) (cont ⟨(sz, rtE (rtRead d)), hstart, hr0, hc0, Sz.cap_of hok⟩)
  ·refine za ?_
   have hpr : rtRead d = none := none_of' (by rw [g25]; decide)
   have hstart : kStart d = some (Sz.st ⟨1, none, 0, []⟩, 0) := by unfold kStart; rw [hpr]; rfl
   refine K.st (fun w h => nestF_nil (rowF_nilA (k := Kd.oz) h)) ?_
   exact K.weak tS (fun w h => h.fitD) (cont ⟨(⟨1, none, 0, []⟩, 0), hstart, init_right, Nat.zero_le _, Nat.le_refl _, fun o ho => by cases ho⟩)
theorem kRenew_err (k : Ks) (d : Dk) : (kRenew k d).1 = 0 ∨ (kRenew k d).1 = 12 := by
 unfold kRenew
 dsimp only
 split
 ·exact .inl rfl
 ·exact .inr rfl
theorem claims_cnt (s : Stt) : (claimsS s).length ≤ s.cnt := by
 refine claims_len s ?_
 unfold Stt.cnt
 have key : ∀ l : List Ob, (l.map (fun o => o.msgs.length)).sum ≤ (l.map Ob.cnt).sum := fun l => by
  induction l with
  | nil => exact Nat.le_refl _
  | cons o l ih =>
   have : o.msgs.length ≤ o.cnt := by unfold Ob.cnt; omega
   simp only [List.map_cons, List.sum_cons]; omega
 exact key _
theorem freed_cnt (s : Stt) : Stt.cnt ⟨s.next, s.objs.map freedO⟩ = s.cnt := by
 unfold Stt.cnt
 dsimp only
 rw [List.map_map]
 congr 1
 refine List.map_congr_left (fun o _ => ?_)
 have := freedO_len o
 show (freedO o).cnt = o.cnt
 unfold Ob.cnt
 have hr : (freedO o).rows = o.rows := rfl
 rw [hr]; omega
theorem ks_Need : Fn Tryz.prog 23 ([] : List Value).toArray [] (fun r post => r = .int .i64 354 ∧ post = []) := by
 refine Fn.enter (N := 3) func23 rfl ntmps23 tK rfl (fun ρ L => ?_)
 refine ky<|ka rfl<|kz<|kl (kc rfl (h := rt_Need)) ?_
 rintro _ _ ⟨_, ⟨rfl, rfl⟩, rfl⟩
 refine kq (q_add rfl rfl tN tN)<|ka rfl<|zm ?_
 refine kr1 func23 results23 rfl (fun w hs => ?_)
 exact ⟨_, [], rfl, ⟨rfl, rfl⟩, hs.fitD⟩
def OpenP (p : Nat) (d : Dk) (r : Value) (post : List HP) : Prop :=
 (¬ (kOpen d).1 = 0 ∧ r = .tuple #[.pointer none, .int .i64 (kOpen d).1] ∧ post = [DkX p (kOpen d).2.2]) ∨
 ((kOpen d).1 = 0 ∧ KsOk (kOpen d).2.1 ∧ ∃ s, ∃ z : KsI (kOpen d).2.1, r = .tuple #[.pointer (some ⟨s, 0, none⟩), .int .i64 0] ∧ post = KsF s p (kOpen d).2.1 z ++ [DkX p (kOpen d).2.2])
theorem ks_read_none (s p : Nat) (d : Dk) (hw : d.wf) (h354 : 354 ≤ d.len) (h : kRead d = none) : Fn Tryz.prog 42 [.pointer (some ⟨s, 0, none⟩)].toArray [pv s 97 (ksC (.pointer none) p ⟨0, none, 0, []⟩ 0 false), DkX p d]
  (fun r post => r = .int .i64 11 ∧ post = [DkX p d]) :=
 (ks_read s p d hw h354).mono fun r post hp => by
  rcases hp with ⟨h1, h2, _⟩ | ⟨k, z, _, _, h3, _⟩
  ·exact ⟨h1, h2⟩
  ·rw [h] at h3; cases h3
theorem ks_read_some (s p : Nat) (d : Dk) (hw : d.wf) (h354 : 354 ≤ d.len) {k : Ks} (h : kRead d = some k) : Fn Tryz.prog 42 [.pointer (some ⟨s, 0, none⟩)].toArray [pv s 97 (ksC (.pointer none) p ⟨0, none, 0, []⟩ 0 false), DkX p d]
  (fun r post => ∃ z : KsI k, r = .int .i64 0 ∧ post = KsF s p k z ++ [DkX p d] ∧ KsOk k) :=
 (ks_read s p d hw h354).mono fun r post hp => by
  rcases hp with ⟨_, _, h3⟩ | ⟨k', z, h1, h2, h3, h4⟩
  ·rw [h] at h3; cases h3
  ·rw [h] at h3; cases h3; exact ⟨z, h1, h2, h4⟩
theorem ks_Open_none (p : Nat) (d : Dk) (hw : d.wf) (h354 : 354 ≤ d.len) (h : kRead d = none) : Fn Tryz.prog 17 [.pointer (some ⟨p, 0, none⟩)].toArray [DkX p d] (OpenP p d) := by
 have hr : kOpen d = (11, ⟨⟨0, []⟩, 0, false, ⟨0, 0, 0, 0, [], false⟩⟩, d) := by unfold kOpen; rw [h]
 refine Fn.enter (N := 57) func17 rfl ntmps17 tK rfl (fun ρ L => ?_)
 refine ky<|ka rfl<|ka rfl<|zm<|ke<|ky<|km rfl<|kl (kc rfl (h := dk_Len _ _)) ?_
 rintro _ _ ⟨_, ⟨rfl, rfl⟩, rfl⟩
 refine kl (kc rfl (h := ks_Need)) ?_
 rintro _ _ ⟨_, ⟨rfl, rfl⟩, rfl⟩
 refine kq (q_lt rfl rfl)<|zm ?_
 refine kD (s := 12) rfl (fun g12 => ?_) (fun g12 => ?_)
 ·omega
 ·refine za<|ky<|km rfl<|kq (q_build st_97 rfl tF)<|kl (l_box rfl rfl) ?_
  rintro _ _ ⟨b15, rfl, rfl⟩
  refine ka rfl<|zm<|ke<|ky<|km rfl<|kl (kc rfl (h := ks_read_none b15 p d hw h354 h)) ?_
  rintro _ _ ⟨_, ⟨rfl, rfl⟩, rfl⟩
  refine ka rfl<|kz<|km rfl<|kq (q_ne rfl rfl)<|zm ?_
  refine kD (s := 19) rfl (fun g19 => ?_) (fun g19 => ?_)
  ·refine ky<|km rfl<|ka rfl<|ka rfl<|zm ?_
   refine kr2 func17 results17 rfl rfl (fun w hs => ?_)
   exact ⟨_, [DkX p d], rfl, .inl ⟨by rw [hr]; show ¬ (11 : Int) = 0; decide, by rw [hr], by rw [hr]⟩, hs.fitD⟩
  ·exact absurd g19 tD
set_option maxHeartbeats 1600000 in
theorem ks_Open_some (p : Nat) (d : Dk) (hw : d.wf) (h354 : 354 ≤ d.len) (hc : d.cnt ≤ 60000000) {k : Ks} (h : kRead d = some k) : Fn Tryz.prog 17 [.pointer (some ⟨p, 0, none⟩)].toArray [DkX p d] (OpenP p d) := by
 have hr0 : kOpen d = if claimsS k.st = [] ∧ 0 < k.epoch then (0, k, d) else if (applyS k.st (claimsS k.st)).2 = 0 then kRenew { k with st := (applyS k.st (claimsS k.st)).1 } d else (11, k, d) := by unfold kOpen; rw [h]
 refine Fn.enter (N := 57) func17 rfl ntmps17 tK rfl (fun ρ L => ?_)
 refine ky<|ka rfl<|ka rfl<|zm<|ke<|ky<|km rfl<|kl (kc rfl (h := dk_Len _ _)) ?_
 rintro _ _ ⟨_, ⟨rfl, rfl⟩, rfl⟩
 refine kl (kc rfl (h := ks_Need)) ?_
 rintro _ _ ⟨_, ⟨rfl, rfl⟩, rfl⟩
 refine kq (q_lt rfl rfl)<|zm ?_
 refine kD (s := 12) rfl (fun g12 => ?_) (fun g12 => ?_)
 ·omega
 ·refine za<|ky<|km rfl<|kq (q_build st_97 rfl tF)<|kl (l_box rfl rfl) ?_
  rintro _ _ ⟨b15, rfl, rfl⟩
  refine ka rfl<|zm<|ke<|ky<|km rfl<|kl (kc rfl (h := ks_read_some b15 p d hw h354 h)) ?_
  rintro _ _ ⟨_, ⟨z, rfl, rfl, hk⟩, rfl⟩
  refine ka rfl<|kz<|km rfl<|kq (q_ne rfl rfl)<|zm ?_
  refine kD (s := 19) rfl (fun g19 => ?_) (fun g19 => ?_)
  ·exact absurd g19 tD
  ·have hcl := claims_cnt k.st
   have hk30 := hk.cnt
   have hg := z.good hk
   have hcl2 : (claimsS z.sz.st).length ≤ 100000000 := by rw [z.hs]; omega
   have hap := apply_claims hk.right
   have hap0 : (applyS k.st (claimsS k.st)).2 = 0 := by rw [hap]
   have hapr := (apply_right hap0).2.1
   have hapc : (applyS k.st (claimsS k.st)).1.cnt ≤ 30000 := by rw [hap]; show Stt.cnt ⟨_, _⟩ ≤ _; rw [freed_cnt]; exact hk30
   have hk2 : KsOk { k with st := (applyS k.st (claimsS k.st)).1 } := ⟨hapr, hapc, hk.lg⟩
   refine za<|ky<|km rfl<|kq (qN rfl)<|kq (qO fo_97_2 rfl)<|kq (q_as_sz (l_ := z.sz.l) (qL ck_47 rfl rfl (cells_pvAt tM rfl)) rfl)<|kl (kc rfl (h := st_Claims z.sz 30000 hg hcl2 tD)) ?_
   rintro _ _ ⟨_, ⟨qc, cc, rfl, rfl⟩, rfl⟩
   rw [z.hs]
   refine ka rfl<|zm<|ke<|ky<|km rfl<|kq (qG underlying64 rfl)<|kq (q_eq rfl rfl)<|km rfl ?_
   refine KO.dsplit 29 rfl (fun g29 => ?_) (fun g29 => ?_)
   ·refine km rfl<|kq (qN rfl)<|kq (qO fo_97_3 rfl)<|kq (qD ck_3 rfl)<|kq (q_gt rfl rfl)<|kq (qT rfl rfl)<|zm ?_
    refine kD (s := 35) rfl (fun g35 => ?_) (fun g35 => ?_)
    ·have hcn : claimsS k.st = [] := List.length_eq_zero_iff.1 tO
     have hr : kOpen d = (0, k, d) := by rw [hr0, if_pos ⟨hcn, g35⟩]
     refine ky<|km rfl<|ka rfl<|ka rfl<|zm ?_
     refine kr2 func17 results17 rfl rfl (fun w hs => ?_)
     unfold OpenP; rw [hr]
     exact ⟨_, KsF b15 p k z ++ [DkX p d], rfl, .inr ⟨rfl, hk, b15, z, rfl, rfl⟩, hs.fitD⟩
    ·have hr : kOpen d = kRenew { k with st := (applyS k.st (claimsS k.st)).1 } d := by rw [hr0, if_neg (fun hh => g35 hh.2), if_pos hap0]
     refine za<|ky<|ka rfl<|zm<|ke<|ky<|km rfl<|km rfl<|kq (qN rfl)<|kq (qO fo_97_2 rfl)<|kq (q_as_sz (l_ := z.sz.l) (qL ck_47 rfl rfl (cells_pvAt tM rfl)) rfl)<|km rfl<|kl (kc rfl (h := st_Apply (RowO Kd.eff 58 qc cc (claimsS k.st)) z.sz 30000 qc cc (claimsS k.st) isO hg tO)) ?_
     rintro _ _ ⟨_, ⟨s', rfl, hs1, rfl, hs2⟩, rfl⟩
     rw [z.hs] at hs1 ⊢
     refine km rfl<|kq (qX rfl rfl)<|kq (qX rfl rfl)<|kq (qN rfl)<|kq (qO fo_97_2 rfl)<|kN rfl (l_storeN ck_47 rfl rfl rfl (sz_one _) tP tSN) ?_
     rintro _ _ ⟨rfl, rfl⟩
     refine ka rfl<|kz<|km rfl<|kq (q_ne rfl rfl)<|zm ?_
     refine kD (s := 50) rfl (fun g50 => ?_) (fun g50 => ?_)
     ·exact absurd hap0 g50
     ·refine za<|ke<|ky<|km rfl<|kl (kc rfl (h := ks_renew b15 p d { k with st := (applyS k.st (claimsS k.st)).1 } ⟨z.l, z.zl, s', hs1, hs2.room, hs2.cap⟩ hk2 hw h354 tO)) ?_
      rintro _ _ ⟨_, ⟨z2, rfl, rfl⟩, rfl⟩
      refine ka rfl<|kz<|km rfl<|kq (q_ne rfl rfl)<|zm ?_
      refine kD (s := 54) rfl (fun g54 => ?_) (fun g54 => ?_)
      ·have he := (kRenew_err { k with st := (applyS k.st (claimsS k.st)).1 } d).resolve_left g54
       refine ky<|km rfl<|ka rfl<|ka rfl<|zm ?_
       refine kr2 func17 results17 rfl rfl (fun w hs => ?_)
       unfold OpenP; rw [hr]
       exact ⟨_, [DkX p (kRenew { k with st := (applyS k.st (claimsS k.st)).1 } d).2.2], rfl, .inl ⟨g54, rfl, rfl⟩, hs.fitD⟩
      ·have hok3 := kRenew_ok (d := d) hk2 hw
       refine za<|ky<|km rfl<|ka rfl<|ka rfl<|zm ?_
       refine kr2 func17 results17 rfl rfl (fun w hs => ?_)
       unfold OpenP; rw [hr]
       exact ⟨_, KsF b15 p (kRenew { k with st := (applyS k.st (claimsS k.st)).1 } d).2.1 z2 ++ [DkX p (kRenew { k with st := (applyS k.st (claimsS k.st)).1 } d).2.2], rfl, .inr ⟨Decidable.not_not.1 g54, hok3, b15, z2, rfl, rfl⟩, hs.fitD⟩
   ·have hr : kOpen d = kRenew { k with st := (applyS k.st (claimsS k.st)).1 } d := by rw [hr0, if_neg (fun hh => g29 (by rw [hh.1]; rfl)), if_pos hap0]
    refine zq<|zq<|zq<|zq<|zq<|kq (qF rfl rfl)<|zm<|K.no rfl<|za<|ky<|ka rfl<|zm<|ke<|ky<|km rfl<|km rfl<|kq (qN rfl)<|kq (qO fo_97_2 rfl)<|kq (q_as_sz (l_ := z.sz.l) (qL ck_47 rfl rfl (cells_pvAt tM rfl)) rfl)<|km rfl<|kl (kc rfl (h := st_Apply (RowO Kd.eff 58 qc cc (claimsS k.st)) z.sz 30000 qc cc (claimsS k.st) isO hg tO)) ?_
    rintro _ _ ⟨_, ⟨s', rfl, hs1, rfl, hs2⟩, rfl⟩
    rw [z.hs] at hs1 ⊢
    refine km rfl<|kq (qX rfl rfl)<|kq (qX rfl rfl)<|kq (qN rfl)<|kq (qO fo_97_2 rfl)<|kN rfl (l_storeN ck_47 rfl rfl rfl (sz_one _) tP tSN) ?_
    rintro _ _ ⟨rfl, rfl⟩
    refine ka rfl<|kz<|km rfl<|kq (q_ne rfl rfl)<|zm ?_
    refine kD (s := 50) rfl (fun g50 => ?_) (fun g50 => ?_)
    ·exact absurd hap0 g50
    ·refine za<|ke<|ky<|km rfl<|kl (kc rfl (h := ks_renew b15 p d { k with st := (applyS k.st (claimsS k.st)).1 } ⟨z.l, z.zl, s', hs1, hs2.room, hs2.cap⟩ hk2 hw h354 tO)) ?_
     rintro _ _ ⟨_, ⟨z2, rfl, rfl⟩, rfl⟩
     refine ka rfl<|kz<|km rfl<|kq (q_ne rfl rfl)<|zm ?_
     refine kD (s := 54) rfl (fun g54 => ?_) (fun g54 => ?_)
     ·have he := (kRenew_err { k with st := (applyS k.st (claimsS k.st)).1 } d).resolve_left g54
      refine ky<|km rfl<|ka rfl<|ka rfl<|zm ?_
      refine kr2 func17 results17 rfl rfl (fun w hs => ?_)
      unfold OpenP; rw [hr]
      exact ⟨_, [DkX p (kRenew { k with st := (applyS k.st (claimsS k.st)).1 } d).2.2], rfl, .inl ⟨g54, rfl, rfl⟩, hs.fitD⟩
     ·have hok3 := kRenew_ok (d := d) hk2 hw
      refine za<|ky<|km rfl<|ka rfl<|ka rfl<|zm ?_
      refine kr2 func17 results17 rfl rfl (fun w hs => ?_)
      unfold OpenP; rw [hr]
      exact ⟨_, KsF b15 p (kRenew { k with st := (applyS k.st (claimsS k.st)).1 } d).2.1 z2 ++ [DkX p (kRenew { k with st := (applyS k.st (claimsS k.st)).1 } d).2.2], rfl, .inr ⟨Decidable.not_not.1 g54, hok3, b15, z2, rfl, rfl⟩, hs.fitD⟩
theorem ks_OpenF (p : Nat) (d : Dk) (hw : d.wf) (h354 : 354 ≤ d.len) (hc : d.cnt ≤ 60000000) : Fn Tryz.prog 17 [.pointer (some ⟨p, 0, none⟩)].toArray [DkX p d] (OpenP p d) := by
 rcases h : kRead d with _ | k
 ·exact ks_Open_none p d hw h354 h
 ·exact ks_Open_some p d hw h354 hc h
def ksI0 (k : Ks) : KsI k := ⟨0, lgI0 k.lg, ⟨k.st.next, none, k.st.objs.length, k.st.objs.map (fun o => ⟨o, ⟨none, o.rows.length, none, o.msgs.length, none, o.dead.length⟩⟩)⟩, by
  unfold Sz.st
  dsimp only
  rw [List.map_map]
  exact congrArg (Stt.mk k.st.next) (List.map_id' _), by show (k.st.objs.map _).length ≤ _; rw [List.length_map]; exact Nat.le_refl _, fun o ho => by
  obtain ⟨x, _, rfl⟩ := List.mem_map.1 ho
  exact ⟨Nat.le_refl _, Nat.le_refl _, Nat.le_refl _⟩⟩
theorem ks_EpochX (s p : Nat) (k : Ks) : Fn Tryz.prog 22 [.pointer (some ⟨s, 0, none⟩)].toArray [KsX s p k] (fun r post => r = .int .i64 k.epoch ∧ post = [KsX s p k]) :=
 (Fn.exPre (M0 := []) (ksI0 k) (fun z => (ks_Epoch s p k z).conv (fun _ _ _ h => h) (fun r post h => ⟨[KsX s p k], ⟨h.1, rfl⟩, fun ρ L w hs => by rw [h.2] at hs; exact St.exI z hs⟩)))
theorem ks_StateX (s p : Nat) (k : Ks) (hk : KsOk k) : Fn Tryz.prog 21 [.pointer (some ⟨s, 0, none⟩)].toArray [KsX s p k] (fun r post => ∃ s' : Sz, r = .agg s'.cells.toArray ∧ s'.st = k.st ∧ s'.good 30000 ∧ post = StL s' ++ [KsX s p k]) :=
 (Fn.exPre (M0 := []) (ksI0 k) (fun z => (ks_State s p k z hk).conv (fun _ _ _ h => h) (fun r post ⟨s', h1, h2, h3, h4⟩ => ⟨StL s' ++ [KsX s p k], ⟨s', h1, h2, h3, rfl⟩, fun ρ L w hs => by
  subst h4
  exact (St.exMid (M := StL s') (f := KsF s p k) z hs)⟩)))
theorem ks_DoX (s p : Nat) (d : Dk) (k : Ks) (q : Option Addr) (c : Nat) (l : List Eff) (hk : KsOk k) (hw : d.wf) (h354 : 354 ≤ d.len) (hc : d.cnt ≤ 60000000) (hl : l.length ≤ 10000) : Fn Tryz.prog 24 [.pointer (some ⟨s, 0, none⟩), .slice q l.length c].toArray [RowF Kd.eff q l, DkX p d, KsX s p k]
  (fun r post => r = .int .i64 (kDo k l d).1 ∧ post = [DkX p (kDo k l d).2.2, KsX s p (kDo k l d).2.1]) :=
 Fn.exPre (M0 := [RowF Kd.eff q l, DkX p d]) (ksI0 k) (fun z => (ks_Do s p d k z q c l hk hw h354 hc hl).conv (fun ρ L w h => h.fitD) (fun r post ⟨z', h1, h2⟩ => ⟨[DkX p (kDo k l d).2.2, KsX s p (kDo k l d).2.1], ⟨h1, rfl⟩, fun ρ L w hs => by
  subst h2
  have hs : St ρ ((DkX p (kDo k l d).2.2 :: KsF s p (kDo k l d).2.1 z') ++ L) w := hs.fitD
  exact St.exMid (M := [DkX p (kDo k l d).2.2]) (f := KsF s p (kDo k l d).2.1) z' hs⟩))
def OpenX (p : Nat) (d : Dk) (r : Value) (post : List HP) : Prop :=
 (¬ (kOpen d).1 = 0 ∧ r = .tuple #[.pointer none, .int .i64 (kOpen d).1] ∧ post = [DkX p (kOpen d).2.2]) ∨
 ((kOpen d).1 = 0 ∧ KsOk (kOpen d).2.1 ∧ ∃ s, r = .tuple #[.pointer (some ⟨s, 0, none⟩), .int .i64 0] ∧ post = [DkX p (kOpen d).2.2, KsX s p (kOpen d).2.1])
theorem ks_OpenX (p : Nat) (d : Dk) (hw : d.wf) (h354 : 354 ≤ d.len) (hc : d.cnt ≤ 60000000) : Fn Tryz.prog 17 [.pointer (some ⟨p, 0, none⟩)].toArray [DkX p d] (OpenX p d) :=
 (ks_OpenF p d hw h354 hc).conv (fun _ _ _ h => h) (fun r post hp => by
  rcases hp with ⟨h1, h2, h3⟩ | ⟨h1, h2, s, z, h3, h4⟩
  ·exact ⟨post, .inl ⟨h1, h2, h3⟩, fun _ _ _ h => h⟩
  ·refine ⟨[DkX p (kOpen d).2.2, KsX s p (kOpen d).2.1], .inr ⟨h1, h2, s, h3, rfl⟩, fun ρ L w hs => ?_⟩
   subst h4
   have hs : St ρ ((DkX p (kOpen d).2.2 :: KsF s p (kOpen d).2.1 z) ++ L) w := hs.fitD
   exact St.exMid (M := [DkX p (kOpen d).2.2]) (f := KsF s p (kOpen d).2.1) z hs)
theorem ks_OpenG (p : Nat) (d : Dk) (hw : d.wf) (h354 : 354 ≤ d.len) (hc : d.cnt ≤ 60000000) (h0 : (kOpen d).1 = 0) : Fn Tryz.prog 17 [.pointer (some ⟨p, 0, none⟩)].toArray [DkX p d] (fun r post => ∃ s, r = .tuple #[.pointer (some ⟨s, 0, none⟩), .int .i64 0] ∧ post = [DkX p (kOpen d).2.2, KsX s p (kOpen d).2.1]) :=
 (ks_OpenX p d hw h354 hc).mono fun r post hp => by
  rcases hp with ⟨h1, _⟩ | ⟨_, _, s, h3, h4⟩
  ·exact absurd h0 h1
  ·exact ⟨s, h3, h4⟩
end Go.Proofs.YtkbhldicnamcdaaGreat.L
namespace Go.Proofs.YtkbhldicnamcdaaGreat.L
open Go
theorem len_now {d d' : Dk} (h : d'.now = d.now) : d'.len = d.len := by rw [← Dk.now_len, ← Dk.now_len, h]
theorem IC.congr {k : Ks} {d d' : Dk} (h : IC k d) (hn : d'.now = d.now) : IC k d' := h.agree (len_now hn) (fun j _ => read_agree (len_now hn) (fun i _ => by rw [hn]))
theorem IC.only {k : Ks} {d d' : Dk} {R : Nat → Prop} (h : IC k d) (hl : d.l = []) (ho : Only R d d') (hlen : d'.len = d.len) (hR : ∀ i : Nat, R i → ¬ Dep k (i : Int)) : IC k d' :=
 h.agree hlen (fun j hj => read_agree hlen (fun i hi => ho.now hl (fun hr => hR i hr (hi ▸ hj))))
theorem IC.onlyC {k : Ks} {d d' : Dk} {R : Nat → Prop} (h : IC k d) (hl : d.l = []) (ho : Only R d d') (hlen : d'.len = d.len) (hR : ∀ i : Nat, R i → ¬ Dep k (i : Int)) (keep : List Bool) : IC k (d'.crash keep) :=
 h.agree ((Dk.crash_len _ _).trans hlen) (fun j hj => read_agree ((Dk.crash_len _ _).trans hlen) (fun i hi => ho.crash hl keep (fun hr => hR i hr (hi ▸ hj))))
theorem sync_yes {d : Dk} (h : d.sync.1 = true) : d.sync.2 = ⟨d.now, [], d.lim, d.cnt⟩ := by
 unfold Dk.sync at h ⊢
 split at h
 ·cases h
 ·rename_i ho; rw [if_neg ho]
theorem sync_no {d : Dk} (h : d.sync.1 = false) : d.sync.2 = d := by
 unfold Dk.sync at h ⊢
 split at h
 ·rename_i ho; rw [if_pos ho]
 ·cases h
theorem write_fail {d : Dk} {i : Int} {b : Sec} (h : (d.write i b).1 = false) : (d.write i b).2 = d := by
 unfold Dk.write at h ⊢
 split at h
 ·cases h
 ·rename_i ho; rw [if_neg ho]
theorem write_done {d : Dk} {i : Int} {b : Sec} (h : (d.write i b).1 = true) : (d.write i b).2 = d.put i.toNat b := by
 unfold Dk.write at h ⊢
 split at h
 ·rename_i ho; rw [if_pos ho]
 ·cases h
theorem crash_clean {d : Dk} (h : d.l = []) (keep : List Bool) : (d.crash keep).now = d.now := by
 show laid d.sure (Dk.stay d.l keep) = laid d.sure d.l
 rw [h]; rfl
theorem crash_one {d : Dk} {w : Nat × Sec} (h : d.l = [w]) (keep : List Bool) : (d.crash keep).now = d.now ∨ (d.crash keep).now = d.sure := by
 show laid d.sure (Dk.stay d.l keep) = laid d.sure d.l ∨ laid d.sure (Dk.stay d.l keep) = d.sure
 rw [h]
 have e : Dk.stay [w] keep = if keep.getD 0 false = true then [w] else [] := by
  unfold Dk.stay
  simp only [List.zipIdx_cons, List.zipIdx_nil, List.filter_cons, List.filter_nil]
  split <;> rfl
 rw [e]
 split
 ·exact .inl rfl
 ·exact .inr rfl
theorem write_free {d : Dk} {i : Int} {b : Sec} (hl : d.lim = none) (hi : 0 ≤ i ∧ i < (d.len : Int)) (hb : b.length = 64) : (d.write i b).1 = true ∧ (d.write i b).2.lim = none := by
 unfold Dk.write
 rw [if_pos (by unfold Dk.may Dk.off; rw [hl]; simp [hi, hb])]
 exact ⟨rfl, by show d.lim.map Nat.pred = none; rw [hl]; rfl⟩
theorem sync_free {d : Dk} (hl : d.lim = none) : d.sync.1 = true ∧ d.sync.2.lim = none := by
 unfold Dk.sync Dk.off
 rw [if_neg (by rw [hl]; simp)]
 exact ⟨rfl, hl⟩
theorem puts_free : ∀ {l : List Sec} {d : Dk} {i : Int}, d.lim = none → 0 ≤ i → i + l.length ≤ (d.len : Int) → (∀ s ∈ l, s.length = 64) → (d.puts i l).1 = true ∧ (d.puts i l).2.lim = none
 | [], _, _, h, _, _, _ => ⟨rfl, h⟩
 | s :: l, d, i, h, h0, h1, hs => by
  rw [List.length_cons] at h1
  obtain ⟨w1, w2⟩ := write_free h ⟨h0, by omega⟩ (hs s List.mem_cons_self)
  rw [Dk.puts_cons, if_pos w1]
  exact puts_free w2 tO (by rw [Dk.write_len]; omega) (fun x hx => hs x (List.mem_cons_of_mem _ hx))
theorem spanPut_free {d : Dk} {i : Int} {b : List UInt8} (hl : d.lim = none) (h0 : 0 ≤ i) (h1 : i + need b.length ≤ (d.len : Int)) : (d.spanPut i b).1 = true ∧ (d.spanPut i b).2.lim = none := by
 have hn := need_nn (b.length : Int)
 unfold Dk.spanPut
 split
 ·exact ⟨rfl, hl⟩
 ·rw [if_pos (by unfold Dk.lies; simp only [Bool.and_eq_true, decide_eq_true_eq]; omega)]
  exact puts_free hl h0 (by rw [secsOf_len]; omega) (secsOf_all b)
structure Live (k : Ks) (d : Dk) : Prop where
 ic : IC k d
 l : d.l = []
 wf : d.wf
theorem Live.ok {k : Ks} {d : Dk} (h : Live k d) : KsOk k := kRead_ok h.wf h.ic.rd
theorem Live.crash {k : Ks} {d : Dk} (h : Live k d) (keep : List Bool) : Live k (d.crash keep) := ⟨h.ic.congr (crash_clean h.l keep), rfl, h.wf.crash keep⟩
theorem IC.lg {k : Ks} {d : Dk} (h : IC k d) : k.lg.at_ = 194 ∧ k.lg.end_ = 354 ∧ k.lg.epoch = k.epoch ∧ k.lg.failed = false ∧ k.dead = false ∧ 194 ≤ k.lg.next := by
 obtain ⟨b, s0, h1, h2, h3, h4, h5⟩ := (kRead_iff h.ep).1 h.rd
 have hb := kBegin_eq d k.epoch
 have hn := kBegin_next d k.epoch
 rw [← h3] at hb hn
 exact ⟨hb.1, hb.2.1, hb.2.2.1, hb.2.2.2, h5, hn⟩
def renewed (s' : Stt) (E : Int) : Ks := ⟨s', E, false, ⟨194, 354, 194, E, [], false⟩⟩
theorem img_ok {s : Stt} (hr : s.right = true) (hz : s.size ≤ 6144) : (imgBytes s).length ≤ 6144 ∧ imgRead (imgBytes s) = some s := by
 have he : imgBytes s = s.bytes := if_pos hr
 have hl := bytes_le_size s
 have hs := right_SR hr
 have hc := cnt_size s
 rw [he]
 refine ⟨by omega, ?_⟩
 have := imgRead_bytes hr (by have := hs.nx; omega) (by have := hs.len; omega) (fun o ho => ob_sm (hs.obj o ho) (by have := cnt_mem ho; omega)) []
 rw [List.append_nil, if_pos rfl] at this
 exact this
theorem bit0_succ (e : Int) : bit0 (e + 1) = 1 - bit0 e := by unfold bit0; omega
theorem need_96 {n : Int} (h : n ≤ 6144) : need n ≤ 96 := by
 by_cases hz : n < 1
 ·unfold need; rw [if_pos hz]; decide
 ·rw [need_pos tO]; omega
theorem rtLay_spec {k : Ks} {d : Dk} {s' : Stt} (h : Live k d) (hr : s'.right = true) (hz : s'.size ≤ 6144) (hE : k.epoch + 1 ≤ top) :
  ((rtLay (k.epoch + 1) (imgBytes s') d).1 = true → Live (renewed s' (k.epoch + 1)) (rtLay (k.epoch + 1) (imgBytes s') d).2) ∧
  (∀ keep, IC k ((rtLay (k.epoch + 1) (imgBytes s') d).2.crash keep) ∨ IC (renewed s' (k.epoch + 1)) ((rtLay (k.epoch + 1) (imgBytes s') d).2.crash keep)) ∧
  (d.lim = none → (rtLay (k.epoch + 1) (imgBytes s') d).1 = true ∧ (rtLay (k.epoch + 1) (imgBytes s') d).2.lim = none) := by
 obtain ⟨hi, hread⟩ := img_ok hr hz
 obtain ⟨E, hEE⟩ : ∃ E, E = k.epoch + 1 := ⟨_, rfl⟩
 obtain ⟨img, himg⟩ : ∃ img, img = imgBytes s' := ⟨_, rfl⟩
 rw [← himg] at hi hread ⊢
 rw [← hEE] at hE ⊢
 have h1 := h.ic.ep
 have hb := bit0_succ k.epoch
 rw [← hEE] at hb
 have hb01 := bit0_01 k.epoch
 have hn := need_96 (n := (img.length : Int)) tO
 have hnn := need_nn (img.length : Int)
 have hpE : rtPlace E = 2 + bit0 E * 96 := rfl
 have hpe : rtPlace k.epoch = 2 + bit0 k.epoch * 96 := rfl
 have hlg := h.ic.lg
 have hlen := h.ic.len
 -- the image
 obtain ⟨d1, hd1⟩ : ∃ d1, d1 = (d.spanPut (rtPlace E) img).2 := ⟨_, rfl⟩
 have hl1 : d1.len = d.len := by rw [hd1]; exact Dk.spanPut_len _ _ _
 have hw1 : d1.wf := by rw [hd1]; exact h.wf.spanPut _ _
 have ho1 := only_spanPut d (rtPlace E) img
 rw [← hd1] at ho1
 have hR : ∀ i : Nat, (rtPlace E ≤ (i : Int) ∧ (i : Int) < rtPlace E + need img.length) → ¬ Dep k (i : Int) := fun i hi hdep => by
  rcases hdep with e | e | ⟨a, c⟩ | ⟨a, c⟩
  ·omega
  ·omega
  ·rcases hb01 with e | e <;> rw [e] at hb <;> rw [hb] at hpE <;> rw [e] at hpe <;> omega
  ·have := hb01; omega
 have hA : ∀ keep, IC k (d1.crash keep) := h.ic.onlyC h.l ho1 hl1 hR
 have hA1 : IC k d1 := h.ic.only h.l ho1 hl1 hR
 have hlay : rtLay E img d = if (d.spanPut (rtPlace E) img).1 = true then (DM.also Dk.sync (DM.also (fun d => d.write (bit0 E) (rootS E img.length)) Dk.sync)) d1 else (false, d1) := by rw [hd1]; rfl
 by_cases c1 : (d.spanPut (rtPlace E) img).1 = true
 rotate_left
 ·rw [hlay, if_neg c1]
  exact ⟨fun hf => (by cases hf), fun keep => .inl (hA keep), fun hln => absurd (spanPut_free hln tO tO).1 c1⟩
 rw [if_pos c1] at hlay
 have hget : d1.spanGet (rtPlace E) img.length = img := by rw [hd1]; exact spanPut_get c1 tO
 by_cases c2 : d1.sync.1 = true
 rotate_left
 ·have c2' : d1.sync.1 = false := by simpa using c2
  have hl2 : rtLay E img d = (false, d1) := by rw [hlay]; unfold DM.also; rw [if_neg c2, sync_no c2']
  rw [hl2]
  exact ⟨fun hf => (by cases hf), fun keep => .inl (hA keep), fun hln => absurd (sync_free (by rw [hd1]; exact (spanPut_free hln tO tO).2)).1 c2⟩
 obtain ⟨d2, hd2⟩ : ∃ d2, d2 = d1.sync.2 := ⟨_, rfl⟩
 have hd2' : d2 = ⟨d1.now, [], d1.lim, d1.cnt⟩ := by rw [hd2]; exact sync_yes c2
 have hn2 : d2.now = d1.now := by rw [hd2']; rfl
 have hl2 : d2.l = [] := by rw [hd2']
 have hw2 : d2.wf := by rw [hd2]; exact hw1.sync
 have hlen2 : d2.len = d1.len := len_now hn2
 have hB : IC k d2 := hA1.congr hn2
 have hget2 : d2.spanGet (rtPlace E) img.length = img := by
  rw [spanGet_agree hlen2 (fun j _ _ => read_agree hlen2 (fun i _ => by rw [hn2]))]; exact hget
 have hlay2 : rtLay E img d = (DM.also (fun d => d.write (bit0 E) (rootS E img.length)) Dk.sync) d2 := by rw [hlay]; unfold DM.also; rw [if_pos c2, ← hd2]
 have hlim2 : d.lim = none → d2.lim = none := fun hln => by rw [hd2]; exact (sync_free (by rw [hd1]; exact (spanPut_free hln tO tO).2)).2
 by_cases c3 : (d2.write (bit0 E) (rootS E img.length)).1 = true
 rotate_left
 ·have c3' : (d2.write (bit0 E) (rootS E img.length)).1 = false := by simpa using c3
  have hl3 : rtLay E img d = (false, d2) := by rw [hlay2]; unfold DM.also; dsimp only; rw [if_neg c3, write_fail c3']
  rw [hl3]
  exact ⟨fun hf => (by cases hf), fun keep => .inl (hB.congr (crash_clean hl2 keep)), fun hln => absurd (write_free (hlim2 hln) ⟨by omega, by omega⟩ (rootS_len _ _)).1 c3⟩
 obtain ⟨d3, hd3⟩ : ∃ d3, d3 = (d2.write (bit0 E) (rootS E img.length)).2 := ⟨_, rfl⟩
 have hlen3 : d3.len = d2.len := by rw [hd3]; exact Dk.write_len _ _ _
 have hw3 : d3.wf := by rw [hd3]; exact hw2.write _ _
 have hl3 : d3.l = [((bit0 E).toNat, rootS E img.length)] := by rw [hd3, write_done c3]; show d2.l ++ _ = _; rw [hl2]; rfl
 have hs3 : d3.sure = d2.now := by rw [hd3, write_done c3]; show d2.sure = laid d2.sure d2.l; rw [hl2]; rfl
 have hr3 : d3.read (bit0 E) = rootS E img.length := by rw [hd3]; exact (write_read c3).1
 have ho3 : ∀ j : Int, j ≠ bit0 E → d3.read j = d2.read j := fun j hj => by rw [hd3]; exact write_other hj
 have hC : IC (renewed s' E) d3 := by
  refine IC.root tO hE tO hr3 ?_ hi hread ?_ (fun e' n a c => ?_)
  ·rw [spanGet_agree hlen3 (fun j a _ => ho3 j tO)]; exact hget2
  ·have e1 : 1 - bit0 E = bit0 k.epoch := by omega
   rw [e1]
   obtain ⟨b, s0, g1, _⟩ := (kRead_iff hB.ep).1 hB.rd
   rw [rtE_agree hlen3 (ho3 _ tO), (rtRead_some.1 g1).1]
   show k.epoch < E; omega
  ·rw [ho3 194 tO]
   exact hB.fresh e' n tO c
 have hD : ∀ keep, IC k (d3.crash keep) ∨ IC (renewed s' E) (d3.crash keep) := fun keep => by
  rcases crash_one hl3 keep with e | e
  ·exact .inr (hC.congr e)
  ·exact .inl (hB.congr (by rw [e, hs3]))
 by_cases c4 : d3.sync.1 = true
 rotate_left
 ·have c4' : d3.sync.1 = false := by simpa using c4
  have hl4 : rtLay E img d = (false, d3) := by rw [hlay2]; unfold DM.also; dsimp only; rw [if_pos c3, ← hd3]; exact Prod.ext c4' (sync_no c4')
  rw [hl4]
  exact ⟨fun hf => (by cases hf), hD, fun hln => absurd (sync_free (by rw [hd3]; exact (write_free (hlim2 hln) ⟨by omega, by omega⟩ (rootS_len _ _)).2)).1 c4⟩
 have hl4 : rtLay E img d = (true, ⟨d3.now, [], d3.lim, d3.cnt⟩) := by rw [hlay2]; unfold DM.also; dsimp only; rw [if_pos c3, ← hd3]; exact Prod.ext c4 (sync_yes c4)
 have hF : IC (renewed s' E) ⟨d3.now, [], d3.lim, d3.cnt⟩ := hC.congr rfl
 rw [hl4]
 exact ⟨fun _ => ⟨hF, rfl, by have := hw3.sync; rw [sync_yes c4] at this; exact this⟩, fun keep => .inr (hF.congr (crash_clean rfl keep)), fun hln => ⟨rfl, by show d3.lim = none; rw [hd3]; exact (write_free (hlim2 hln) ⟨by omega, by omega⟩ (rootS_len _ _)).2⟩⟩
def added (k : Ks) (b : List UInt8) (st' : Stt) : Ks := { k with st := st', lg := { k.lg with recs := k.lg.recs ++ [b], next := k.lg.behind b } }
theorem lay_spec {k : Ks} {d : Dk} {b : List UInt8} {es : List Eff} {st' : Stt} (h : Live k d) (hep : k.epoch ≤ top) (hf : k.lg.fits b.length = true) (he : effRead b = some es) (hs : applyS k.st es = (st', 0)) :
  ((k.lg.lay b d).1 = true → Live (added k b st') (k.lg.lay b d).2) ∧
  (∀ keep, IC k ((k.lg.lay b d).2.crash keep) ∨ IC (added k b st') ((k.lg.lay b d).2.crash keep)) ∧
  (d.lim = none → (k.lg.lay b d).1 = true ∧ (k.lg.lay b d).2.lim = none) := by
 have hok := h.ok
 have hlgw := hok.lg
 have hlg := h.ic.lg
 have hlen := h.ic.len
 have hfi := Lg.fits_iff.1 hf
 have hsz := Lg.fits_size hlgw (Int.natCast_nonneg _) hf
 have hnn := need_nn (b.length : Int)
 have hpl := rtPlace_rng k.epoch
 have hbe : k.lg.behind b = k.lg.next + 1 + need b.length := rfl
 obtain ⟨nx, hnx⟩ : ∃ nx, nx = k.lg.next := ⟨_, rfl⟩
 obtain ⟨bh, hbh⟩ : ∃ bh, bh = k.lg.behind b := ⟨_, rfl⟩
 -- the record
 obtain ⟨d1, hd1⟩ : ∃ d1, d1 = (d.spanPut (k.lg.next + 1) b).2 := ⟨_, rfl⟩
 have hl1 : d1.len = d.len := by rw [hd1]; exact Dk.spanPut_len _ _ _
 have hw1 : d1.wf := by rw [hd1]; exact h.wf.spanPut _ _
 have ho1 := only_spanPut d (k.lg.next + 1) b
 rw [← hd1] at ho1
 have hR : ∀ i : Nat, k.lg.next < (i : Int) → ¬ Dep k (i : Int) := fun i hi hdep => by
  rcases hdep with e | e | ⟨a, c⟩ | ⟨a, c⟩ <;> omega
 have ho1 : Only (fun j => k.lg.next < (j : Int)) d d1 := ho1.mono (fun j hj => by omega)
 have hA : ∀ keep, IC k (d1.crash keep) := h.ic.onlyC h.l ho1 hl1 hR
 have hA1 : IC k d1 := h.ic.only h.l ho1 hl1 hR
 obtain ⟨F2, hF2⟩ : ∃ F2 : DM, F2 = (fun d => if k.lg.behind b < k.lg.end_ then d.write (k.lg.behind b) zSec else (true, d)) := ⟨_, rfl⟩
 obtain ⟨hd, hhd⟩ : ∃ hd, hd = lgHead k.lg.epoch (k.lg.recs.length + 1) b.length := ⟨_, rfl⟩
 have hhl : hd.length = 64 := by rw [hhd]; exact lgHead_len _ _ _
 have hlay : k.lg.lay b d = if (d.spanPut (k.lg.next + 1) b).1 = true then (DM.also F2 (DM.also Dk.sync (DM.also (fun d => d.write k.lg.next hd) Dk.sync))) d1 else (false, d1) := by rw [hd1, hF2, hhd]; rfl
 by_cases c1 : (d.spanPut (k.lg.next + 1) b).1 = true
 rotate_left
 ·rw [hlay, if_neg c1]
  exact ⟨fun hf => (by cases hf), fun keep => .inl (hA keep), fun hln => absurd (spanPut_free hln tO tO).1 c1⟩
 rw [if_pos c1] at hlay
 have hget : d1.spanGet (k.lg.next + 1) b.length = b := by rw [hd1]; exact spanPut_get c1 tO
 have hlm1 : d.lim = none → d1.lim = none := fun hln => by rw [hd1]; exact (spanPut_free hln tO tO).2
 -- the sector behind
 obtain ⟨d2, hd2⟩ : ∃ d2, d2 = (F2 d1).2 := ⟨_, rfl⟩
 have hF : (F2 d1 = (true, d1) ∧ ¬ k.lg.behind b < k.lg.end_) ∨ (F2 d1 = d1.write (k.lg.behind b) zSec ∧ k.lg.behind b < k.lg.end_) := by
  rw [hF2]
  dsimp only
  split
  ·exact .inr ⟨rfl, by assumption⟩
  ·exact .inl ⟨rfl, by assumption⟩
 have hl2 : d2.len = d1.len := by
  rcases hF with ⟨e, _⟩ | ⟨e, _⟩ <;> rw [hd2, e]
  exact Dk.write_len _ _ _
 have hw2 : d2.wf := by
  rcases hF with ⟨e, _⟩ | ⟨e, _⟩ <;> rw [hd2, e]
  ·exact hw1
  ·exact hw1.write _ _
 have ho2 : Only (fun j => k.lg.next < (j : Int)) d d2 := by
  refine ho1.trans ?_
  rcases hF with ⟨e, _⟩ | ⟨e, _⟩ <;> rw [hd2, e]
  ·exact Only.refl _ _
  ·exact (only_write _ _ _).mono (fun j hj => by omega)
 have hoth2 : ∀ j : Int, j ≠ k.lg.behind b → d2.read j = d1.read j := fun j hj => by
  rcases hF with ⟨e, _⟩ | ⟨e, _⟩ <;> rw [hd2, e]
  exact write_other hj
 have hB : ∀ keep, IC k (d2.crash keep) := h.ic.onlyC h.l ho2 (hl2.trans hl1) hR
 have hB1 : IC k d2 := h.ic.only h.l ho2 (hl2.trans hl1) hR
 have hget2 : d2.spanGet (k.lg.next + 1) b.length = b := by
  rw [spanGet_agree hl2 (fun j a c => hoth2 j ?_)]
  ·exact hget
  ·have : Dk.cutN b.length = (b.length : Int) := by unfold Dk.cutN; omega
   rw [this] at c; omega
 have hlay2 : k.lg.lay b d = if (F2 d1).1 = true then (DM.also Dk.sync (DM.also (fun d => d.write k.lg.next hd) Dk.sync)) d2 else (false, d2) := by rw [hlay, hd2]; rfl
 have hlm2 : d.lim = none → (F2 d1).1 = true ∧ d2.lim = none := fun hln => by
  rcases hF with ⟨e, _⟩ | ⟨e, hlt⟩ <;> rw [hd2, e]
  ·exact ⟨rfl, hlm1 hln⟩
  ·exact write_free (hlm1 hln) ⟨by omega, by omega⟩ zSec_len'
 by_cases c2 : (F2 d1).1 = true
 rotate_left
 ·rw [hlay2, if_neg c2]
  exact ⟨fun hf => (by cases hf), fun keep => .inl (hB keep), fun hln => absurd (hlm2 hln).1 c2⟩
 rw [if_pos c2] at hlay2
 have hzz : k.lg.behind b < 354 → d2.read (k.lg.behind b) = zSec := fun hlt => by
  rcases hF with ⟨e, hx⟩ | ⟨e, hx⟩
  ·omega
  ·rw [hd2, e]; rw [e] at c2; exact (write_read c2).1
 -- all sure
 by_cases c3 : d2.sync.1 = true
 rotate_left
 ·have c3' : d2.sync.1 = false := by simpa using c3
  have hl3 : k.lg.lay b d = (false, d2) := by rw [hlay2]; unfold DM.also; rw [if_neg c3, sync_no c3']
  rw [hl3]
  exact ⟨fun hf => (by cases hf), fun keep => .inl (hB keep), fun hln => absurd (sync_free (hlm2 hln).2).1 c3⟩
 obtain ⟨d3, hd3⟩ : ∃ d3, d3 = d2.sync.2 := ⟨_, rfl⟩
 have hd3' : d3 = ⟨d2.now, [], d2.lim, d2.cnt⟩ := by rw [hd3]; exact sync_yes c3
 have hn3 : d3.now = d2.now := by rw [hd3']; rfl
 have hl3 : d3.l = [] := by rw [hd3']
 have hw3 : d3.wf := by rw [hd3]; exact hw2.sync
 have hlen3 : d3.len = d2.len := len_now hn3
 have hrd3 : ∀ j, d3.read j = d2.read j := fun j => read_agree hlen3 (fun i _ => by rw [hn3])
 have hC : IC k d3 := hB1.congr hn3
 have hlay3 : k.lg.lay b d = (DM.also (fun d => d.write k.lg.next hd) Dk.sync) d3 := by rw [hlay2]; unfold DM.also; rw [if_pos c3, ← hd3]
 have hlm3 : d.lim = none → d3.lim = none := fun hln => by rw [hd3]; exact (sync_free (hlm2 hln).2).2
 -- the head
 by_cases c4 : (d3.write k.lg.next hd).1 = true
 rotate_left
 ·have c4' : (d3.write k.lg.next hd).1 = false := by simpa using c4
  have hl4 : k.lg.lay b d = (false, d3) := by rw [hlay3]; unfold DM.also; dsimp only; rw [if_neg c4, write_fail c4']
  rw [hl4]
  exact ⟨fun hf => (by cases hf), fun keep => .inl (hC.congr (crash_clean hl3 keep)), fun hln => absurd (write_free (hlm3 hln) ⟨by omega, by omega⟩ hhl).1 c4⟩
 obtain ⟨d4, hd4⟩ : ∃ d4, d4 = (d3.write k.lg.next hd).2 := ⟨_, rfl⟩
 have hlen4 : d4.len = d3.len := by rw [hd4]; exact Dk.write_len _ _ _
 have hw4 : d4.wf := by rw [hd4]; exact hw3.write _ _
 have hl4 : d4.l = [((k.lg.next).toNat, hd)] := by rw [hd4, write_done c4]; show d3.l ++ _ = _; rw [hl3]; rfl
 have hs4 : d4.sure = d3.now := by rw [hd4, write_done c4]; show d3.sure = laid d3.sure d3.l; rw [hl3]; rfl
 have hr4 : d4.read k.lg.next = hd := by rw [hd4]; exact (write_read c4).1
 have ho4 : ∀ j : Int, j ≠ k.lg.next → d4.read j = d3.read j := fun j hj => by rw [hd4]; exact write_other hj
 have hcb : Dk.cutN b.length = (b.length : Int) := by unfold Dk.cutN; omega
 have hD : IC (added k b st') d4 := by
  refine hC.head hep hlgw hlen4 (fun j _ hj => ho4 j hj) hf ?_ ?_ ?_ he hs
  ·rw [hr4, hhd, hlg.2.2.1]
  ·rw [spanGet_agree hlen4 (fun j a c => ho4 j tO), spanGet_agree hlen3 (fun j _ _ => hrd3 j)]; exact hget2
  ·intro hlt
   rw [ho4 _ tO, hrd3]; exact hzz hlt
 have hE : ∀ keep, IC k (d4.crash keep) ∨ IC (added k b st') (d4.crash keep) := fun keep => by
  rcases crash_one hl4 keep with e | e
  ·exact .inr (hD.congr e)
  ·exact .inl (hC.congr (by rw [e, hs4]))
 have hlm4 : d.lim = none → d4.lim = none := fun hln => by rw [hd4]; exact (write_free (hlm3 hln) ⟨by omega, by omega⟩ hhl).2
 by_cases c5 : d4.sync.1 = true
 rotate_left
 ·have c5' : d4.sync.1 = false := by simpa using c5
  have hl5 : k.lg.lay b d = (false, d4) := by rw [hlay3]; unfold DM.also; dsimp only; rw [if_pos c4, ← hd4]; exact Prod.ext c5' (sync_no c5')
  rw [hl5]
  exact ⟨fun hf => (by cases hf), hE, fun hln => absurd (sync_free (hlm4 hln)).1 c5⟩
 have hl5 : k.lg.lay b d = (true, ⟨d4.now, [], d4.lim, d4.cnt⟩) := by rw [hlay3]; unfold DM.also; dsimp only; rw [if_pos c4, ← hd4]; exact Prod.ext c5 (sync_yes c5)
 have hG : IC (added k b st') ⟨d4.now, [], d4.lim, d4.cnt⟩ := hD.congr rfl
 rw [hl5]
 exact ⟨fun _ => ⟨hG, rfl, by have := hw4.sync; rw [sync_yes c5] at this; exact this⟩, fun keep => .inr (hG.congr (crash_clean rfl keep)), fun hln => ⟨rfl, hlm4 hln⟩⟩
theorem i64_succ {n : Int} (h : 1 ≤ n) (h2 : n + 1 ≤ top) : i64 (n + 1) = n + 1 := by unfold i64; unfold top at h2; omega
theorem live_lg {s' : Stt} {E : Int} {d : Dk} (h : IC (renewed s' E) d) : kBegin d E = ⟨194, 354, 194, E, [], false⟩ := by
 obtain ⟨b, s0, h1, h2, h3, h4, h5⟩ := (kRead_iff h.ep).1 h.rd
 exact h3.symm
theorem renew_spec {k : Ks} {d : Dk} {s' : Stt} (h : Live k d) (hr : s'.right = true) (hz : s'.size ≤ 6144) (hE : k.epoch + 1 ≤ top) :
  ((kRenew { k with st := s' } d).1 = 0 ∧ (kRenew { k with st := s' } d).2.1 = renewed s' (k.epoch + 1) ∧ Live (renewed s' (k.epoch + 1)) (kRenew { k with st := s' } d).2.2 ∨ (kRenew { k with st := s' } d).1 = 12 ∧ (kRenew { k with st := s' } d).2.1 = { k with st := s' }) ∧
  (∀ keep, IC k ((kRenew { k with st := s' } d).2.2.crash keep) ∨ IC (renewed s' (k.epoch + 1)) ((kRenew { k with st := s' } d).2.2.crash keep)) ∧
  (d.lim = none → (kRenew { k with st := s' } d).1 = 0 ∧ (kRenew { k with st := s' } d).2.2.lim = none) := by
 obtain ⟨g1, g2, g3⟩ := rtLay_spec h hr hz hE
 have hi := (img_ok hr hz).1
 have h1 := h.ic.ep
 have hdead := h.ic.lg.2.2.2.2.1
 have e1 := i64_succ h1 hE
 obtain ⟨W, hW⟩ : ∃ W, W = rtLay (k.epoch + 1) (imgBytes s') d := ⟨_, rfl⟩
 rw [← hW] at g1 g2 g3
 have hrt : rtWrite (k.epoch + 1) (imgBytes s') d = if W.1 = true then (0, W.2) else (12, W.2) := by
  rw [hW]; unfold rtWrite; rw [if_neg tO, if_neg tO]
 have hkr : kRenew { k with st := s' } d = if W.1 = true then (0, { k with st := s', epoch := k.epoch + 1, lg := kBegin W.2 (k.epoch + 1) }, W.2) else (12, { k with st := s' }, W.2) := by
  unfold kRenew
  dsimp only
  rw [e1, hrt]
  by_cases c : W.1 = true
  ·rw [if_pos c, if_pos c]; rfl
  ·rw [if_neg c, if_neg c]; rfl
 rw [hkr]
 by_cases c : W.1 = true
 ·rw [if_pos c]
  have hlv := g1 c
  have hk2 : ({ k with st := s', epoch := k.epoch + 1, lg := kBegin W.2 (k.epoch + 1) } : Ks) = renewed s' (k.epoch + 1) := by
   rw [live_lg hlv.ic]; unfold renewed; rw [← hdead]
  exact ⟨.inl ⟨rfl, hk2, hlv⟩, g2, fun hln => ⟨rfl, (g3 hln).2⟩⟩
 ·rw [if_neg c]
  exact ⟨.inr ⟨rfl, rfl⟩, g2, fun hln => absurd (g3 hln).1 c⟩
theorem append_eq {g : Lg} {b : List UInt8} {d : Dk} (h1 : g.failed = false) (h2 : g.fits b.length = true) : g.append b d = if (g.lay b d).1 = true then (0, { g with recs := g.recs ++ [b], next := g.behind b }, (g.lay b d).2) else (12, { g with failed := true }, (g.lay b d).2) := by
 unfold Lg.append
 rw [if_neg (by rw [h1]; decide), if_neg (by rw [h2]; decide)]
 rfl
structure Added (k : Ks) (b : List UInt8) (st' : Stt) (d : Dk) : Prop where
 done : (kAppend k b d).1 = 0 → ∃ k', (kAppend k b d).2.1 = { k' with st := k.st } ∧ k'.st = st' ∧ Live k' (kAppend k b d).2.2 ∧ k.epoch ≤ k'.epoch ∧ k'.epoch ≤ k.epoch + 1
 err : (kAppend k b d).1 = 0 ∨ (kAppend k b d).1 = 12 ∨ ((kAppend k b d).1 = 9 ∧ 10176 < b.length ∧ (kAppend k b d).2 = (k, d))
 safe : ∀ keep, ∃ k', IC k' ((kAppend k b d).2.2.crash keep) ∧ (k'.st = k.st ∨ k'.st = st') ∧ k'.epoch ≤ k.epoch + 1
 free : d.lim = none → (kAppend k b d).1 ≠ 12 ∧ (kAppend k b d).2.2.lim = none
theorem append_spec {k : Ks} {d : Dk} {b : List UInt8} {es : List Eff} {st' : Stt} (h : Live k d) (hz : k.st.size ≤ 6144) (hE : k.epoch + 1 ≤ top) (he : effRead b = some es) (hs : applyS k.st es = (st', 0)) : Added k b st' d := by
 have hok := h.ok
 have hlg := h.ic.lg
 have h1 := h.ic.ep
 have hb0 : 0 < b.length := by
  rcases Nat.eq_zero_or_pos b.length with h0 | h0
  ·rw [List.length_eq_zero_iff.1 h0, show effRead [] = none from rfl] at he; cases he
  ·exact h0
 have hfit : ∀ {g : Lg}, g.wf → ¬ g.room < (b.length : Int) → g.fits b.length = true := fun {g} hg hr => by
  have := hg.nx
  unfold Lg.room at hr
  refine Lg.fits_iff.2 ⟨by omega, ?_⟩
  rw [need_pos tO]; omega
 -- a record added where it fits
 have key : ∀ {k2 : Ks} {d2 : Dk}, Live k2 d2 → k2.st = k.st → k2.epoch ≤ top → k2.lg.fits b.length = true →
   ((k2.lg.append b d2).1 = 0 → { k2 with lg := (k2.lg.append b d2).2.1 } = { added k2 b st' with st := k.st } ∧ Live (added k2 b st') (k2.lg.append b d2).2.2) ∧
   ((k2.lg.append b d2).1 = 0 ∨ (k2.lg.append b d2).1 = 12) ∧ (∀ keep, IC k2 ((k2.lg.append b d2).2.2.crash keep) ∨ IC (added k2 b st') ((k2.lg.append b d2).2.2.crash keep)) ∧ (d2.lim = none → (k2.lg.append b d2).1 ≠ 12 ∧ (k2.lg.append b d2).2.2.lim = none) := fun {k2 d2} hl2 hst2 hep hf => by
  obtain ⟨g1, g2, g3⟩ := lay_spec hl2 hep hf he (by rw [hst2]; exact hs)
  rw [append_eq hl2.ic.lg.2.2.2.1 hf]
  by_cases c : (k2.lg.lay b d2).1 = true
  ·rw [if_pos c]
   exact ⟨fun _ => ⟨by unfold added; rw [← hst2], g1 c⟩, .inl rfl, g2, fun hln => ⟨by show (0 : Int) ≠ 12; decide, (g3 hln).2⟩⟩
  ·rw [if_neg c]
   exact ⟨fun e => absurd (show (12 : Int) = 0 from e) tD, .inr rfl, g2, fun hln => absurd (g3 hln).1 c⟩
 by_cases c1 : k.lg.room < (b.length : Int)
 ·by_cases c2 : 10176 < (b.length : Int)
  ·have hr : kAppend k b d = (9, k, d) := by unfold kAppend; rw [if_pos c1, if_pos c2]
   refine ⟨fun e => ?_, .inr (.inr ⟨by rw [hr], by omega, by rw [hr]⟩), fun keep => ⟨k, by rw [hr]; exact (h.crash keep).ic, .inl rfl, by omega⟩, fun hln => ⟨by rw [hr]; show (9 : Int) ≠ 12; decide, by rw [hr]; exact hln⟩⟩
   rw [hr] at e; exact absurd (show (9 : Int) = 0 from e) tD
  ·obtain ⟨r1, r2, r3⟩ := renew_spec h hok.right hz hE
   have hk0 : ({ k with st := k.st } : Ks) = k := rfl
   rw [hk0] at r1 r2 r3
   rcases r1 with ⟨q1, q2, q3⟩ | ⟨q1, q2⟩
   ·obtain ⟨D, hD⟩ : ∃ D, D = (kRenew k d).2.2 := ⟨_, rfl⟩
    rw [← hD] at q3 r2 r3
    have hr : kAppend k b d = (((renewed k.st (k.epoch + 1)).lg.append b D).1, { renewed k.st (k.epoch + 1) with lg := ((renewed k.st (k.epoch + 1)).lg.append b D).2.1 }, ((renewed k.st (k.epoch + 1)).lg.append b D).2.2) := by
     unfold kAppend; rw [if_pos c1, if_neg c2]; dsimp only; rw [if_pos q1, q2, ← hD]
    have hf2 : (renewed k.st (k.epoch + 1)).lg.fits b.length = true := by
     refine Lg.fits_iff.2 ⟨by show (1 : Int) ≤ 354 - 194; decide, ?_⟩
     show need b.length ≤ 354 - 194 - 1
     rw [need_pos tO]; omega
    obtain ⟨g1, g2, g3, g4⟩ := key q3 rfl hE hf2
    refine ⟨fun e => ?_, ?_, fun keep => ?_, fun hln => ?_⟩
    ·rw [hr] at e ⊢
     obtain ⟨a1, a2⟩ := g1 e
     exact ⟨_, a1, rfl, a2, by show k.epoch ≤ k.epoch + 1; omega, Int.le_refl _⟩
    ·rw [hr]; exact g2.elim .inl (fun e => .inr (.inl e))
    ·rw [hr]
     rcases g3 keep with a | a
     ·exact ⟨_, a, .inl rfl, Int.le_refl _⟩
     ·exact ⟨_, a, .inr rfl, Int.le_refl _⟩
    ·rw [hr]; exact g4 (r3 hln).2
   ·have hr : kAppend k b d = kRenew k d := by unfold kAppend; rw [if_pos c1, if_neg c2]; dsimp only; rw [if_neg (by rw [q1]; decide)]
    refine ⟨fun e => ?_, .inr (.inl (by rw [hr]; exact q1)), fun keep => ?_, fun hln => ?_⟩
    ·rw [hr, q1] at e; exact absurd e tD
    ·rw [hr]
     rcases r2 keep with a | a
     ·exact ⟨_, a, .inl rfl, by omega⟩
     ·exact ⟨_, a, .inl rfl, Int.le_refl _⟩
    ·have := (r3 hln).1; rw [q1] at this; exact absurd this tD
 ·have hr : kAppend k b d = ((k.lg.append b d).1, { k with lg := (k.lg.append b d).2.1 }, (k.lg.append b d).2.2) := by unfold kAppend; rw [if_neg c1]
  obtain ⟨g1, g2, g3, g4⟩ := key h rfl tO (hfit hok.lg c1)
  refine ⟨fun e => ?_, ?_, fun keep => ?_, fun hln => ?_⟩
  ·rw [hr] at e ⊢
   obtain ⟨a1, a2⟩ := g1 e
   exact ⟨_, a1, rfl, a2, Int.le_refl _, by show k.epoch ≤ k.epoch + 1; omega⟩
  ·rw [hr]; exact g2.elim .inl (fun e => .inr (.inl e))
  ·rw [hr]
   rcases g3 keep with a | a
   ·exact ⟨_, a, .inl rfl, by omega⟩
   ·exact ⟨_, a, .inr rfl, by show k.epoch ≤ k.epoch + 1; omega⟩
  ·rw [hr]; exact g4 hln
def dk1 : Dk := (kOpen (Dk.new 354)).2.2
def ks1 : Ks := renewed ⟨1, []⟩ 1
theorem new_open : (kOpen (Dk.new 354)).1 = 0 := by kernel_rfl
theorem new_store : (kOpen (Dk.new 354)).2.1 = ks1 := by kernel_rfl
theorem new_read : kRead dk1 = some ks1 := by kernel_rfl
theorem new_l : dk1.l = [] := by kernel_rfl
theorem new_len : dk1.len = 354 := by kernel_rfl
theorem new_cnt : dk1.cnt = 2 := by kernel_rfl
theorem new_194 : dk1.read 194 = zSec := by kernel_rfl
theorem new_live : Live ks1 dk1 := ⟨⟨new_read, new_len, by decide, fun e' n _ _ => by rw [new_194]; exact zero_head _ _ _⟩, new_l, kOpen_wf (Dk.wf_new 354)⟩
theorem apply_nil {s : Stt} (h : s.right = true) : applyS s [] = (s, 0) := by rw [apply_eq h]; rfl
structure Done (k : Ks) (l : List Eff) (d : Dk) : Prop where
 ok : (kDo k l d).1 = 0 → (applyS k.st l).2 = 0 ∧ Live (kDo k l d).2.1 (kDo k l d).2.2 ∧ (kDo k l d).2.1.st = (applyS k.st l).1 ∧ (applyS k.st l).1.size ≤ 6000 ∧ k.epoch ≤ (kDo k l d).2.1.epoch ∧ (kDo k l d).2.1.epoch ≤ k.epoch + 1
 no : (kDo k l d).1 ≠ 0 → (kDo k l d).1 ≠ 12 → (kDo k l d).2 = (k, d)
 broke : (kDo k l d).1 = 12 → (applyS k.st l).2 = 0 ∧ (kDo k l d).2.1.dead = true ∧ (kDo k l d).2.1.st = k.st
 safe : ∀ keep, ∃ k', IC k' ((kDo k l d).2.2.crash keep) ∧ (k'.st = k.st ∨ ((applyS k.st l).2 = 0 ∧ k'.st = (applyS k.st l).1 ∧ (applyS k.st l).1.size ≤ 6000)) ∧ k'.epoch ≤ k.epoch + 1
 free : d.lim = none → (kDo k l d).1 ≠ 12 ∧ (kDo k l d).2.2.lim = none
theorem do_spec {k : Ks} {d : Dk} {l : List Eff} (h : Live k d) (hz : k.st.size ≤ 6000) (hE : k.epoch + 1 ≤ top) (hl : l.length ≤ 10000) : Done k l d := by
 have hok := h.ok
 have hdd := h.ic.lg.2.2.2.2.1
 have hcode := apply_code k.st l
 have stay : ∀ {e : Int}, kDo k l d = (e, k, d) → e ≠ 0 → e ≠ 12 → Done k l d := fun {e} hr h0 h12 =>
  ⟨fun e' => by rw [hr] at e'; exact absurd e' h0, fun _ _ => by rw [hr], fun e' => by rw [hr] at e'; exact absurd e' h12, fun keep => ⟨k, by rw [hr]; exact (h.crash keep).ic, .inl rfl, by omega⟩, fun hln => ⟨by rw [hr]; exact h12, by rw [hr]; exact hln⟩⟩
 by_cases c1 : (applyS k.st l).2 = 0
 rotate_left
 ·exact stay (e := (applyS k.st l).2) (by unfold kDo; rw [if_neg (by rw [hdd]; decide), if_pos c1]) c1 tO
 by_cases c2 : (6000 : Int) < ((applyS k.st l).1.size : Nat)
 ·exact stay (e := 9) (by unfold kDo; rw [if_neg (by rw [hdd]; decide), if_neg (by rw [c1]; decide), if_pos c2]) tD tD
 by_cases c3 : l = []
 ·have hr : kDo k l d = (0, k, d) := by unfold kDo; rw [if_neg (by rw [hdd]; decide), if_neg (by rw [c1]; decide), if_neg c2, if_pos c3]
  have ha : applyS k.st l = (k.st, 0) := by rw [c3]; exact apply_nil hok.right
  refine ⟨fun _ => ⟨c1, by rw [hr]; exact h, by rw [hr, ha], by omega, by rw [hr]; exact Int.le_refl _, by rw [hr]; show k.epoch ≤ _; omega⟩, fun e => ?_, fun e => ?_, fun keep => ⟨k, by rw [hr]; exact (h.crash keep).ic, .inl rfl, by omega⟩, fun hln => ⟨by rw [hr]; show (0 : Int) ≠ 12; decide, by rw [hr]; exact hln⟩⟩
  ·rw [hr] at e; exact absurd rfl e
  ·rw [hr] at e; exact absurd (show (0 : Int) = 12 from e) tD
 ·have hr : kDo k l d = ((kAppend k (effsBytes l) d).1, { (kAppend k (effsBytes l) d).2.1 with dead := decide ((kAppend k (effsBytes l) d).1 = 12), st := if (kAppend k (effsBytes l) d).1 = 0 then (applyS k.st l).1 else k.st }, (kAppend k (effsBytes l) d).2.2) := by
   unfold kDo; rw [if_neg (by rw [hdd]; decide), if_neg (by rw [c1]; decide), if_neg c2, if_neg c3]
  obtain ⟨a1, a2, a3, a4⟩ := append_spec (st' := (applyS k.st l).1) h tO hE (effs_back c1 hl) (Prod.ext rfl c1)
  generalize kAppend k (effsBytes l) d = r at hr a1 a2 a3 a4
  refine ⟨fun e => ?_, fun e e2 => ?_, fun e => ?_, fun keep => ?_, fun hln => ?_⟩
  ·rw [hr] at e ⊢
   have e : r.1 = 0 := e
   obtain ⟨k', b1, b2, b3, b4, b5⟩ := a1 e
   have hkk : ({ r.2.1 with dead := decide (r.1 = 12), st := if r.1 = 0 then (applyS k.st l).1 else k.st } : Ks) = k' := by
    have hd' := b3.ic.lg.2.2.2.2.1
    rw [b1, e, if_pos rfl]
    obtain ⟨st, ep, dd, lg⟩ := k'
    dsimp only at b2 hd' ⊢
    rw [b2, hd']; rfl
   exact ⟨c1, by show Live { r.2.1 with dead := decide (r.1 = 12), st := if r.1 = 0 then (applyS k.st l).1 else k.st } r.2.2; rw [hkk]; exact b3, by show (if r.1 = 0 then (applyS k.st l).1 else k.st) = _; rw [if_pos e], by omega, by show k.epoch ≤ r.2.1.epoch; rw [b1]; exact b4, by show r.2.1.epoch ≤ _; rw [b1]; exact b5⟩
  ·rw [hr] at e e2
   rcases a2 with q | q | ⟨q1, q2, q3⟩
   ·exact absurd q e
   ·exact absurd q e2
   ·rw [hr]
    have e1 : r.2.1 = k := by rw [q3]
    have e2 : r.2.2 = d := by rw [q3]
    show ({ r.2.1 with dead := decide (r.1 = 12), st := if r.1 = 0 then (applyS k.st l).1 else k.st }, r.2.2) = _
    rw [e1, e2, q1]
    obtain ⟨st, ep, dd, lg⟩ := k
    cases hdd
    rfl
  ·rw [hr] at e ⊢
   have e : r.1 = 12 := e
   exact ⟨c1, by show decide (r.1 = 12) = true; rw [e]; rfl, by show (if r.1 = 0 then _ else k.st) = k.st; rw [if_neg (by rw [e]; decide)]⟩
  ·obtain ⟨k', b1, b2, b3⟩ := a3 keep
   exact ⟨k', by rw [hr]; exact b1, b2.imp id (fun e => ⟨c1, e, by omega⟩), b3⟩
  ·rw [hr]; exact a4 hln
def freedS (s : Stt) : Stt := ⟨s.next, s.objs.map freedO⟩
theorem freedS_right {s : Stt} (h : s.right = true) : (freedS s).right = true := by
 have := apply_claims h
 have h2 := (apply_right (s := s) (l := claimsS s) (by rw [this])).2.1
 rw [this] at h2; exact h2
theorem freedS_id {s : Stt} (h : s.right = true) (hc : claimsS s = []) : freedS s = s := by
 have := apply_claims h
 rw [hc, apply_nil h] at this
 exact (congrArg Prod.fst this).symm
theorem wt_tried (m : Msg) : m.tried.wt = m.wt := rfl
theorem freed_wt (lim : Int) : ∀ l : List Msg, ((freed lim l).map Msg.wt).sum + ((gone lim l).map Msg.wt).sum = (l.map Msg.wt).sum
 | [] => rfl
 | m :: l => by
  have ih := freed_wt lim l
  unfold freed gone at ih ⊢
  rw [List.filterMap_cons, List.filterMap_cons]
  by_cases c : m.claimed = true
  ·by_cases c2 : lim ≤ m.tried.retry
   ·simp only [c, c2, if_true, and_self, List.map_cons, List.sum_cons, wt_tried] at ih ⊢; omega
   ·simp only [c, c2, if_true, if_false, and_false, List.map_cons, List.sum_cons, wt_tried] at ih ⊢; omega
  ·simp only [c, if_false, false_and, List.map_cons, List.sum_cons, Bool.false_eq_true] at ih ⊢; omega
theorem freedS_size (s : Stt) : (freedS s).size = s.size := by
 unfold Stt.size freedS
 dsimp only
 rw [List.map_map]
 congr 2
 refine List.map_congr_left (fun o _ => ?_)
 have := freed_wt o.limit o.msgs
 show (freedO o).size = o.size
 unfold freedO Ob.size
 dsimp only
 rw [List.map_append, List.sum_append]; omega
structure Again (k : Ks) (d : Dk) : Prop where
 ok : (kOpen d).1 = 0 → Live (kOpen d).2.1 (kOpen d).2.2 ∧ (kOpen d).2.1.st = freedS k.st ∧ k.epoch ≤ (kOpen d).2.1.epoch ∧ (kOpen d).2.1.epoch ≤ k.epoch + 1
 err : (kOpen d).1 = 0 ∨ (kOpen d).1 = 12
 safe : ∀ keep, ∃ k', IC k' ((kOpen d).2.2.crash keep) ∧ (k'.st = k.st ∨ k'.st = freedS k.st) ∧ k'.epoch ≤ k.epoch + 1
 free : d.lim = none → (kOpen d).1 = 0 ∧ (kOpen d).2.2.lim = none
theorem open_spec {k : Ks} {d : Dk} (h : Live k d) (hz : k.st.size ≤ 6000) (hE : k.epoch + 1 ≤ top) : Again k d := by
 have hok := h.ok
 have h1 := h.ic.ep
 have hap := apply_claims hok.right
 by_cases c : claimsS k.st = []
 ·have hr : kOpen d = (0, k, d) := by unfold kOpen; rw [h.ic.rd]; dsimp only; rw [if_pos ⟨c, by omega⟩]
  have hf := freedS_id hok.right c
  exact ⟨fun _ => ⟨by rw [hr]; exact h, by rw [hr, hf], by rw [hr]; exact Int.le_refl _, by rw [hr]; show k.epoch ≤ _; omega⟩, .inl (by rw [hr]), fun keep => ⟨k, by rw [hr]; exact (h.crash keep).ic, .inl rfl, by omega⟩, fun hln => ⟨by rw [hr], by rw [hr]; exact hln⟩⟩
 ·have hr : kOpen d = kRenew { k with st := freedS k.st } d := by
   unfold kOpen; rw [h.ic.rd]; dsimp only
   rw [if_neg (fun e => c e.1), hap, if_pos rfl]; rfl
  obtain ⟨r1, r2, r3⟩ := renew_spec h (freedS_right hok.right) (by rw [freedS_size]; omega) hE
  rw [← hr] at r1 r2 r3
  refine ⟨fun e => ?_, r1.elim (fun q => .inl q.1) (fun q => .inr q.1), fun keep => ?_, r3⟩
  ·rcases r1 with ⟨_, q2, q3⟩ | ⟨q1, _⟩
   ·rw [q2]; exact ⟨q3, rfl, by show k.epoch ≤ k.epoch + 1; omega, Int.le_refl _⟩
   ·rw [e] at q1; exact absurd q1 tD
  ·rcases r2 keep with a | a
   ·exact ⟨k, a, .inl rfl, by omega⟩
   ·exact ⟨_, a, .inr rfl, Int.le_refl _⟩
end Go.Proofs.YtkbhldicnamcdaaGreat.L
namespace Go.Proofs.YtkbhldicnamcdaaGreat.L
open Go Go.Proofs
attribute [local irreducible] pv fv pt fz RowF RowO rowP old pure_ elA Rd.int Rd.text Rd.flag Rd.msg Rd.rint Rd.rtext Rd.rflag Rd.rmsg
attribute [local irreducible] DkX KsX
def tT : ByteArray := ⟨#[116]⟩
def mkT : Eff := ⟨1, tT, ⟨#[]⟩, ⟨#[]⟩, 1, 0, false, ⟨0, 0, 0, false, ⟨#[]⟩, ⟨#[]⟩⟩⟩
def stT (rows : List Rw) : Stt := ⟨1, [⟨tT, 1, 0, rows, [], []⟩]⟩
def ks2 : Ks := (kDo ks1 [mkT] dk1).2.1
def dk2 : Dk := (kDo ks1 [mkT] dk1).2.2
theorem mk_done : (kDo ks1 [mkT] dk1).1 = 0 := by kernel_rfl
theorem ks2_st : ks2.st = stT [] := by kernel_rfl
theorem ks1_size : ks1.st.size = 16 := by kernel_rfl
theorem live2 : Live ks2 dk2 := ((do_spec (l := [mkT]) new_live (by rw [ks1_size]; decide) tD tD).ok mk_done).2.1
theorem ks_Open0 (p : Nat) : Fn Tryz.prog 17 [.pointer (some ⟨p, 0, none⟩)].toArray [DkX p (Dk.new 354)] (fun r post => ∃ s, r = .tuple #[.pointer (some ⟨s, 0, none⟩), .int .i64 0] ∧ post = [DkX p dk1, KsX s p ks1]) :=
 (ks_OpenG p (Dk.new 354) (Dk.wf_new 354) tD (Nat.zero_le _) new_open).mono fun r post ⟨s, h1, h2⟩ => ⟨s, h1, by rw [h2, new_store]; rfl⟩
theorem ks_Do1 (s p : Nat) (q : Option Addr) : Fn Tryz.prog 24 [.pointer (some ⟨s, 0, none⟩), .slice q 1 1].toArray [RowF Kd.eff q [mkT], DkX p dk1, KsX s p ks1]
  (fun r post => r = .int .i64 0 ∧ post = [DkX p dk2, KsX s p ks2]) :=
 (ks_DoX s p dk1 ks1 q 1 [mkT] new_live.ok new_live.wf (by rw [new_len]; decide) (by rw [new_cnt]; decide) tD).mono fun r post ⟨h1, h2⟩ => ⟨by rw [h1, mk_done], h2⟩
theorem num21 (n : Int) : Fn Tryz.prog 19 [.int .i64 n].toArray [] (fun r post => r = .int .i64 n ∧ post = []) := by
 refine Fn.enter (N := 4) func19 rfl ntmps19 tK rfl (fun ρ L => ?_)
 refine ky<|ka rfl<|kz<|km rfl<|ka rfl<|zm ?_
 refine kr1 func19 results19 rfl (fun w hs => ?_)
 exact ⟨_, [], rfl, ⟨rfl, rfl⟩, hs.fitD⟩
theorem st_len1 {s' : Sz} {x : Ob} {n : Int} (h : s'.st = ⟨n, [x]⟩) : s'.l.length = 1 := by
 have := congrArg (fun s : Stt => s.objs.length) h
 simpa [Sz.st] using this
set_option maxHeartbeats 1600000 in
theorem alive21 : Fn Tryz.prog 10 ([] : List Value).toArray [] (fun r post => r = .bool true ∧ post = []) := by
 have hok2 := live2.ok
 refine Fn.enter (N := 38) func10 rfl ntmps10 tK rfl (fun ρ L => ?_)
 refine ky<|ka rfl<|kz<|kl (kc rfl (h := ks_Need)) ?_
 rintro _ _ ⟨_, ⟨rfl, rfl⟩, rfl⟩
 refine kl (kc rfl (h := dk_New 354)) ?_
 rintro _ _ ⟨_, ⟨p, rfl, rfl⟩, rfl⟩
 refine kl (kc rfl (h := ks_Open0 p)) ?_
 rintro _ _ ⟨_, ⟨s, rfl, rfl⟩, rfl⟩
 refine km rfl<|kq (qX rfl rfl)<|kq (qX rfl rfl)<|ka rfl<|ka rfl<|zm<|ke<|ky<|km rfl<|kl (kc rfl (h := num21 _)) ?_
 rintro _ _ ⟨_, ⟨rfl, rfl⟩, rfl⟩
 refine kq (q_ne rfl rfl)<|km rfl ?_
 refine KO.dsplit 14 rfl (fun g14 => ?_) (fun g14 => ?_)
 ·exact absurd g14 tD
 ·refine km rfl<|kq (q_pnil underlying36 rfl rfl)<|kq (qF rfl rfl)<|zm<|K.no rfl<|za<|ky<|km rfl<|kl (kc rfl (h := ks_EpochX s p ks1)) ?_
  rintro _ _ ⟨_, ⟨rfl, rfl⟩, rfl⟩
  refine ka rfl<|kz<|km rfl<|kq (q_as (q_build st_58 rfl tF) (show _ = mkT.cells from rfl))<|kl (lO sz_64_1 rfl rfl ⟨rfl, rfl, rfl⟩) ?_
  rintro _ _ ⟨b22, rfl, rfl⟩
  refine KO.st (fun w h => pv_effs [mkT] rfl h)<|kl (kc rfl (h := ks_Do1 s p (some ⟨b22, 0, none⟩))) ?_
  rintro _ _ ⟨_, ⟨rfl, rfl⟩, rfl⟩
  refine ka rfl<|kz<|km rfl<|kq (q_eqT rfl rfl (rfl))<|km rfl<|km rfl<|kl (kc rfl (h := num21 _)) ?_
  rintro _ _ ⟨_, ⟨rfl, rfl⟩, rfl⟩
  refine kq (q_eqT rfl rfl (rfl))<|kq (qT rfl rfl)<|km rfl<|km rfl<|kl (kc rfl (h := ks_StateX s p ks2 hok2)) ?_
  rintro _ _ ⟨_, ⟨sz, rfl, hst, hgd, rfl⟩, rfl⟩
  have hl1 : sz.l.length = 1 := st_len1 (hst.trans ks2_st)
  refine kq (q_fldV underlying47 rfl ck_45 rfl rfl)<|kq (qG underlying45 rfl)<|kq (q_eqT rfl rfl ((by rw [hl1]; rfl)))<|kq (qT rfl rfl)<|ka rfl<|zm ?_
  refine kr1 func10 results10 rfl (fun w hs => ?_)
  exact ⟨_, [], rfl, ⟨rfl, rfl⟩, hs.fitD⟩
end Go.Proofs.YtkbhldicnamcdaaGreat.L
namespace Go.Proofs.YtkbhldicnamcdaaGreat.L
open Go
theorem append_few {g : Lg} (hg : g.wf) (b : List UInt8) (d : Dk) : d.cnt ≤ (g.append b d).2.2.cnt ∧ (g.append b d).2.2.cnt ≤ d.cnt + 4097 := by
 by_cases hf : g.fits b.length = true
 ·have h1 := g.append_cnt b d
  have h2 := Lg.fits_need hg hf
  omega
 ·unfold Lg.append
  split
  ·exact ⟨Nat.le_refl _, Nat.le_add_right _ _⟩
  ·rw [if_pos (by simpa using hf)]; exact ⟨Nat.le_refl _, Nat.le_add_right _ _⟩
theorem kDo_few {k : Ks} {d : Dk} (hk : k.lg.wf) (hw : d.wf) (l : List Eff) : (kDo k l d).2.2.cnt ≤ d.cnt + 4194 := by
 unfold kDo
 split
 ·exact Nat.le_add_right _ _
 ·split
  ·exact Nat.le_add_right _ _
  ·split
   ·exact Nat.le_add_right _ _
   ·split
    ·exact Nat.le_add_right _ _
    ·show (kAppend k (effsBytes l) d).2.2.cnt ≤ _
     unfold kAppend
     split
     ·split
      ·exact Nat.le_add_right _ _
      ·dsimp only
       have h1 := kRenew_cnt k d
       split
       ·have h2 := append_few (kRenew_lg hw hk) (effsBytes l) (kRenew k d).2.2
        show (Lg.append _ _ _).2.2.cnt ≤ _
        omega
       ·omega
     ·have h2 := append_few hk (effsBytes l) d
      show (Lg.append _ _ _).2.2.cnt ≤ _
      omega
section
variable {key : Nat → ByteArray} {K : Nat} (hk : ∀ i j, i < K → j < K → cmpB (key i) (key j) = cmpI i j) (v : ByteArray)
include hk
end
end Go.Proofs.YtkbhldicnamcdaaGreat.L
namespace Go.Proofs.YtkbhldicnamcdaaGreat.L
open Go Go.Proofs
attribute [local irreducible] pv fv pt fz RowF RowO rowP old pure_ elA Rd.int Rd.text Rd.flag Rd.msg Rd.rint Rd.rtext Rd.rflag Rd.rmsg
open Go.RowKit Go.ChangeShapes
theorem Live.brk {k : Ks} {d : Dk} (h : Live k d) {n : Int} (hn : n ≤ 9223372036854775807) : Live k (d.brk n) := by
 have hnow : (d.brk n).now = d.now := by unfold Dk.brk; split <;> rfl
 have hl : (d.brk n).l = d.l := by unfold Dk.brk; split <;> rfl
 exact ⟨h.ic.congr hnow, by rw [hl]; exact h.l, h.wf.brk hn⟩
structure Kept (i : Nat) (k : Ks) (d : Dk) : Prop where
 live : Live k d
 size : k.st.size ≤ 6000
 ep : k.epoch ≤ 1 + i
 cnt : d.cnt ≤ 6 + 4194 * i
theorem kept0 : Kept 0 ks1 dk1 := ⟨new_live, by rw [ks1_size]; decide, by decide, by rw [new_cnt]; decide⟩
theorem Kept.brk {i : Nat} {k : Ks} {d : Dk} (h : Kept i k d) {n : Int} (hn : n ≤ 9223372036854775807) : Kept i k (d.brk n) := ⟨h.live.brk hn, h.size, h.ep, by rw [Dk.brk_cnt]; exact h.cnt⟩
theorem Kept.crash {i : Nat} {k : Ks} {d : Dk} (h : Kept i k d) (keep : List Bool) : Kept i k (d.crash keep) := ⟨h.live.crash keep, h.size, h.ep, h.cnt⟩
theorem Kept.len {i : Nat} {k : Ks} {d : Dk} (h : Kept i k d) : 354 ≤ d.len := by rw [h.live.ic.len]; decide
theorem Kept.top {i : Nat} {k : Ks} {d : Dk} (h : Kept i k d) (hi : i ≤ 1000) : k.epoch + 1 ≤ L.top := by have := h.ep; unfold L.top; omega
theorem Kept.done {i : Nat} {k : Ks} {d : Dk} {l : List Eff} (h : Kept i k d) (hi : i ≤ 1000) (hl : l.length ≤ 10000) : Done k l d := do_spec h.live h.size (h.top hi) hl
theorem Kept.step {i : Nat} {k : Ks} {d : Dk} {l : List Eff} (h : Kept i k d) (hi : i ≤ 1000) (hl : l.length ≤ 10000) (h12 : (kDo k l d).1 ≠ 12) : Kept (i + 1) (kDo k l d).2.1 (kDo k l d).2.2 := by
 have hd := h.done hi hl
 have hc := kDo_few h.live.ok.lg h.live.wf l
 have hcn := h.cnt
 have hep := h.ep
 by_cases c : (kDo k l d).1 = 0
 ·obtain ⟨_, a2, a3, a4, a5, a6⟩ := hd.ok c
  exact ⟨a2, by rw [a3]; exact a4, by omega, Nat.le_trans hc tO⟩
 ·have e := hd.no c h12
  rw [e]
  exact ⟨h.live, h.size, by show k.epoch ≤ _; omega, by show d.cnt ≤ _; omega⟩
structure Opens2 (i : Nat) (st : Stt) (d : Dk) : Prop where
 ok : (kOpen d).1 = 0
 ks : KsOk (kOpen d).2.1
 st : (kOpen d).2.1.st = freedS st
theorem opens_ic {i : Nat} {k : Ks} {D : Dk} {keep : List Bool} (hi : i ≤ 1000) (h : IC k (D.crash keep)) (hw : D.wf) (hz : k.st.size ≤ 6000) (hE : k.epoch ≤ 2 + i) : Opens2 i k.st (D.crash keep) := by
 have hl : Live k (D.crash keep) := ⟨h, rfl, hw.crash keep⟩
 have ha := open_spec hl hz (by unfold L.top; omega)
 have hf := ha.free rfl
 exact ⟨hf.1, (ha.ok hf.1).1.ok, (ha.ok hf.1).2.1⟩
theorem ref_freed {s : Stt} (h : s.right = true) : applyS s (claimsS s) = (freedS s, 0) := apply_claims h
end Go.Proofs.YtkbhldicnamcdaaGreat.L
namespace Go.Proofs.YtkbhldicnamcdaaGreat.L
open Go Go.Proofs
attribute [local irreducible] pv fv pt fz RowF RowO rowP old pure_ elA Rd.int Rd.text Rd.flag Rd.msg Rd.rint Rd.rtext Rd.rflag Rd.rmsg
structure Left2 (i : Nat) (a b : Stt) (D : Dk) : Prop where
 wf : D.wf
 len : 354 ≤ D.len
 cnt : D.cnt ≤ 6 + 4194 * (i + 1)
 ra : a.right = true
 rb : b.right = true
 safe : ∀ keep, ∃ k', IC k' (D.crash keep) ∧ (k'.st = a ∨ k'.st = b) ∧ k'.st.size ≤ 6000 ∧ k'.epoch ≤ 2 + i
theorem Kept.left {i : Nat} {k : Ks} {d : Dk} (h : Kept i k d) : Left2 i k.st k.st d :=
 ⟨h.live.wf, h.len, by have := h.cnt; omega, h.live.ok.right, h.live.ok.right, fun keep => ⟨k, (h.live.crash keep).ic, .inl rfl, h.size, by have := h.ep; omega⟩⟩
theorem Kept.broke {i : Nat} {k : Ks} {d : Dk} {l : List Eff} (h : Kept i k d) (hi : i ≤ 1000) (hl : l.length ≤ 10000) (h12 : (kDo k l d).1 = 12) : (applyS k.st l).2 = 0 ∧ Left2 i k.st (applyS k.st l).1 (kDo k l d).2.2 := by
 have hd := h.done hi hl
 obtain ⟨b1, b2, b3⟩ := hd.broke h12
 have hc := kDo_few h.live.ok.lg h.live.wf l
 have hcn := h.cnt
 have hep := h.ep
 have hr := apply_right b1
 refine ⟨b1, kDo_wf k l h.live.wf, by rw [kDo_len]; exact h.len, Nat.le_trans hc tO, hr.1, hr.2.1, fun keep => ?_⟩
 obtain ⟨k', c1, c2, c3⟩ := hd.safe keep
 refine ⟨k', c1, c2.imp id (fun e => e.2.1), ?_, by omega⟩
 rcases c2 with e | ⟨_, e, hz⟩
 ·rw [e]; exact h.size
 ·rw [e]; exact hz
theorem Left2.opens {i : Nat} {a b : Stt} {D : Dk} (h : Left2 i a b D) (hi : i ≤ 900) (keep : List Bool) : (D.crash keep).wf ∧ 354 ≤ (D.crash keep).len ∧ (D.crash keep).cnt ≤ 50000000 ∧ (kOpen (D.crash keep)).1 = 0 ∧ KsOk (kOpen (D.crash keep)).2.1 ∧ ((kOpen (D.crash keep)).2.1.st = freedS a ∨ (kOpen (D.crash keep)).2.1.st = freedS b) := by
 obtain ⟨k', c1, c2, c3, c4⟩ := h.safe keep
 have ho := opens_ic (i := i) tO c1 h.wf c3 c4
 have hcn := h.cnt
 exact ⟨h.wf.crash keep, by rw [Dk.crash_len]; exact h.len, by show D.cnt ≤ _; omega, ho.ok, ho.ks, c2.imp (fun e => by rw [ho.st, e]) (fun e => by rw [ho.st, e])⟩
end Go.Proofs.YtkbhldicnamcdaaGreat.L
namespace Go.Proofs.YtkbhldicnamcdaaGreat.L
open Go Go.Proofs
attribute [local irreducible] pv fv pt fz RowF RowO rowP old pure_ elA Rd.int Rd.text Rd.flag Rd.msg Rd.rint Rd.rtext Rd.rflag Rd.rmsg
attribute [local irreducible] DkX KsX
theorem good_ok {s : Sz} (hok : s.ok) (hr : s.st.right = true) (hc : s.st.cnt ≤ 40000) : s.good 40000 := ⟨st_small hr hc tD, hok.2.2.1, fun o ho => (hok.2.2.2 o ho).2⟩
set_option maxHeartbeats 6400000 in
theorem law_KeepSure (q : Option Addr) (c : Nat) (l : List (Sl Eff)) (left : Int) (qb : Option Addr) (cb : Nat) (bits : List Bool) (hlb : (l.length : Int) ≤ 9223372036854775807) (hxs : ∀ s ∈ l, s.l.length ≤ s.c ∧ (s.l.length : Int) ≤ 9223372036854775807) (hlf : left ≤ 9223372036854775807) (hbb : (bits.length : Int) ≤ 9223372036854775807) :
  Fn Tryz.prog 8 [.slice q l.length c, .int .i64 left, .slice qb bits.length cb].toArray [NestSl Kd.eff l, RowF Kd.effs q l, RowF Kd.boolK qb bits] (fun r post => r = .bool true ∧ post = []) := by
 refine Fn.enter (N := 151) func8 rfl ntmps8 tK rfl (fun ρ L => ?_)
 refine ky<|ka rfl<|kz<|kl (kc rfl (h := alive21)) ?_
 rintro _ _ ⟨_, ⟨rfl, rfl⟩, rfl⟩
 refine ka rfl<|zm<|ke<|ky<|km rfl<|kq (q_not rfl)<|km rfl ?_
 refine KO.split 28 rfl (fun g28 => ?_) (fun g28 => ?_)
 ·cases g28
 ·refine km rfl<|kq (qG underlying75 rfl)<|kq (q_gt rfl rfl)<|kq (qF rfl rfl)<|km rfl ?_
  refine KO.dsplit 33 rfl (fun g33 => ?_) (fun g33 => ?_)
  ·refine zq<|zq<|kq (qT rfl rfl)<|km rfl<|zq<|zq<|zq<|kq (qT rfl rfl)<|zm<|K.yes rfl<|ky<|km rfl<|ka rfl<|zm ?_
   refine kr1 func8 results8 rfl (fun w hs => ?_)
   exact ⟨_, [], rfl, ⟨rfl, rfl⟩, hs.fitD⟩
  ·refine km rfl<|kq (q_lt rfl rfl)<|kq (qF rfl rfl)<|km rfl ?_
   refine KO.dsplit 37 rfl (fun g37 => ?_) (fun g37 => ?_)
   ·refine zq<|zq<|zq<|kq (qT rfl rfl)<|zm<|K.yes rfl<|ky<|km rfl<|ka rfl<|zm ?_
    refine kr1 func8 results8 rfl (fun w hs => ?_)
    exact ⟨_, [], rfl, ⟨rfl, rfl⟩, hs.fitD⟩
   ·refine km rfl<|kq (qG underlying67 rfl)<|kq (q_gt rfl rfl)<|kq (qF rfl rfl)<|zm ?_
    refine kD (s := 41) rfl (fun g41 => ?_) (fun g41 => ?_)
    ·refine ky<|km rfl<|ka rfl<|zm ?_
     refine kr1 func8 results8 rfl (fun w hs => ?_)
     exact ⟨_, [], rfl, ⟨rfl, rfl⟩, hs.fitD⟩
    ·refine za<|ky<|kl (kc rfl (h := ks_Need)) ?_
     rintro _ _ ⟨_, ⟨rfl, rfl⟩, rfl⟩
     refine kl (kc rfl (h := dk_New 354)) ?_
     rintro _ _ ⟨_, ⟨p, rfl, rfl⟩, rfl⟩
     refine ka rfl<|kz<|km rfl<|kl (kc rfl (h := ks_Open0 p)) ?_
     rintro _ _ ⟨_, ⟨s, rfl, rfl⟩, rfl⟩
     refine km rfl<|kq (qX rfl rfl)<|kq (qX rfl rfl)<|ka rfl<|ka rfl<|zm<|ke<|ky<|km rfl<|kl (kc rfl (h := num21 _)) ?_
     rintro _ _ ⟨_, ⟨rfl, rfl⟩, rfl⟩
     refine kq (q_ne rfl rfl)<|km rfl ?_
     refine KO.dsplit 53 rfl (fun g53 => ?_) (fun g53 => ?_)
     ·exact absurd g53 tD
     ·refine km rfl<|kq (q_pnil underlying36 rfl rfl)<|kq (qF rfl rfl)<|zm<|K.no rfl<|za<|ky<|km rfl<|km rfl<|kl (kc rfl (h := dk_Break p dk1 left)) ?_
      rintro _ _ ⟨_, ⟨rfl, rfl⟩, rfl⟩
      refine zm<|ke ?_
      have hk0 := kept0.brk hlf
      refine kr<|km rfl<|kl (kc rfl (h := ks_StateX s p ks1 hk0.live.ok)) ?_
      rintro _ _ ⟨_, ⟨sz, rfl, hst0, hgd0, rfl⟩, rfl⟩
      have hsz0 := Sz.ok_of hgd0.sm hgd0.room hgd0.cap
      refine kl (lL zo_47) ?_
      rintro _ _ ⟨b11, rfl, rfl⟩
      refine kN rfl (lS ck_47 rfl rfl ⟨rfl, rfl⟩ (sz_one _) tP) ?_
      rintro _ _ ⟨rfl, rfl⟩
      refine kz<|kq (q_as_sz (l_ := sz.l) (qL ck_47 rfl rfl tC) rfl)<|kl (lL zo_47) ?_
      rintro _ _ ⟨b12, rfl, rfl⟩
      refine kN rfl (lS ck_47 rfl rfl ⟨rfl, rfl⟩ (sz_one _) tP) ?_
      rintro _ _ ⟨rfl, rfl⟩
      refine zm<|ke<|ky<|ka rfl<|zm ?_
      refine K.via (ι := { x : Nat × Dk × Sz × Sz // x.1 ≤ 25 ∧ Left2 x.1 x.2.2.1.st x.2.2.2.st x.2.1 ∧ x.2.2.1.ok ∧ x.2.2.2.ok ∧ x.2.2.1.st.cnt ≤ 40000 ∧ x.2.2.2.st.cnt ≤ 40000 }) (I := fun x => ([(2, .slice qb bits.length cb), (8, .pointer (some ⟨p, 0, none⟩)), (11, .pointer (some ⟨b11, 0, none⟩)), (12, .pointer (some ⟨b12, 0, none⟩))], [DkX p x.1.2.1, pv b11 47 x.1.2.2.1.cells, pv b12 47 x.1.2.2.2.cells] ++ StL x.1.2.2.1 ++ StL x.1.2.2.2 ++ [RowF Kd.boolK qb bits] ++ L)) (fun x => ?_) (fun cont => ?_)
      ·obtain ⟨⟨i, DD, sn, sa⟩, hi25, hL2, hsnok, hsaok, hcn, hca⟩ := x
       dsimp only at hi25 hL2 hsnok hsaok hcn hca ⊢
       have hga := good_ok hsaok hL2.rb hca
       have hgn := good_ok hsnok hL2.ra hcn
       refine ky<|km rfl<|km rfl<|kl (kc rfl (h := dk_Crash (RowF Kd.boolK qb bits) p DD qb cb bits isF hL2.wf (by have := hL2.cnt; omega))) ?_
       rintro _ _ ⟨_, ⟨rfl, rfl⟩, rfl⟩
       obtain ⟨o1, o2, o3, o4, o5, o6⟩ := hL2.opens tO bits
       obtain ⟨D4, hD4⟩ : ∃ D4, D4 = DD.crash bits := ⟨_, rfl⟩
       rw [← hD4] at o1 o2 o3 o4 o5 o6 ⊢
       refine kz<|km rfl<|kl (kc rfl (h := ks_OpenG p D4 o1 o2 tO o4)) ?_
       rintro _ _ ⟨_, ⟨t, rfl, rfl⟩, rfl⟩
       obtain ⟨k5, hk5⟩ : ∃ k5, k5 = (kOpen D4).2.1 := ⟨_, rfl⟩
       rw [← hk5] at o5 o6 ⊢
       refine km rfl<|kq (qX rfl rfl)<|kq (qX rfl rfl)<|ka rfl<|ka rfl<|zm<|ke<|ky<|km rfl<|kl (kc rfl (h := num21 _)) ?_
       rintro _ _ ⟨_, ⟨rfl, rfl⟩, rfl⟩
       refine kq (q_ne rfl rfl)<|km rfl ?_
       refine KO.dsplit 123 rfl (fun g123 => ?_) (fun g123 => ?_)
       ·exact absurd g123 tD
       ·refine km rfl<|kq (q_pnil underlying36 rfl rfl)<|kq (qF rfl rfl)<|zm<|K.no rfl<|za<|ke ?_
        refine K.via (ι := { x : Nat × Sz // x.2.st = freedS sn.st }) (I := fun x => ([(21, .pointer (some ⟨x.1.1, 0, none⟩)), (12, .pointer (some ⟨b12, 0, none⟩)), (19, .pointer (some ⟨t, 0, none⟩))], [KsX t p k5, pv b12 47 sa.cells, pv x.1.1 47 x.1.2.cells] ++ StL sa ++ StL x.1.2 ++ L)) (fun x => ?_) (fun cont => ?_)
        ·obtain ⟨⟨b21, sra⟩, ha2⟩ := x
         dsimp only at ha2 ⊢
         refine ke ?_
         refine K.via (ι := { x : Nat × Sz // x.2.st = freedS sa.st }) (I := fun x => ([(21, .pointer (some ⟨b21, 0, none⟩)), (23, .pointer (some ⟨x.1.1, 0, none⟩)), (19, .pointer (some ⟨t, 0, none⟩))], [KsX t p k5, pv b21 47 sra.cells, pv x.1.1 47 x.1.2.cells] ++ StL sra ++ StL x.1.2 ++ L)) (fun x => ?_) (fun cont => ?_)
         ·obtain ⟨⟨b23, srb⟩, hb2⟩ := x
          dsimp only at hb2 ⊢
          refine ke<|K.drawS [pv b21 47 sra.cells, pv b23 47 srb.cells] (fun _ h => h.subD) mixed<|dq 0 rfl (q_move rfl)<|dq 2 rfl (q_as_sz (l_ := sra.l) (qL ck_47 rfl rfl tC) rfl)<|dq1 1 rfl (kc rfl (h := ks_StateX t p k5 o5)) (.inr (by rintro _ _ ⟨_, ⟨sz5, rfl, hst5, hgd5, rfl⟩, rfl⟩ w h; exact h.subD)) ?_
          rintro _ _ ⟨_, ⟨sz5, rfl, hst5, hgd5, rfl⟩, rfl⟩
          have hsz5ok := Sz.ok_of hgd5.sm hgd5.room hgd5.cap
          refine dq1 3 rfl (kc rfl (h := ref_SameState sz5 sra hsz5ok)) (.inl tK) ?_
          rintro _ _ ⟨_, ⟨rfl, rfl⟩, rfl⟩
          refine dq 4 rfl (q_move rfl) ?_
          refine D.split 145 rfl (fun g145 => ?_) (fun g145 => ?_)
          ·refine dk 5 rfl<|dk 6 rfl<|dk 7 rfl<|dk 8 rfl<|dq 9 rfl (qT rfl rfl)<|dq 10 rfl (q_assign rfl)<|D.done tK ?_
           refine kr1 func8 results8 rfl (fun w hs => ?_)
           exact ⟨_, [], rfl, ⟨rfl, rfl⟩, hs.fitD⟩
          ·refine dq 5 rfl (q_move rfl)<|dq 7 rfl (q_as_sz (l_ := srb.l) (qL ck_47 rfl rfl tC) rfl)<|dq1 6 rfl (kc rfl (h := ks_StateX t p k5 o5)) (.inr (by rintro _ _ ⟨_, ⟨sz6, rfl, hst6, hgd6, rfl⟩, rfl⟩ w h; exact h.subD)) ?_
           rintro _ _ ⟨_, ⟨sz6, rfl, hst6, hgd6, rfl⟩, rfl⟩
           have hsz6ok := Sz.ok_of hgd6.sm hgd6.room hgd6.cap
           refine dq1 8 rfl (kc rfl (h := ref_SameState sz6 srb hsz6ok)) (.inl tK) ?_
           rintro _ _ ⟨_, ⟨rfl, rfl⟩, rfl⟩
           rw [decide_eq_true (show sz6.st = srb.st by
            rw [hst6, hb2]
            rcases o6 with e | e
            ·exact absurd (show sz5.st = sra.st by rw [hst5, ha2, e]) (of_decide_eq_false g145)
            ·exact e)]
           refine dq 9 rfl (qF rfl rfl)<|dq 10 rfl (q_assign rfl)<|D.done tK ?_
           refine kr1 func8 results8 rfl (fun w hs => ?_)
           exact ⟨_, [], rfl, ⟨rfl, rfl⟩, hs.fitD⟩
         ·refine K.drawS [pv b12 47 sa.cells] (fun _ h => h.subD) mixed<|dq 0 rfl (q_as_sz (l_ := sa.l) (qL ck_47 rfl rfl tC) rfl)<|dq 1 rfl (q_as_sz (l_ := sa.l) (qL ck_47 rfl rfl tC) rfl) ?_
          refine D.all (rs := [2, 7]) tK rfl (DAll.cons rfl tK (kc rfl (h := ref_Claims sa 40000 hga (by have := claims_cnt sa.st; omega) tD)) (.inr (by rintro _ _ ⟨_, ⟨pb, cb2, rfl, rfl⟩, rfl⟩ w h; exact h.subD)) rfl ?_ (DAll.cons rfl tK (lL zo_47) (.inr (by rintro _ _ ⟨b23, rfl, rfl⟩ w h; exact h.subD)) rfl ?_ DAll.nil))
          ·rintro _ _ ⟨_, ⟨pb, cb2, rfl, rfl⟩, rfl⟩
           refine D.all (rs := [3, 7]) tK rfl (DAll.cons rfl tK (kc rfl (h := ref_Apply (RowO Kd.eff 58 pb cb2 (claimsS sa.st)) sa pb cb2 (claimsS sa.st) isO hsaok (by have := claims_cnt sa.st; omega))) (.inl tK) rfl ?_ (DAll.cons rfl tK (lL zo_47) (.inr (by rintro _ _ ⟨b23, rfl, rfl⟩ w h; exact h.subD)) rfl ?_ DAll.nil))
           ·rintro _ _ ⟨_, ⟨srb, rfl, hsrb, rfl, hsrbok⟩, rfl⟩
            refine dq 4 rfl (q_move rfl)<|dq 5 rfl (qX rfl rfl)<|dq 6 rfl (qX rfl rfl)<|dq1 7 rfl (lL zo_47) (.inr (by rintro _ _ ⟨b23, rfl, rfl⟩ w h; exact h.subD)) ?_
            rintro _ _ ⟨b23, rfl, rfl⟩
            refine dq1N 8 rfl (lS ck_47 rfl rfl ⟨rfl, rfl⟩ (sz_one _) tP) (.inr (by rintro _ _ ⟨rfl, rfl⟩ w h; exact h.subD)) ?_
            rintro _ _ ⟨rfl, rfl⟩
            refine dq 9 rfl (q_assign rfl)<|D.done tK ?_
            exact K.weak tS (fun w h => h.fitD) (cont ⟨(b23, srb), by show srb.st = _; rw [hsrb, ref_freed hL2.rb]⟩)
           ·rintro _ _ ⟨b23, rfl, rfl⟩
            refine dq1 3 rfl (kc rfl (h := ref_Apply (RowO Kd.eff 58 pb cb2 (claimsS sa.st)) sa pb cb2 (claimsS sa.st) isO hsaok (by have := claims_cnt sa.st; omega))) (.inl tK) ?_
            rintro _ _ ⟨_, ⟨srb, rfl, hsrb, rfl, hsrbok⟩, rfl⟩
            refine dq 4 rfl (q_move rfl)<|dq 5 rfl (qX rfl rfl)<|dq 6 rfl (qX rfl rfl)<|dq1N 8 rfl (lS ck_47 rfl rfl ⟨rfl, rfl⟩ (sz_one _) tP) (.inr (by rintro _ _ ⟨rfl, rfl⟩ w h; exact h.subD)) ?_
            rintro _ _ ⟨rfl, rfl⟩
            refine dq 9 rfl (q_assign rfl)<|D.done tK ?_
            exact K.weak tS (fun w h => h.fitD) (cont ⟨(b23, srb), by show srb.st = _; rw [hsrb, ref_freed hL2.rb]⟩)
          ·rintro _ _ ⟨b23, rfl, rfl⟩
           refine dq1 2 rfl (kc rfl (h := ref_Claims sa 40000 hga (by have := claims_cnt sa.st; omega) tD)) (.inr (by rintro _ _ ⟨_, ⟨pb, cb2, rfl, rfl⟩, rfl⟩ w h; exact h.subD)) ?_
           rintro _ _ ⟨_, ⟨pb, cb2, rfl, rfl⟩, rfl⟩
           refine dq1 3 rfl (kc rfl (h := ref_Apply (RowO Kd.eff 58 pb cb2 (claimsS sa.st)) sa pb cb2 (claimsS sa.st) isO hsaok (by have := claims_cnt sa.st; omega))) (.inl tK) ?_
           rintro _ _ ⟨_, ⟨srb, rfl, hsrb, rfl, hsrbok⟩, rfl⟩
           refine dq 4 rfl (q_move rfl)<|dq 5 rfl (qX rfl rfl)<|dq 6 rfl (qX rfl rfl)<|dq1N 8 rfl (lS ck_47 rfl rfl ⟨rfl, rfl⟩ (sz_one _) tP) (.inr (by rintro _ _ ⟨rfl, rfl⟩ w h; exact h.subD)) ?_
           rintro _ _ ⟨rfl, rfl⟩
           refine dq 9 rfl (q_assign rfl)<|D.done tK ?_
           exact K.weak tS (fun w h => h.fitD) (cont ⟨(b23, srb), by show srb.st = _; rw [hsrb, ref_freed hL2.rb]⟩)
        ·refine K.drawS [pv b11 47 sn.cells] (fun _ h => h.subD) mixed<|dq 0 rfl (q_as_sz (l_ := sn.l) (qL ck_47 rfl rfl tC) rfl)<|dq 1 rfl (q_as_sz (l_ := sn.l) (qL ck_47 rfl rfl tC) rfl) ?_
         refine D.all (rs := [2, 7]) tK rfl (DAll.cons rfl tK (kc rfl (h := ref_Claims sn 40000 hgn (by have := claims_cnt sn.st; omega) tD)) (.inr (by rintro _ _ ⟨_, ⟨pa, ca2, rfl, rfl⟩, rfl⟩ w h; exact h.subD)) rfl ?_ (DAll.cons rfl tK (lL zo_47) (.inr (by rintro _ _ ⟨b21, rfl, rfl⟩ w h; exact h.subD)) rfl ?_ DAll.nil))
         ·rintro _ _ ⟨_, ⟨pa, ca2, rfl, rfl⟩, rfl⟩
          refine D.all (rs := [3, 7]) tK rfl (DAll.cons rfl tK (kc rfl (h := ref_Apply (RowO Kd.eff 58 pa ca2 (claimsS sn.st)) sn pa ca2 (claimsS sn.st) isO hsnok (by have := claims_cnt sn.st; omega))) (.inl tK) rfl ?_ (DAll.cons rfl tK (lL zo_47) (.inr (by rintro _ _ ⟨b21, rfl, rfl⟩ w h; exact h.subD)) rfl ?_ DAll.nil))
          ·rintro _ _ ⟨_, ⟨sra, rfl, hsra, rfl, hsraok⟩, rfl⟩
           refine dq 4 rfl (q_move rfl)<|dq 5 rfl (qX rfl rfl)<|dq 6 rfl (qX rfl rfl)<|dq1 7 rfl (lL zo_47) (.inr (by rintro _ _ ⟨b21, rfl, rfl⟩ w h; exact h.subD)) ?_
           rintro _ _ ⟨b21, rfl, rfl⟩
           refine dq1N 8 rfl (lS ck_47 rfl rfl ⟨rfl, rfl⟩ (sz_one _) tP) (.inr (by rintro _ _ ⟨rfl, rfl⟩ w h; exact h.subD)) ?_
           rintro _ _ ⟨rfl, rfl⟩
           refine dq 9 rfl (q_assign rfl)<|D.done tK ?_
           exact K.weak tS (fun w h => h.fitD) (cont ⟨(b21, sra), by show sra.st = _; rw [hsra, ref_freed hL2.ra]⟩)
          ·rintro _ _ ⟨b21, rfl, rfl⟩
           refine dq1 3 rfl (kc rfl (h := ref_Apply (RowO Kd.eff 58 pa ca2 (claimsS sn.st)) sn pa ca2 (claimsS sn.st) isO hsnok (by have := claims_cnt sn.st; omega))) (.inl tK) ?_
           rintro _ _ ⟨_, ⟨sra, rfl, hsra, rfl, hsraok⟩, rfl⟩
           refine dq 4 rfl (q_move rfl)<|dq 5 rfl (qX rfl rfl)<|dq 6 rfl (qX rfl rfl)<|dq1N 8 rfl (lS ck_47 rfl rfl ⟨rfl, rfl⟩ (sz_one _) tP) (.inr (by rintro _ _ ⟨rfl, rfl⟩ w h; exact h.subD)) ?_
           rintro _ _ ⟨rfl, rfl⟩
           refine dq 9 rfl (q_assign rfl)<|D.done tK ?_
           exact K.weak tS (fun w h => h.fitD) (cont ⟨(b21, sra), by show sra.st = _; rw [hsra, ref_freed hL2.ra]⟩)
         ·rintro _ _ ⟨b21, rfl, rfl⟩
          refine dq1 2 rfl (kc rfl (h := ref_Claims sn 40000 hgn (by have := claims_cnt sn.st; omega) tD)) (.inr (by rintro _ _ ⟨_, ⟨pa, ca2, rfl, rfl⟩, rfl⟩ w h; exact h.subD)) ?_
          rintro _ _ ⟨_, ⟨pa, ca2, rfl, rfl⟩, rfl⟩
          refine dq1 3 rfl (kc rfl (h := ref_Apply (RowO Kd.eff 58 pa ca2 (claimsS sn.st)) sn pa ca2 (claimsS sn.st) isO hsnok (by have := claims_cnt sn.st; omega))) (.inl tK) ?_
          rintro _ _ ⟨_, ⟨sra, rfl, hsra, rfl, hsraok⟩, rfl⟩
          refine dq 4 rfl (q_move rfl)<|dq 5 rfl (qX rfl rfl)<|dq 6 rfl (qX rfl rfl)<|dq1N 8 rfl (lS ck_47 rfl rfl ⟨rfl, rfl⟩ (sz_one _) tP) (.inr (by rintro _ _ ⟨rfl, rfl⟩ w h; exact h.subD)) ?_
          rintro _ _ ⟨rfl, rfl⟩
          refine dq 9 rfl (q_assign rfl)<|D.done tK ?_
          exact K.weak tS (fun w h => h.fitD) (cont ⟨(b21, sra), by show sra.st = _; rw [hsra, ref_freed hL2.ra]⟩)
      ·refine kB ?_
       refine kX (ι := { x : Nat × Ks × Dk × Sz × Sz // x.1 ≤ l.length ∧ Kept x.1 x.2.1 x.2.2.1 ∧ x.2.2.2.1.st = x.2.1.st ∧ x.2.2.2.1.ok ∧ x.2.2.2.2.st = x.2.1.st ∧ x.2.2.2.2.ok }) (fun x => [(13, .int .i64 x.1.1), (0, .slice q l.length c), (1, .int .i64 left), (2, .slice qb bits.length cb), (9, .pointer (some ⟨s, 0, none⟩)), (8, .pointer (some ⟨p, 0, none⟩)), (11, .pointer (some ⟨b11, 0, none⟩)), (12, .pointer (some ⟨b12, 0, none⟩))]) (fun x => [DkX p x.1.2.2.1, KsX s p x.1.2.1, pv b11 47 x.1.2.2.2.1.cells, pv b12 47 x.1.2.2.2.2.cells] ++ StL x.1.2.2.2.1 ++ StL x.1.2.2.2.2 ++ [NestSl Kd.eff l, RowF Kd.effs q l, RowF Kd.boolK qb bits] ++ L) (fun x => l.length - x.1.1) ⟨(0, ks1, dk1.brk left, sz, sz), Nat.zero_le _, hk0, hst0, hsz0, hst0, hsz0⟩ tS (fun w h => h.fitD) (fun x ih => ?_)
       obtain ⟨⟨i, kk, dd, sn, sa⟩, hi, hkp, hsn, hsnok, hsa, hsaok⟩ := x
       dsimp only at hi hkp hsn hsnok hsa hsaok ⊢
       have hokk := hkp.live.ok
       have hcn := hkp.cnt
       have hok1 := hokk.right
       have hcc : sn.st.cnt ≤ 30000 := by rw [hsn]; exact hokk.cnt
       refine ke<|ky<|km rfl<|km rfl<|kq (qG underlying75 rfl)<|kq (q_lt rfl rfl)<|zm ?_
       refine kD (s := 66) rfl (fun g66 => ?_) (fun g66 => ?_)
       ·obtain ⟨e, he⟩ : ∃ e, l[i]? = some e := ⟨_, List.getElem?_eq_getElem tO⟩
        have hil := (List.getElem?_eq_some_iff.1 he).1
        have hme := List.mem_of_getElem? he
        have hxe := hxs e hme
        refine K.st (fun w h => nestSl_at (l := l) (s := e) tM hme h)<|za<|ke<|kB<|ke<|ky<|km rfl<|km rfl<|kq (q_ix (xs := l) i se_75 rfl rfl rfl isF tM rfl hil)<|kq (q_ldE (xs := l) ck_64 rfl isF tM he rfl)<|kq (qG underlying64 rfl)<|kq (q_gt rfl rfl)<|zm ?_
        refine kD (s := 74) rfl (fun g74 => ?_) (fun g74 => ?_)
        ·refine ky<|ka rfl<|zm ?_
         refine kr1 func8 results8 rfl (fun w hs => ?_)
         exact ⟨_, [], rfl, ⟨rfl, rfl⟩, hs.fitD⟩
        ·have g74' : ¬ 10 < (e.l.length : Int) := g74
         have hel : e.l.length ≤ 10 := by omega
         have hbk := hkp.broke (l := e.l) tO tO
         have hsp := hkp.step (l := e.l) tO tO
         have hdok := (hkp.done (l := e.l) tO tO).ok
         have hdno := (hkp.done (l := e.l) tO tO).no
         have hac := apply_cnt kk.st e.l
         refine za<|ky<|km rfl<|km rfl<|km rfl<|kq (q_ix (xs := l) i se_75 rfl rfl rfl isF tM rfl hil)<|kq (q_ldE (xs := l) ck_64 rfl isF tM he rfl)<|kl (kc rfl (h := ks_DoX s p dd kk e.q e.c e.l hokk hkp.live.wf hkp.len tO tO)) ?_
         rintro _ _ ⟨_, ⟨rfl, rfl⟩, rfl⟩
         obtain ⟨e2, kk2, dd2, hkd⟩ : ∃ e2 kk2 dd2, kDo kk e.l dd = (e2, kk2, dd2) := ⟨_, _, _, rfl⟩
         rw [hkd] at hbk hsp hdok hdno
         simp only [hkd]
         dsimp only at hbk hsp hdok hdno
         refine ka rfl<|zm<|ke<|ky<|km rfl<|kl (kc rfl (h := num21 _)) ?_
         rintro _ _ ⟨_, ⟨rfl, rfl⟩, rfl⟩
         refine kq (q_eq rfl rfl)<|zm ?_
         refine kD (s := 83) rfl (fun g83 => ?_) (fun g83 => ?_)
         ·refine ke ?_
          refine K.via (ι := { x : Nat × Sz // x.2.st = (applyS sn.st e.l).1 ∧ x.2.ok }) (I := fun x => ([(15, .pointer (some ⟨x.1.1, 0, none⟩)), (16, .int .i64 (applyS sn.st e.l).2), (2, .slice qb bits.length cb), (8, .pointer (some ⟨p, 0, none⟩)), (11, .pointer (some ⟨b11, 0, none⟩)), (12, .pointer (some ⟨b12, 0, none⟩))], [DkX p dd2, pv b11 47 sn.cells, pv b12 47 sa.cells, pv x.1.1 47 x.1.2.cells] ++ StL sn ++ StL x.1.2 ++ [RowF Kd.boolK qb bits] ++ L)) (fun x => ?_) (fun cont18 => ?_)
          ·obtain ⟨⟨b15, sx⟩, hsx, hsxok⟩ := x
           dsimp only at hsx hsxok ⊢
           refine ke<|ky<|km rfl<|kq (q_eq rfl rfl)<|zm ?_
           refine kD (s := 94) rfl (fun g94 => ?_) (fun g94 => ?_)
           ·have hL2 : Left2 i sn.st sx.st dd2 := by rw [hsx, hsn]; exact (hbk g83).2
            have hca : sx.st.cnt ≤ 40000 := by rw [hsx, hsn]; rw [hsn] at hcc; omega
            clear ih
            refine kr<|kq (q_as_sz (l_ := sx.l) (qL ck_47 rfl rfl tC) rfl)<|kN rfl (lS ck_47 rfl rfl ⟨rfl, rfl⟩ (sz_one _) tP) ?_
            rintro _ _ ⟨rfl, rfl⟩
            refine zm<|K.exit rfl ?_
            exact K.weak tS (fun w h => h.fitD) (cont ⟨(i, dd2, sn, sx), by show i ≤ 25; omega, hL2, hsnok, hsxok, by show sn.st.cnt ≤ _; omega, hca⟩)
           ·exact absurd (show (applyS sn.st e.l).2 = 0 by rw [hsn]; exact (hbk g83).1) g94
          ·refine K.drawS [pv b11 47 sn.cells, RowF Kd.effs q l] (fun _ h => h.subD) mixed<|dq 0 rfl (q_as_sz (l_ := sn.l) (qL ck_47 rfl rfl tC) rfl)<|dq 1 rfl (q_move rfl)<|dq 2 rfl (q_move rfl)<|dq 3 rfl (q_ix (xs := l) i se_75 rfl rfl rfl isF tM rfl hil)<|dq 4 rfl (q_ldE (xs := l) ck_64 rfl isF tM he rfl) ?_
           refine D.all (rs := [5, 9]) tK rfl (DAll.cons rfl tK (kc rfl (h := ref_Apply (RowF Kd.eff e.q e.l) sn e.q e.c e.l isF hsnok tO)) (.inr (by rintro _ _ ⟨_, ⟨sx, rfl, hsx, rfl, hsxok⟩, rfl⟩ w h; exact h.subD)) rfl ?_ (DAll.cons rfl tK (lL zo_47) (.inr (by rintro _ _ ⟨b15, rfl, rfl⟩ w h; exact h.subD)) rfl ?_ DAll.nil))
           ·rintro _ _ ⟨_, ⟨sx, rfl, hsx, rfl, hsxok⟩, rfl⟩
            refine dq 6 rfl (q_move rfl)<|dq 7 rfl (qX rfl rfl)<|dq 8 rfl (qX rfl rfl)<|dq1 9 rfl (lL zo_47) (.inr (by rintro _ _ ⟨b15, rfl, rfl⟩ w h; exact h.subD)) ?_
            rintro _ _ ⟨b15, rfl, rfl⟩
            refine dq1N 10 rfl (lS ck_47 rfl rfl ⟨rfl, rfl⟩ (sz_one _) tP) (.inr (by rintro _ _ ⟨rfl, rfl⟩ w h; exact h.subD)) ?_
            rintro _ _ ⟨rfl, rfl⟩
            refine dq 11 rfl (q_assign rfl)<|D.done tK ?_
            exact K.weak tS (fun w h => h.fitD) (cont18 ⟨(b15, sx), hsx, hsxok⟩)
           ·rintro _ _ ⟨b15, rfl, rfl⟩
            refine dq1 5 rfl (kc rfl (h := ref_Apply (RowF Kd.eff e.q e.l) sn e.q e.c e.l isF hsnok tO)) (.inr (by rintro _ _ ⟨_, ⟨sx, rfl, hsx, rfl, hsxok⟩, rfl⟩ w h; exact h.subD)) ?_
            rintro _ _ ⟨_, ⟨sx, rfl, hsx, rfl, hsxok⟩, rfl⟩
            refine dq 6 rfl (q_move rfl)<|dq 7 rfl (qX rfl rfl)<|dq 8 rfl (qX rfl rfl)<|dq1N 10 rfl (lS ck_47 rfl rfl ⟨rfl, rfl⟩ (sz_one _) tP) (.inr (by rintro _ _ ⟨rfl, rfl⟩ w h; exact h.subD)) ?_
            rintro _ _ ⟨rfl, rfl⟩
            refine dq 11 rfl (q_assign rfl)<|D.done tK ?_
            exact K.weak tS (fun w h => h.fitD) (cont18 ⟨(b15, sx), hsx, hsxok⟩)
         ·refine za<|ke<|K.drawS [pv b11 47 sn.cells, RowF Kd.effs q l] (fun _ h => h.subD) mixed<|dq 0 rfl (q_as_sz (l_ := sn.l) (qL ck_47 rfl rfl tC) rfl)<|dq 1 rfl (q_move rfl)<|dq 2 rfl (q_move rfl)<|dq 3 rfl (q_ix (xs := l) i se_75 rfl rfl rfl isF tM rfl hil)<|dq 4 rfl (q_ldE (xs := l) ck_64 rfl isF tM he rfl) ?_
          refine D.all (rs := [5, 9]) tK rfl (DAll.cons rfl tK (kc rfl (h := ref_Apply (RowF Kd.eff e.q e.l) sn e.q e.c e.l isF hsnok tO)) (.inr (by rintro _ _ ⟨_, ⟨sy, rfl, hsy, rfl, hsyok⟩, rfl⟩ w h; exact h.subD)) rfl ?_ (DAll.cons rfl tK (lL zo_47) (.inr (by rintro _ _ ⟨b17, rfl, rfl⟩ w h; exact h.subD)) rfl ?_ DAll.nil))
          ·rintro _ _ ⟨_, ⟨sy, rfl, hsy, rfl, hsyok⟩, rfl⟩
           refine dq 6 rfl (q_move rfl)<|dq 7 rfl (qX rfl rfl)<|dq 8 rfl (qX rfl rfl)<|dq1 9 rfl (lL zo_47) (.inr (by rintro _ _ ⟨b17, rfl, rfl⟩ w h; exact h.subD)) ?_
           rintro _ _ ⟨b17, rfl, rfl⟩
           refine dq1N 10 rfl (lS ck_47 rfl rfl ⟨rfl, rfl⟩ (sz_one _) tP) (.inr (by rintro _ _ ⟨rfl, rfl⟩ w h; exact h.subD)) ?_
           rintro _ _ ⟨rfl, rfl⟩
           refine dq 11 rfl (q_assign rfl)<|D.done tK<|ky<|km rfl<|kl (kc rfl (h := num21 _)) ?_
           rintro _ _ ⟨_, ⟨rfl, rfl⟩, rfl⟩
           refine kq (q_eq rfl rfl)<|zm ?_
           refine kD (s := 107) rfl (fun g107 => ?_) (fun g107 => ?_)
           ·refine ke<|ky<|km rfl<|kq (q_ne rfl rfl)<|zm ?_
            refine kD (s := 109) rfl (fun g109 => ?_) (fun g109 => ?_)
            ·exact absurd (show (applyS sn.st e.l).2 = 0 by rw [hsn]; exact (hdok g107).1) g109
            ·have hys : sy.st = kk2.st := by rw [hsy, hsn, (hdok g107).2.2.1]
             refine za<|ky<|kq (q_as_sz (l_ := sy.l) (qL ck_47 rfl rfl tC) rfl)<|kN rfl (lS ck_47 rfl rfl ⟨rfl, rfl⟩ (sz_one _) tP) ?_
             rintro _ _ ⟨rfl, rfl⟩
             refine zm<|kr<|kq (q_as_sz (l_ := sy.l) (qL ck_47 rfl rfl tC) rfl)<|kN rfl (lS ck_47 rfl rfl ⟨rfl, rfl⟩ (sz_one _) tP) ?_
             rintro _ _ ⟨rfl, rfl⟩
             refine zm<|zd<|kr<|km rfl<|kq (q_add rfl rfl tN tN)<|ka rfl<|zm ?_
             exact K.weak tS (fun w h => h.fitD) (ih ⟨(i + 1, kk2, dd2, sy, sy), by show i + 1 ≤ l.length; omega, hsp g83, hys, hsyok, hys, hsyok⟩ (by show l.length - (i + 1) < l.length - i; omega))
           ·have hkq : kk2 = kk := congrArg Prod.fst (hdno g107 g83)
            refine za<|zd<|kr<|km rfl<|kq (q_add rfl rfl tN tN)<|ka rfl<|zm ?_
            exact K.weak tS (fun w h => h.fitD) (ih ⟨(i + 1, kk2, dd2, sn, sa), by show i + 1 ≤ l.length; omega, hsp g83, by rw [hkq]; exact hsn, hsnok, by rw [hkq]; exact hsa, hsaok⟩ (by show l.length - (i + 1) < l.length - i; omega))
          ·rintro _ _ ⟨b17, rfl, rfl⟩
           refine dq1 5 rfl (kc rfl (h := ref_Apply (RowF Kd.eff e.q e.l) sn e.q e.c e.l isF hsnok tO)) (.inr (by rintro _ _ ⟨_, ⟨sy, rfl, hsy, rfl, hsyok⟩, rfl⟩ w h; exact h.subD)) ?_
           rintro _ _ ⟨_, ⟨sy, rfl, hsy, rfl, hsyok⟩, rfl⟩
           refine dq 6 rfl (q_move rfl)<|dq 7 rfl (qX rfl rfl)<|dq 8 rfl (qX rfl rfl)<|dq1N 10 rfl (lS ck_47 rfl rfl ⟨rfl, rfl⟩ (sz_one _) tP) (.inr (by rintro _ _ ⟨rfl, rfl⟩ w h; exact h.subD)) ?_
           rintro _ _ ⟨rfl, rfl⟩
           refine dq 11 rfl (q_assign rfl)<|D.done tK<|ky<|km rfl<|kl (kc rfl (h := num21 _)) ?_
           rintro _ _ ⟨_, ⟨rfl, rfl⟩, rfl⟩
           refine kq (q_eq rfl rfl)<|zm ?_
           refine kD (s := 107) rfl (fun g107 => ?_) (fun g107 => ?_)
           ·refine ke<|ky<|km rfl<|kq (q_ne rfl rfl)<|zm ?_
            refine kD (s := 109) rfl (fun g109 => ?_) (fun g109 => ?_)
            ·exact absurd (show (applyS sn.st e.l).2 = 0 by rw [hsn]; exact (hdok g107).1) g109
            ·have hys : sy.st = kk2.st := by rw [hsy, hsn, (hdok g107).2.2.1]
             refine za<|ky<|kq (q_as_sz (l_ := sy.l) (qL ck_47 rfl rfl tC) rfl)<|kN rfl (lS ck_47 rfl rfl ⟨rfl, rfl⟩ (sz_one _) tP) ?_
             rintro _ _ ⟨rfl, rfl⟩
             refine zm<|kr<|kq (q_as_sz (l_ := sy.l) (qL ck_47 rfl rfl tC) rfl)<|kN rfl (lS ck_47 rfl rfl ⟨rfl, rfl⟩ (sz_one _) tP) ?_
             rintro _ _ ⟨rfl, rfl⟩
             refine zm<|zd<|kr<|km rfl<|kq (q_add rfl rfl tN tN)<|ka rfl<|zm ?_
             exact K.weak tS (fun w h => h.fitD) (ih ⟨(i + 1, kk2, dd2, sy, sy), by show i + 1 ≤ l.length; omega, hsp g83, hys, hsyok, hys, hsyok⟩ (by show l.length - (i + 1) < l.length - i; omega))
           ·have hkq : kk2 = kk := congrArg Prod.fst (hdno g107 g83)
            refine za<|zd<|kr<|km rfl<|kq (q_add rfl rfl tN tN)<|ka rfl<|zm ?_
            exact K.weak tS (fun w h => h.fitD) (ih ⟨(i + 1, kk2, dd2, sn, sa), by show i + 1 ≤ l.length; omega, hsp g83, by rw [hkq]; exact hsn, hsnok, by rw [hkq]; exact hsa, hsaok⟩ (by show l.length - (i + 1) < l.length - i; omega))
       ·have hL2 : Left2 i sn.st sa.st dd := by rw [hsn, hsa]; exact hkp.left
        have hca : sa.st.cnt ≤ 40000 := by rw [hsa]; have := hokk.cnt; omega
        clear ih
        refine K.exit rfl ?_
        exact K.weak tS (fun w h => h.fitD) (cont ⟨(i, dd, sn, sa), by show i ≤ 25; omega, hL2, hsnok, hsaok, by show sn.st.cnt ≤ _; omega, hca⟩)
end Go.Proofs.YtkbhldicnamcdaaGreat.L
