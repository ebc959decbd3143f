/- Walks: messages and objects read. -/
import Derived.Test.YtlellgnklohclaaD3
namespace Go.Proofs.Ytlellgnklohclaa.L
open Go Go.Proofs
attribute [local irreducible] pv fv pt fz RowF RowO rowP old pure_ elA Rd.int Rd.text Rd.flag Rd.msg Rd.rint Rd.rtext Rd.rflag Rd.rmsg
set_option maxRecDepth 100000
set_option linter.unusedSimpArgs false
set_option linter.unusedVariables false
attribute [local irreducible] Rd.eff Rd.reff lsM

theorem Gs.len {α : Type} {P : α → Prop} {N : Nat} {l : List α} {s : RdW} (h : Gs P N l s) : l.length ≤ N + 1 := by
  have := h.1
  split at this <;> omega
theorem St.fitE {ι : Type} {f : ι → List HP} {ρ : World} {Lc M L' L : List HP} {w : World} (i : ι) (h : St ρ Lc w) (g : Give Lc (f i ++ M) L') (d : Drop L' L) : St ρ ((HP.ex f :: M) ++ L) w := by
  have := h.fit g d
  rw [List.append_assoc] at this
  exact St.exI i this
abbrev RmsF (c0 c1 p : Nat) (acc : List Msg) (z : Option Addr × Nat) : List HP := [pv c0 26 [.slice z.1 acc.length z.2], pv c1 115 [.pointer (some ⟨p, 0, none⟩)], RowO Kd.msg 24 z.1 z.2 acc]
abbrev Rms (c0 c1 p : Nat) (acc : List Msg) : HP := HP.ex (RmsF c0 c1 p acc)
set_option maxHeartbeats 800000 in
theorem im_m1 (c0 c1 p rb : Nat) (q : Option Addr) (cap : Nat) (s : Rd) (wf : Bool) (acc : List Msg) (hc : s.bs.length ≤ cap) (hl : acc.length ≤ 10000000001) : Fn Try.prog 112 [.pointer (some ⟨c0, 0, none⟩), .pointer (some ⟨c1, 0, none⟩)].toArray (Rms c0 c1 p acc :: IR p rb wf q cap s)
    (fun v post => ∃ q' cap', v = .tuple #[] ∧ post = Rms c0 c1 p (acc ++ [(msgM (s, wf)).1]) :: IR p rb (msgM (s, wf)).2.2 q' cap' (msgM (s, wf)).2.1 ∧ (msgM (s, wf)).2.1.bs.length ≤ cap') := by
  refine Fn.enter (N := 10) Try.func112 rfl Try.ntmps112 (by kernel_rfl) rfl (fun ρ L => ?_)
  refine K.ex (fun w h => St.exP (by repeat (first | exact Pick.here | apply Pick.there)) h) (fun z => ?_)
  obtain ⟨z1, z2⟩ := z
  dsimp only [List.cons_append, List.nil_append]
  refine K.drawS [pv c1 115 [.pointer (some ⟨p, 0, none⟩)], pv p 117 [.pointer (some ⟨rb, 0, none⟩), .bool wf]] (fun _ h => h.subD) mixed ?_
  refine D.q 1 rfl (by kernel_rfl) (by kernel_rfl) (q_load1D ck_115 rfl) (fun _ h => h.subD) ?_
  refine D.q 2 rfl (by kernel_rfl) (by kernel_rfl) (q_nilCheck rfl) (fun _ h => h.subD) ?_
  refine D.q 3 rfl (by kernel_rfl) (by kernel_rfl) (q_field fo_117_0 rfl) (fun _ h => h.subD) ?_
  refine D.q 4 rfl (by kernel_rfl) (by kernel_rfl) (q_load1D ck_38 rfl) (fun _ h => h.subD) ?_
  refine D.all (rs := [0, 5]) (by kernel_rfl) rfl (DAll.cons rfl (by kernel_rfl) (OpQ.loud (q_load1D ck_26 rfl)) (.inr (by rintro _ _ ⟨rfl, rfl⟩ w h; exact h.subD)) rfl ?_ (DAll.cons rfl (by kernel_rfl) (OpL.callD rfl (h := msg_Read _ _ _ _ (by assumption))) (.inr (by rintro _ _ ⟨_, ⟨qx, cx, rfl, rfl, hcx⟩, rfl⟩ w h; exact h.subD)) rfl ?_ DAll.nil))
  · rintro _ _ ⟨rfl, rfl⟩
    refine D.all (rs := [5]) (by kernel_rfl) rfl (DAll.cons rfl (by kernel_rfl) (OpL.callD rfl (h := msg_Read _ _ _ _ (by assumption))) (.inr (by rintro _ _ ⟨_, ⟨qx, cx, rfl, rfl, hcx⟩, rfl⟩ w h; exact h.subD)) rfl ?_ DAll.nil)
    rintro _ _ ⟨_, ⟨qx, cx, rfl, rfl, hcx⟩, rfl⟩
    refine D.all (rs := [6]) (by kernel_rfl) rfl (DAll.cons rfl (by kernel_rfl) (l_slice1 sz_26_1 rfl rfl ⟨rfl, rfl, rfl⟩) (.inr (by rintro _ _ ⟨b8, rfl, rfl⟩ w h; exact h.subD)) rfl ?_ DAll.nil)
    rintro _ _ ⟨b8, rfl, rfl⟩
    refine D.all (rs := [7]) (by kernel_rfl) rfl (DAll.cons rfl (by kernel_rfl) (l_append Kd.msg se_26 Try.underlying26 ⟨_, ze_24, rfl⟩ (by decide) rfl rfl (by repeat (first | exact Pick.here | apply Pick.there)) isP (by repeat (first | exact List.Mem.head _ | apply List.Mem.tail)) rfl rfl (by first | omega | (simp; omega) | (simp; done))) (.inr (by rintro _ _ ⟨px, capx, rfl, rfl⟩ w h; exact h.subD)) rfl ?_ DAll.nil)
    rintro _ _ ⟨px, capx, rfl, rfl⟩
    refine D.all (rs := [8]) (by kernel_rfl) rfl (DAll.consN rfl (by kernel_rfl) (l_store1 ck_26 rfl rfl rfl (by repeat (first | exact Pick.here | apply Pick.there)) (by repeat (first | exact SetAt.here | apply SetAt.there))) (.inl (by kernel_rfl)) rfl ?_ DAll.nil)
    rintro _ _ ⟨rfl, rfl⟩
    refine D.done (by kernel_rfl) ?_
    refine K.fin (fn := Try.f112) Try.func112 (fun a w hk hs => res0 Try.results112) (fun w hs => ?_)
    exact ⟨_, Rms c0 c1 p (acc ++ [s.msg.1]) :: IR p rb wf qx cx s.msg.2, rfl, ⟨qx, cx, rfl, rfl, hcx⟩, St.fitE (px, capx) hs (by repeat (first | exact Give.nil | (apply Give.perI; (repeat (first | exact List.Mem.head _ | apply List.Mem.tail))) | (apply Give.own; (repeat (first | exact Pick.here | apply Pick.there))))) (by repeat (first | exact Drop.refl | apply Drop.skip))⟩
  · rintro _ _ ⟨_, ⟨qx, cx, rfl, rfl, hcx⟩, rfl⟩
    refine D.all (rs := [0, 6]) (by kernel_rfl) rfl (DAll.cons rfl (by kernel_rfl) (OpQ.loud (q_load1D ck_26 rfl)) (.inr (by rintro _ _ ⟨rfl, rfl⟩ w h; exact h.subD)) rfl ?_ (DAll.cons rfl (by kernel_rfl) (l_slice1 sz_26_1 rfl rfl ⟨rfl, rfl, rfl⟩) (.inr (by rintro _ _ ⟨b8, rfl, rfl⟩ w h; exact h.subD)) rfl ?_ DAll.nil))
    · rintro _ _ ⟨rfl, rfl⟩
      refine D.all (rs := [6]) (by kernel_rfl) rfl (DAll.cons rfl (by kernel_rfl) (l_slice1 sz_26_1 rfl rfl ⟨rfl, rfl, rfl⟩) (.inr (by rintro _ _ ⟨b8, rfl, rfl⟩ w h; exact h.subD)) rfl ?_ DAll.nil)
      rintro _ _ ⟨b8, rfl, rfl⟩
      refine D.all (rs := [7]) (by kernel_rfl) rfl (DAll.cons rfl (by kernel_rfl) (l_append Kd.msg se_26 Try.underlying26 ⟨_, ze_24, rfl⟩ (by decide) rfl rfl (by repeat (first | exact Pick.here | apply Pick.there)) isP (by repeat (first | exact List.Mem.head _ | apply List.Mem.tail)) rfl rfl (by first | omega | (simp; omega) | (simp; done))) (.inr (by rintro _ _ ⟨px, capx, rfl, rfl⟩ w h; exact h.subD)) rfl ?_ DAll.nil)
      rintro _ _ ⟨px, capx, rfl, rfl⟩
      refine D.all (rs := [8]) (by kernel_rfl) rfl (DAll.consN rfl (by kernel_rfl) (l_store1 ck_26 rfl rfl rfl (by repeat (first | exact Pick.here | apply Pick.there)) (by repeat (first | exact SetAt.here | apply SetAt.there))) (.inl (by kernel_rfl)) rfl ?_ DAll.nil)
      rintro _ _ ⟨rfl, rfl⟩
      refine D.done (by kernel_rfl) ?_
      refine K.fin (fn := Try.f112) Try.func112 (fun a w hk hs => res0 Try.results112) (fun w hs => ?_)
      exact ⟨_, Rms c0 c1 p (acc ++ [s.msg.1]) :: IR p rb wf qx cx s.msg.2, rfl, ⟨qx, cx, rfl, rfl, hcx⟩, St.fitE (px, capx) hs (by repeat (first | exact Give.nil | (apply Give.perI; (repeat (first | exact List.Mem.head _ | apply List.Mem.tail))) | (apply Give.own; (repeat (first | exact Pick.here | apply Pick.there))))) (by repeat (first | exact Drop.refl | apply Drop.skip))⟩
    · rintro _ _ ⟨b8, rfl, rfl⟩
      refine D.all (rs := [0]) (by kernel_rfl) rfl (DAll.cons rfl (by kernel_rfl) (OpQ.loud (q_load1D ck_26 rfl)) (.inr (by rintro _ _ ⟨rfl, rfl⟩ w h; exact h.subD)) rfl ?_ DAll.nil)
      rintro _ _ ⟨rfl, rfl⟩
      refine D.all (rs := [7]) (by kernel_rfl) rfl (DAll.cons rfl (by kernel_rfl) (l_append Kd.msg se_26 Try.underlying26 ⟨_, ze_24, rfl⟩ (by decide) rfl rfl (by repeat (first | exact Pick.here | apply Pick.there)) isP (by repeat (first | exact List.Mem.head _ | apply List.Mem.tail)) rfl rfl (by first | omega | (simp; omega) | (simp; done))) (.inr (by rintro _ _ ⟨px, capx, rfl, rfl⟩ w h; exact h.subD)) rfl ?_ DAll.nil)
      rintro _ _ ⟨px, capx, rfl, rfl⟩
      refine D.all (rs := [8]) (by kernel_rfl) rfl (DAll.consN rfl (by kernel_rfl) (l_store1 ck_26 rfl rfl rfl (by repeat (first | exact Pick.here | apply Pick.there)) (by repeat (first | exact SetAt.here | apply SetAt.there))) (.inl (by kernel_rfl)) rfl ?_ DAll.nil)
      rintro _ _ ⟨rfl, rfl⟩
      refine D.done (by kernel_rfl) ?_
      refine K.fin (fn := Try.f112) Try.func112 (fun a w hk hs => res0 Try.results112) (fun w hs => ?_)
      exact ⟨_, Rms c0 c1 p (acc ++ [s.msg.1]) :: IR p rb wf qx cx s.msg.2, rfl, ⟨qx, cx, rfl, rfl, hcx⟩, St.fitE (px, capx) hs (by repeat (first | exact Give.nil | (apply Give.perI; (repeat (first | exact List.Mem.head _ | apply List.Mem.tail))) | (apply Give.own; (repeat (first | exact Pick.here | apply Pick.there))))) (by repeat (first | exact Drop.refl | apply Drop.skip))⟩
set_option maxHeartbeats 800000 in
theorem im_msgs (p rb : Nat) (q : Option Addr) (cap : Nat) (s : Rd) (wf : Bool) (hc : s.bs.length ≤ cap) (hN : s.bs.length ≤ 10000000000) : Fn Try.prog 100 [.pointer (some ⟨p, 0, none⟩)].toArray (IR p rb wf q cap s)
    (fun v post => ∃ mq mc q' cap', v = .slice mq (lsM msgM (s, wf)).1.length mc ∧ post = RowF Kd.msg mq (lsM msgM (s, wf)).1 :: IR p rb (lsM msgM (s, wf)).2.2 q' cap' (lsM msgM (s, wf)).2.1 ∧ (lsM msgM (s, wf)).2.1.bs.length ≤ cap' ∧ (lsM msgM (s, wf)).1.length ≤ mc) := by
  refine Fn.enter (N := 8) Try.func100 rfl Try.ntmps100 (by kernel_rfl) rfl (fun ρ L => ?_)
  refine K.seq ?_
  refine K.region ?_
  refine KO.loud rfl (l_box rfl rfl) ?_
  rintro _ _ ⟨b1, rfl, rfl⟩
  refine KO.q rfl (q_assign rfl) ?_
  refine KO.done ?_
  refine K.seq ?_
  refine K.region ?_
  refine KO.loud rfl (l_alloc zo_26) ?_
  rintro _ _ ⟨b3, rfl, rfl⟩
  refine KO.done ?_
  refine K.seq ?_
  refine K.region ?_
  refine KO.q rfl (q_load1D ck_115 rfl) ?_
  refine KO.q rfl (q_func rfl rfl) ?_
  refine KO.st (fun w h => rowO_nil (k := Kd.msg) 24 h) ?_
  refine KO.st (fun w h => St.exG (f := RmsF b3 b1 p []) (none, 0) (by repeat (first | exact Give.nil | (apply Give.perI; (repeat (first | exact List.Mem.head _ | apply List.Mem.tail))) | (apply Give.own; (repeat (first | exact Pick.here | apply Pick.there))))) h) ?_
  refine KO.loud rfl (OpL.callD rfl (h := im_list (Rms b3 b1 p) msgM Msg.sm 10000000000 112 [.pointer (some ⟨b3, 0, none⟩), .pointer (some ⟨b1, 0, none⟩)] p rb prog_msg (fun s _ => msgM_sm s) (fun q cap s wf acc h1 h2 h3 => im_m1 b3 b1 p rb q cap s wf acc h1 h3.len) q cap s wf hc hN)) ?_
  rintro _ _ ⟨_, ⟨q1, c1, rfl, rfl, hc1⟩, rfl⟩
  refine KO.ex (fun w h => St.exP (by repeat (first | exact Pick.here | apply Pick.there)) h) (fun z => ?_)
  obtain ⟨z1, z2⟩ := z
  dsimp only [List.cons_append, List.nil_append]
  refine KO.done ?_
  refine K.fact (rowO_cap (by repeat (first | exact List.Mem.head _ | apply List.Mem.tail))) (fun hcap => ?_)
  refine K.st (fun w h => rowO_freeze (h.pick (by repeat (first | exact Pick.here | apply Pick.there)))) ?_
  refine K.seq ?_
  refine K.region ?_
  refine KO.q rfl (q_load1D ck_26 rfl) ?_
  refine KO.q rfl (q_assign rfl) ?_
  refine KO.done ?_
  refine K.ret (fn := Try.f100) Try.func100 (fun a w hk hs => res1 Try.results100 hk rfl) (fun w hs => ?_)
  exact ⟨_, RowF Kd.msg z1 (lsM msgM (s, wf)).1 :: IR p rb (lsM msgM (s, wf)).2.2 q1 c1 (lsM msgM (s, wf)).2.1, rfl, ⟨z1, z2, q1, c1, rfl, rfl, hc1, hcap⟩, hs.fitD⟩
abbrev RobF (cA cB p : Nat) (nm : ByteArray) (k l : Int) (acc : List Rw) (z : Option Addr × Nat) : List HP := [pv cA 115 [.pointer (some ⟨p, 0, none⟩)], pv cB 108 [.string nm, .int .i64 k, .int .i64 l, .slice z.1 acc.length z.2, .slice none 0 0, .slice none 0 0], RowO Kd.rw 103 z.1 z.2 acc]
abbrev Rob (cA cB p : Nat) (nm : ByteArray) (k l : Int) (acc : List Rw) : HP := HP.ex (RobF cA cB p nm k l acc)
set_option maxHeartbeats 800000 in
theorem im_o1 (cA cB p rb : Nat) (nm : ByteArray) (k l : Int) (q : Option Addr) (cap : Nat) (s : Rd) (wf : Bool) (acc : List Rw) (hc : s.bs.length ≤ cap) (hl : acc.length ≤ 10000000001) : Fn Try.prog 99 [.pointer (some ⟨cA, 0, none⟩), .pointer (some ⟨cB, 0, none⟩)].toArray (Rob cA cB p nm k l acc :: IR p rb wf q cap s)
    (fun v post => ∃ q' cap', v = .tuple #[] ∧ post = Rob cA cB p nm k l (acc ++ [(rwM (s, wf)).1]) :: IR p rb (rwM (s, wf)).2.2 q' cap' (rwM (s, wf)).2.1 ∧ (rwM (s, wf)).2.1.bs.length ≤ cap') := by
  refine Fn.enter (N := 20) Try.func99 rfl Try.ntmps99 (by kernel_rfl) rfl (fun ρ L => ?_)
  refine K.ex (fun w h => St.exP (by repeat (first | exact Pick.here | apply Pick.there)) h) (fun z => ?_)
  obtain ⟨z1, z2⟩ := z
  dsimp only [List.cons_append, List.nil_append]
  refine K.seq ?_
  refine K.region ?_
  refine KO.q rfl (q_load1D ck_115 rfl) ?_
  refine KO.q rfl (q_nilCheck rfl) ?_
  refine KO.q rfl (q_field fo_117_0 rfl) ?_
  refine KO.q rfl (q_load1D ck_38 rfl) ?_
  refine KO.loud rfl (OpL.callD rfl (h := rd_Text _ _ _ _ (by assumption))) ?_
  rintro _ _ ⟨_, ⟨q1, c1, rfl, rfl, hc1⟩, rfl⟩
  refine KO.q rfl (q_assign rfl) ?_
  refine KO.done ?_
  refine K.drawS [pv cA 115 [.pointer (some ⟨p, 0, none⟩)], pv p 117 [.pointer (some ⟨rb, 0, none⟩), .bool wf]] (fun _ h => h.subD) mixed ?_
  refine D.q 0 rfl (by kernel_rfl) (by kernel_rfl) (q_field fo_108_3 rfl) (fun _ h => h.subD) ?_
  refine D.q 2 rfl (by kernel_rfl) (by kernel_rfl) (q_move rfl) (fun _ h => h.subD) ?_
  refine D.q 3 rfl (by kernel_rfl) (by kernel_rfl) (q_load1D ck_115 rfl) (fun _ h => h.subD) ?_
  refine D.q 4 rfl (by kernel_rfl) (by kernel_rfl) (q_nilCheck rfl) (fun _ h => h.subD) ?_
  refine D.q 5 rfl (by kernel_rfl) (by kernel_rfl) (q_field fo_117_0 rfl) (fun _ h => h.subD) ?_
  refine D.q 6 rfl (by kernel_rfl) (by kernel_rfl) (q_load1D ck_38 rfl) (fun _ h => h.subD) ?_
  refine D.all (rs := [1, 7]) (by kernel_rfl) rfl (DAll.cons rfl (by kernel_rfl) (OpQ.loud (q_load1D ck_106 rfl)) (.inr (by rintro _ _ ⟨rfl, rfl⟩ w h; exact h.subD)) rfl ?_ (DAll.cons rfl (by kernel_rfl) (OpL.callD rfl (h := rd_Text _ _ _ _ (by assumption))) (.inr (by rintro _ _ ⟨_, ⟨qx, cx, rfl, rfl, hcx⟩, rfl⟩ w h; exact h.subD)) rfl ?_ DAll.nil))
  · rintro _ _ ⟨rfl, rfl⟩
    refine D.all (rs := [7]) (by kernel_rfl) rfl (DAll.cons rfl (by kernel_rfl) (OpL.callD rfl (h := rd_Text _ _ _ _ (by assumption))) (.inr (by rintro _ _ ⟨_, ⟨qx, cx, rfl, rfl, hcx⟩, rfl⟩ w h; exact h.subD)) rfl ?_ DAll.nil)
    rintro _ _ ⟨_, ⟨qx, cx, rfl, rfl, hcx⟩, rfl⟩
    refine D.q 8 rfl (by kernel_rfl) (by kernel_rfl) (q_as_rw (q_build st_103 rfl (by repeat (first | exact Fill.nil | (apply Fill.cons; rfl; rfl; rfl) | exact SetN.nil | apply SetN.cons | exact SetAt.here | apply SetAt.there))) (by rfl)) (fun _ h => h.subD) ?_
    refine D.all (rs := [9]) (by kernel_rfl) rfl (DAll.cons rfl (by kernel_rfl) (l_slice1 sz_106_1 rfl rfl ⟨rfl, rfl, rfl⟩) (.inr (by rintro _ _ ⟨b17, rfl, rfl⟩ w h; exact h.subD)) rfl ?_ DAll.nil)
    rintro _ _ ⟨b17, rfl, rfl⟩
    refine D.all (rs := [10]) (by kernel_rfl) rfl (DAll.cons rfl (by kernel_rfl) (l_append Kd.rw se_106 Try.underlying106 ⟨_, ze_103, rfl⟩ (by decide) rfl rfl (by repeat (first | exact Pick.here | apply Pick.there)) isP (by repeat (first | exact List.Mem.head _ | apply List.Mem.tail)) rfl rfl (by first | omega | (simp; omega) | (simp; done))) (.inr (by rintro _ _ ⟨px, capx, rfl, rfl⟩ w h; exact h.subD)) rfl ?_ DAll.nil)
    rintro _ _ ⟨px, capx, rfl, rfl⟩
    refine D.q 11 rfl (by kernel_rfl) (by kernel_rfl) (q_field fo_108_3 rfl) (fun _ h => h.subD) ?_
    refine D.all (rs := [12]) (by kernel_rfl) rfl (DAll.consN rfl (by kernel_rfl) (l_store1 ck_106 rfl rfl rfl (by repeat (first | exact Pick.here | apply Pick.there)) (by repeat (first | exact SetAt.here | apply SetAt.there))) (.inl (by kernel_rfl)) rfl ?_ DAll.nil)
    rintro _ _ ⟨rfl, rfl⟩
    refine D.done (by kernel_rfl) ?_
    refine K.fin (fn := Try.f99) Try.func99 (fun a w hk hs => res0 Try.results99) (fun w hs => ?_)
    exact ⟨_, Rob cA cB p nm k l (acc ++ [(rwM (s, wf)).1]) :: IR p rb wf qx cx s.text.2.text.2, rfl, ⟨qx, cx, rfl, rfl, hcx⟩, St.fitE (px, capx) hs (by repeat (first | exact Give.nil | (apply Give.perI; (repeat (first | exact List.Mem.head _ | apply List.Mem.tail))) | (apply Give.own; (repeat (first | exact Pick.here | apply Pick.there))))) (by repeat (first | exact Drop.refl | apply Drop.skip))⟩
  · rintro _ _ ⟨_, ⟨qx, cx, rfl, rfl, hcx⟩, rfl⟩
    refine D.q 8 rfl (by kernel_rfl) (by kernel_rfl) (q_as_rw (q_build st_103 rfl (by repeat (first | exact Fill.nil | (apply Fill.cons; rfl; rfl; rfl) | exact SetN.nil | apply SetN.cons | exact SetAt.here | apply SetAt.there))) (by rfl)) (fun _ h => h.subD) ?_
    refine D.all (rs := [1, 9]) (by kernel_rfl) rfl (DAll.cons rfl (by kernel_rfl) (OpQ.loud (q_load1D ck_106 rfl)) (.inr (by rintro _ _ ⟨rfl, rfl⟩ w h; exact h.subD)) rfl ?_ (DAll.cons rfl (by kernel_rfl) (l_slice1 sz_106_1 rfl rfl ⟨rfl, rfl, rfl⟩) (.inr (by rintro _ _ ⟨b17, rfl, rfl⟩ w h; exact h.subD)) rfl ?_ DAll.nil))
    · rintro _ _ ⟨rfl, rfl⟩
      refine D.all (rs := [9]) (by kernel_rfl) rfl (DAll.cons rfl (by kernel_rfl) (l_slice1 sz_106_1 rfl rfl ⟨rfl, rfl, rfl⟩) (.inr (by rintro _ _ ⟨b17, rfl, rfl⟩ w h; exact h.subD)) rfl ?_ DAll.nil)
      rintro _ _ ⟨b17, rfl, rfl⟩
      refine D.all (rs := [10]) (by kernel_rfl) rfl (DAll.cons rfl (by kernel_rfl) (l_append Kd.rw se_106 Try.underlying106 ⟨_, ze_103, rfl⟩ (by decide) rfl rfl (by repeat (first | exact Pick.here | apply Pick.there)) isP (by repeat (first | exact List.Mem.head _ | apply List.Mem.tail)) rfl rfl (by first | omega | (simp; omega) | (simp; done))) (.inr (by rintro _ _ ⟨px, capx, rfl, rfl⟩ w h; exact h.subD)) rfl ?_ DAll.nil)
      rintro _ _ ⟨px, capx, rfl, rfl⟩
      refine D.q 11 rfl (by kernel_rfl) (by kernel_rfl) (q_field fo_108_3 rfl) (fun _ h => h.subD) ?_
      refine D.all (rs := [12]) (by kernel_rfl) rfl (DAll.consN rfl (by kernel_rfl) (l_store1 ck_106 rfl rfl rfl (by repeat (first | exact Pick.here | apply Pick.there)) (by repeat (first | exact SetAt.here | apply SetAt.there))) (.inl (by kernel_rfl)) rfl ?_ DAll.nil)
      rintro _ _ ⟨rfl, rfl⟩
      refine D.done (by kernel_rfl) ?_
      refine K.fin (fn := Try.f99) Try.func99 (fun a w hk hs => res0 Try.results99) (fun w hs => ?_)
      exact ⟨_, Rob cA cB p nm k l (acc ++ [(rwM (s, wf)).1]) :: IR p rb wf qx cx s.text.2.text.2, rfl, ⟨qx, cx, rfl, rfl, hcx⟩, St.fitE (px, capx) hs (by repeat (first | exact Give.nil | (apply Give.perI; (repeat (first | exact List.Mem.head _ | apply List.Mem.tail))) | (apply Give.own; (repeat (first | exact Pick.here | apply Pick.there))))) (by repeat (first | exact Drop.refl | apply Drop.skip))⟩
    · rintro _ _ ⟨b17, rfl, rfl⟩
      refine D.all (rs := [1]) (by kernel_rfl) rfl (DAll.cons rfl (by kernel_rfl) (OpQ.loud (q_load1D ck_106 rfl)) (.inr (by rintro _ _ ⟨rfl, rfl⟩ w h; exact h.subD)) rfl ?_ DAll.nil)
      rintro _ _ ⟨rfl, rfl⟩
      refine D.all (rs := [10]) (by kernel_rfl) rfl (DAll.cons rfl (by kernel_rfl) (l_append Kd.rw se_106 Try.underlying106 ⟨_, ze_103, rfl⟩ (by decide) rfl rfl (by repeat (first | exact Pick.here | apply Pick.there)) isP (by repeat (first | exact List.Mem.head _ | apply List.Mem.tail)) rfl rfl (by first | omega | (simp; omega) | (simp; done))) (.inr (by rintro _ _ ⟨px, capx, rfl, rfl⟩ w h; exact h.subD)) rfl ?_ DAll.nil)
      rintro _ _ ⟨px, capx, rfl, rfl⟩
      refine D.q 11 rfl (by kernel_rfl) (by kernel_rfl) (q_field fo_108_3 rfl) (fun _ h => h.subD) ?_
      refine D.all (rs := [12]) (by kernel_rfl) rfl (DAll.consN rfl (by kernel_rfl) (l_store1 ck_106 rfl rfl rfl (by repeat (first | exact Pick.here | apply Pick.there)) (by repeat (first | exact SetAt.here | apply SetAt.there))) (.inl (by kernel_rfl)) rfl ?_ DAll.nil)
      rintro _ _ ⟨rfl, rfl⟩
      refine D.done (by kernel_rfl) ?_
      refine K.fin (fn := Try.f99) Try.func99 (fun a w hk hs => res0 Try.results99) (fun w hs => ?_)
      exact ⟨_, Rob cA cB p nm k l (acc ++ [(rwM (s, wf)).1]) :: IR p rb wf qx cx s.text.2.text.2, rfl, ⟨qx, cx, rfl, rfl, hcx⟩, St.fitE (px, capx) hs (by repeat (first | exact Give.nil | (apply Give.perI; (repeat (first | exact List.Mem.head _ | apply List.Mem.tail))) | (apply Give.own; (repeat (first | exact Pick.here | apply Pick.there))))) (by repeat (first | exact Drop.refl | apply Drop.skip))⟩
set_option maxHeartbeats 1600000 in
theorem im_object (p rb : Nat) (q : Option Addr) (cap : Nat) (s : Rd) (wf : Bool) (hc : s.bs.length ≤ cap) (hN : s.bs.length ≤ 10000000000) : Fn Try.prog 92 [.pointer (some ⟨p, 0, none⟩)].toArray (IR p rb wf q cap s)
    (fun v post => ∃ z q' cap', v = .agg (Oz.cells ⟨(objM (s, wf)).1, z⟩).toArray ∧ post = ObL ⟨(objM (s, wf)).1, z⟩ ++ IR p rb (objM (s, wf)).2.2 q' cap' (objM (s, wf)).2.1 ∧ (objM (s, wf)).2.1.bs.length ≤ cap' ∧ (objM (s, wf)).1.rows.length ≤ z.c1 ∧ (objM (s, wf)).1.msgs.length ≤ z.c2 ∧ (objM (s, wf)).1.dead.length ≤ z.c3) := by
  have l0 : s.text.2.int.2.int.2.bs.length ≤ 10000000000 := by
    have a := s.text_len
    have b := prog_int.1 (s.text.2, wf)
    have c := prog_int.1 (s.text.2.int.2, wf)
    exact Nat.le_trans c (Nat.le_trans b (Nat.le_trans a hN))
  have l1 := Nat.le_trans (Prog.ls prog_rw.1 (s.text.2.int.2.int.2, wf)) l0
  have l2 := Nat.le_trans (Prog.ls prog_msg.1 (lsM rwM (s.text.2.int.2.int.2, wf)).2) l1
  refine Fn.enter (N := 32) Try.func92 rfl Try.ntmps92 (by kernel_rfl) rfl (fun ρ L => ?_)
  refine K.seq ?_
  refine K.region ?_
  refine KO.loud rfl (l_box rfl rfl) ?_
  rintro _ _ ⟨b1, rfl, rfl⟩
  refine KO.loud rfl (l_alloc zo_108) ?_
  rintro _ _ ⟨b2, rfl, rfl⟩
  refine KO.done ?_
  refine K.seq ?_
  refine K.region ?_
  refine KO.q rfl (q_load1D ck_115 rfl) ?_
  refine KO.q rfl (q_nilCheck rfl) ?_
  refine KO.q rfl (q_field fo_117_0 rfl) ?_
  refine KO.q rfl (q_load1D ck_38 rfl) ?_
  refine KO.loud rfl (OpL.callD rfl (h := rd_Text _ _ _ _ (by assumption))) ?_
  rintro _ _ ⟨_, ⟨q1, c1, rfl, rfl, hc1⟩, rfl⟩
  refine KO.q rfl (q_build st_108 rfl (by repeat (first | exact Fill.nil | (apply Fill.cons; rfl; rfl; rfl) | exact SetN.nil | apply SetN.cons | exact SetAt.here | apply SetAt.there))) ?_
  refine KO.loud rfl (l_alloc zo_108) ?_
  rintro _ _ ⟨b3, rfl, rfl⟩
  refine KO.loudN rfl (l_storeAll ck_108 rfl rfl ⟨rfl, rfl⟩ (by simp [Value.oneCell']) (by repeat (first | exact Pick.here | apply Pick.there))) ?_
  rintro _ _ ⟨rfl, rfl⟩
  refine KO.done ?_
  refine K.seq ?_
  refine K.region ?_
  refine KO.q rfl (q_load1D ck_115 rfl) ?_
  refine KO.q rfl (q_nilCheck rfl) ?_
  refine KO.q rfl (q_field fo_117_0 rfl) ?_
  refine KO.q rfl (q_load1D ck_38 rfl) ?_
  refine KO.loud rfl (OpL.callD rfl (h := rd_Int _ _ _ _ (by assumption))) ?_
  rintro _ _ ⟨_, ⟨q2, c2, rfl, rfl, hc2⟩, rfl⟩
  refine KO.q rfl (q_field fo_108_1 rfl) ?_
  refine KO.loudN rfl (l_store1 ck_3 rfl rfl rfl (by repeat (first | exact Pick.here | apply Pick.there)) (by repeat (first | exact SetAt.here | apply SetAt.there))) ?_
  rintro _ _ ⟨rfl, rfl⟩
  refine KO.done ?_
  refine K.seq ?_
  refine K.region ?_
  refine KO.q rfl (q_load1D ck_115 rfl) ?_
  refine KO.q rfl (q_nilCheck rfl) ?_
  refine KO.q rfl (q_field fo_117_0 rfl) ?_
  refine KO.q rfl (q_load1D ck_38 rfl) ?_
  refine KO.loud rfl (OpL.callD rfl (h := rd_Int _ _ _ _ (by assumption))) ?_
  rintro _ _ ⟨_, ⟨q3, c3, rfl, rfl, hc3⟩, rfl⟩
  refine KO.q rfl (q_field fo_108_2 rfl) ?_
  refine KO.loudN rfl (l_store1 ck_3 rfl rfl rfl (by repeat (first | exact Pick.here | apply Pick.there)) (by repeat (first | exact SetAt.here | apply SetAt.there))) ?_
  rintro _ _ ⟨rfl, rfl⟩
  refine KO.done ?_
  refine K.seq ?_
  refine K.region ?_
  refine KO.q rfl (q_load1D ck_115 rfl) ?_
  refine KO.q rfl (q_func rfl rfl) ?_
  refine KO.st (fun w h => rowO_nil (k := Kd.rw) 103 h) ?_
  refine KO.st (fun w h => St.exG (f := RobF b1 b3 p s.text.1 s.text.2.int.1 s.text.2.int.2.int.1 []) (none, 0) (by repeat (first | exact Give.nil | (apply Give.perI; (repeat (first | exact List.Mem.head _ | apply List.Mem.tail))) | (apply Give.own; (repeat (first | exact Pick.here | apply Pick.there))))) h) ?_
  refine KO.loud rfl (OpL.callD rfl (h := im_list (Rob b1 b3 p s.text.1 s.text.2.int.1 s.text.2.int.2.int.1) rwM Rw.sm 10000000000 99 [.pointer (some ⟨b1, 0, none⟩), .pointer (some ⟨b3, 0, none⟩)] p rb prog_rw (fun s _ => rwM_sm s) (fun q cap s wf acc h1 h2 h3 => im_o1 b1 b3 p rb _ _ _ q cap s wf acc h1 h3.len) q3 c3 _ wf hc3 l0)) ?_
  rintro _ _ ⟨_, ⟨q4, c4, rfl, rfl, hc4⟩, rfl⟩
  refine KO.ex (fun w h => St.exP (by repeat (first | exact Pick.here | apply Pick.there)) h) (fun z => ?_)
  obtain ⟨z1, z2⟩ := z
  dsimp only [List.cons_append, List.nil_append]
  refine KO.done ?_
  refine K.fact (rowO_cap (by repeat (first | exact List.Mem.head _ | apply List.Mem.tail))) (fun hcap => ?_)
  refine K.st (fun w h => rowO_freeze (h.pick (by repeat (first | exact Pick.here | apply Pick.there)))) ?_
  refine K.seq ?_
  refine K.region ?_
  refine KO.q rfl (q_load1D ck_115 rfl) ?_
  refine KO.loud rfl (OpL.callD rfl (h := im_msgs p rb _ _ _ _ hc4 l1)) ?_
  rintro _ _ ⟨_, ⟨m1, n1, q5, c5, rfl, rfl, hc5, hcap5⟩, rfl⟩
  refine KO.q rfl (q_field fo_108_4 rfl) ?_
  refine KO.loudN rfl (l_store1 ck_26 rfl rfl rfl (by repeat (first | exact Pick.here | apply Pick.there)) (by repeat (first | exact SetAt.here | apply SetAt.there))) ?_
  rintro _ _ ⟨rfl, rfl⟩
  refine KO.done ?_
  refine K.seq ?_
  refine K.region ?_
  refine KO.q rfl (q_load1D ck_115 rfl) ?_
  refine KO.loud rfl (OpL.callD rfl (h := im_msgs p rb _ _ _ _ hc5 l2)) ?_
  rintro _ _ ⟨_, ⟨m2, n2, q6, c6, rfl, rfl, hc6, hcap6⟩, rfl⟩
  refine KO.q rfl (q_field fo_108_5 rfl) ?_
  refine KO.loudN rfl (l_store1 ck_26 rfl rfl rfl (by repeat (first | exact Pick.here | apply Pick.there)) (by repeat (first | exact SetAt.here | apply SetAt.there))) ?_
  rintro _ _ ⟨rfl, rfl⟩
  refine KO.done ?_
  refine K.seq ?_
  refine K.region ?_
  refine KO.q rfl (q_as_oz (q_loadN ck_108 rfl rfl (by first | (apply cells_pv; (repeat (first | exact List.Mem.head _ | apply List.Mem.tail))) | (apply cells_fv; (repeat (first | exact List.Mem.head _ | apply List.Mem.tail))))) (by rfl)) ?_
  refine KO.loudN rfl (l_storeAll ck_108 rfl rfl ⟨rfl, rfl⟩ (oz_one _) (by repeat (first | exact Pick.here | apply Pick.there))) ?_
  rintro _ _ ⟨rfl, rfl⟩
  refine KO.done ?_
  refine K.ret (fn := Try.f92) Try.func92 (fun a w hk hs => resC Try.results92 hk rfl ck_108 rfl (cells_pv (by repeat (first | exact List.Mem.head _ | apply List.Mem.tail)) w hs)) (fun w hs => ?_)
  exact ⟨_, ObL ⟨(objM (s, wf)).1, ⟨z1, z2, m1, n1, m2, n2⟩⟩ ++ IR p rb (objM (s, wf)).2.2 q6 c6 (objM (s, wf)).2.1, rfl, ⟨⟨z1, z2, m1, n1, m2, n2⟩, q6, c6, rfl, rfl, hc6, hcap, hcap5, hcap6⟩, hs.fitD⟩
end Go.Proofs.Ytlellgnklohclaa.L
