/- The law GrantLine, walked. -/
import Derived.Test.YtfpkeanimkgpaaaH9
import Derived.Test.YtfpkeanimkgpaaaPL
namespace Go.Proofs.Ytfpkeanimkgpaaa.L
open Go Go.Proofs
attribute [local irreducible] pv fv pt fz RowF RowO rowP old pure_ elA
set_option maxRecDepth 100000
set_option linter.unusedSimpArgs false
set_option linter.unusedVariables false

--%kd bool Kd.boolK
theorem ask_line {bs : List Bool} {m : Int} (hm : m = 3 ∨ m = 5) (hl : bs.length ≤ 30) : (Lk.mk [⟨100, 5⟩] (lnF bs 0)).ask bs.length m = (false, ⟨[⟨100, 5⟩], lnF bs 0 ++ [⟨bs.length, m⟩]⟩) := by
  have hmo : modeOf m = m := by rcases hm with rfl | rfl <;> rfl
  have h0 : ¬ m = 0 := by omega
  have hf5 : fitsM m 5 = false := by rcases hm with rfl | rfl; exact fits35; exact fits55
  have h1 : ¬ 0 ≤ at1 (lnF bs 0) bs.length := at1_no (fun x hx => by
    obtain ⟨j, _, h2, h3⟩ := lnF_mem hx
    rw [h3]; omega)
  have h2 : ¬ 0 ≤ at1 [⟨100, 5⟩] bs.length := at1_no (fun x hx => by rw [List.mem_singleton.1 hx]; show (100 : Int) ≠ _; omega)
  have h3 : (Lk.mk [⟨100, 5⟩] (lnF bs 0)).fits ⟨bs.length, m⟩ = false := Lk.unfit_of (y := ⟨100, 5⟩) (List.mem_singleton_self _) (by show (100 : Int) ≠ (bs.length : Int); omega) hf5
  unfold Lk.ask
  rw [hmo, if_neg h0, if_neg h1, if_neg h2, if_neg (by rw [h3]; simp)]
  unfold Lk.wait Lk.waitAt
  rw [if_neg (by unfold Lk.has; rw [decide_eq_false h2]; exact Bool.false_ne_true)]
  rw [List.take_length, List.drop_length, List.append_nil]
theorem lnF_take {l : List Bool} {i : Nat} {b : Bool} (h : l[i]? = some b) : lnF (l.take (i + 1)) 0 = lnF (l.take i) 0 ++ [⟨((l.take i).length : Int), if b = true then 5 else 3⟩] := by
  rw [List.take_add_one, h]
  show lnF (l.take i ++ [b]) 0 = _
  rw [lnF_snoc, Nat.zero_add]
/-- Of the inner round: j of the holders are gone. -/
def InR (l : List Bool) (H ln : List One) (i j : Nat) (kc : Lk) (al : List Int) : Prop :=
  kc.size ≤ 100 ∧ ((j < H.length ∧ kc = ⟨H.drop j, ln⟩ ∧ al = [] ∧ GL l kc i) ∨ (j = H.length ∧ al = ints i (grpN (l.drop i)) ∧ kc = ⟨lnF ((l.drop i).take (grpN (l.drop i))) i, lnF (l.drop (i + grpN (l.drop i))) (i + grpN (l.drop i))⟩ ∧ GL l kc (i + grpN (l.drop i))))
theorem InR.step {l : List Bool} {H ln : List One} {i j : Nat} {kc : Lk} {al : List Int} (hl : l.length ≤ 30) (h : InR l H ln i j kc al) (hj : j < H.length) : ∃ x, H[j]? = some x ∧ InR l H ln i (j + 1) (kc.drop x.who).2 (al ++ (kc.drop x.who).1) := by
  obtain ⟨hs, ⟨_, hk, ha, hg⟩ | ⟨hj', _⟩⟩ := h
  · subst ha
    refine ⟨H[j], List.getElem?_eq_getElem hj, ?_⟩
    have hd : H.drop j = H[j] :: H.drop (j + 1) := List.drop_eq_getElem_cons hj
    have hsz := kc.drop_size H[j].who
    cases ht : H.drop (j + 1) with
    | nil =>
      rw [hd, ht] at hk
      subst hk
      obtain ⟨h1, h2⟩ := hg.drop_last
      have hjl : j + 1 = H.length := by
        have := congrArg List.length ht
        rw [List.length_drop] at this
        simp only [List.length_nil] at this
        omega
      rw [h1]
      exact ⟨by rw [h1] at hsz; exact Nat.le_trans hsz hs, .inr ⟨hjl, rfl, rfl, h2⟩⟩
    | cons h2 t =>
      rw [hd, ht] at hk
      subst hk
      obtain ⟨h1, h2'⟩ := hg.drop_one
      have hjl : j + 1 < H.length := by
        have := congrArg List.length ht
        rw [List.length_drop] at this
        simp only [List.length_cons] at this
        omega
      rw [h1]
      exact ⟨by rw [h1] at hsz; exact Nat.le_trans hsz hs, .inl ⟨hjl, by rw [ht], rfl, h2'⟩⟩
  · omega
theorem InR.out_len {l : List Bool} {H ln : List One} {i j : Nat} {kc : Lk} {al : List Int} (hl : l.length ≤ 30) (h : InR l H ln i j kc al) : al.length ≤ 30 := by
  obtain ⟨hs, ⟨_, hk, ha, hg⟩ | ⟨hj', ha, _⟩⟩ := h
  · rw [ha]; exact Nat.zero_le _
  · rw [ha, ints_len]
    have := grpN_le (l.drop i)
    rw [List.length_drop] at this
    omega
set_option maxHeartbeats 3200000 in
theorem law_GrantLine (q : Option Addr) (cap : Nat) (l : List Bool) (hc : l.length ≤ cap) : Fn Try.prog 10 [.slice q l.length cap].toArray [RowF Kd.boolK q l] (fun r post => r = .bool true ∧ post = []) := by
  have e1 : (Lk.mk [] []).ask 100 5 = (true, ⟨[⟨100, 5⟩], []⟩) := by kernel_rfl
  refine Fn.enter (N := 119) Try.func10 rfl Try.ntmps10 (by kernel_rfl) rfl (fun ρ L => ?_)
  refine K.seq ?_
  refine K.region ?_
  refine KO.q rfl (q_assign rfl) ?_
  refine KO.done ?_
  refine K.seq ?_
  refine K.region ?_
  refine KO.loud rfl (OpL.callD rfl (h := g_alive)) ?_
  rintro _ _ ⟨_, ⟨rfl, rfl⟩, rfl⟩
  refine KO.q rfl (q_assign rfl) ?_
  refine KO.done ?_
  refine K.seq <| K.seq ?_
  refine K.region ?_
  refine KO.q rfl (q_move rfl) ?_
  refine KO.q rfl (q_not rfl) ?_
  refine KO.q rfl (q_move rfl) ?_
  refine KO.q rfl (q_move rfl) ?_
  refine KO.q rfl (q_len Try.underlying61 rfl) ?_
  refine KO.q rfl (q_gt rfl rfl) ?_
  refine KO.q rfl (q_pickF rfl rfl) ?_
  refine KO.done ?_
  refine K.dcond (s := 19) rfl (fun g19 => ?_) (fun g19 => ?_)
  · refine K.seq ?_
    refine K.region ?_
    refine KO.q rfl (q_move rfl) ?_
    refine KO.q rfl (q_assign rfl) ?_
    refine KO.done ?_
    refine K.ret (fn := Try.f10) Try.func10 (fun a w hk hs => res1 Try.results10 hk rfl) (fun w hs => ?_)
    exact ⟨_, [], rfl, ⟨rfl, rfl⟩, hs.fitD⟩
  · refine K.skip <| K.seq ?_
    refine K.region ?_
    refine KO.q rfl (q_build st_48 rfl (by repeat (first | exact Fill.nil | (apply Fill.cons; rfl; rfl; rfl) | exact SetN.nil | apply SetN.cons | exact SetAt.here | apply SetAt.there))) ?_
    refine KO.loud rfl (l_box rfl rfl) ?_
    rintro _ _ ⟨b22, rfl, rfl⟩
    refine KO.q rfl (q_assign rfl) ?_
    refine KO.done ?_
    refine K.st (fun w h => lkX_new h) ?_
    refine K.seq <| K.seq ?_
    refine K.region ?_
    refine KO.q rfl (q_move rfl) ?_
    refine KO.loud rfl (OpL.callD rfl (h := lk_AskX b22 ⟨[], []⟩ 100 5 (by decide))) ?_
    rintro _ _ ⟨_, ⟨rfl, rfl⟩, rfl⟩
    rw [e1]
    refine KO.q rfl (q_not rfl) ?_
    refine KO.done ?_
    refine K.no rfl ?_
    refine K.skip <| K.seq <| K.seq ?_
    refine K.region ?_
    refine KO.q rfl (q_assign rfl) ?_
    refine KO.done ?_
    refine K.block ?_
    refine K.rounds2 (ι := { s : Nat // s ≤ l.length }) (fun s => [(5, .int .i64 s.1), (0, .slice q l.length cap), (4, .pointer (some ⟨b22, 0, none⟩))]) (fun s => [LkX b22 ⟨[⟨100, 5⟩], lnF (l.take s.1) 0⟩, RowF Kd.boolK q l] ++ L) (fun s => l.length - s.1) ⟨0, Nat.zero_le _⟩ (by repeat (first | exact Env.sub_nil _ | refine Env.sub_cons rfl ?_)) (fun w h => h.fitD) (fun s ih => ?_)
    obtain ⟨i, hi⟩ := s
    dsimp only at hi ⊢
    refine K.seq <| K.seq ?_
    refine K.region ?_
    refine KO.q rfl (q_move rfl) ?_
    refine KO.q rfl (q_move rfl) ?_
    refine KO.q rfl (q_len Try.underlying61 rfl) ?_
    refine KO.q rfl (q_lt rfl rfl) ?_
    refine KO.done ?_
    refine K.dcond (s := 29) rfl (fun g29 => ?_) (fun g29 => ?_)
    · obtain ⟨b, hb⟩ : ∃ b, l[i]? = some b := ⟨_, List.getElem?_eq_getElem (by omega)⟩
      have htl : (l.take i).length = i := by rw [List.length_take]; omega
      have hln := lnF_take hb
      have hsz : (Lk.mk [⟨100, 5⟩] (lnF (l.take i) 0)).size ≤ 1000000 := by
        show 1 + (lnF (l.take i) 0).length ≤ _
        rw [lnF_len, htl]
        omega
      refine K.skip <| K.seq <| K.block <| K.seq ?_
      refine K.region ?_
      refine KO.q rfl (q_assign rfl) ?_
      refine KO.done ?_
      refine K.seq <| K.seq ?_
      refine K.region ?_
      refine KO.q rfl (q_move rfl) ?_
      refine KO.q rfl (q_move rfl) ?_
      refine KO.q rfl (q_ix i se_61 rfl rfl rfl isF (by repeat (first | exact List.Mem.head _ | apply List.Mem.tail)) rfl (by omega)) ?_
      refine KO.q rfl (q_ldE ck_4 rfl isF (by repeat (first | exact List.Mem.head _ | apply List.Mem.tail)) hb rfl) ?_
      refine KO.done ?_
      first | refine K.dcond (s := 35) rfl (fun g35 => ?_) (fun g35 => ?_) | refine K.bcond (s := 35) rfl (fun g35 => ?_) (fun g35 => ?_)
      · have hask := ask_line (bs := l.take i) (m := 5) (.inr rfl) (by omega)
        rw [htl] at hask hln
        rw [if_pos g35] at hln
        refine K.region ?_
        refine KO.q rfl (q_assign rfl) ?_
        refine KO.done ?_
        refine K.seq ?_
        refine K.region ?_
        refine KO.q rfl (q_move rfl) ?_
        refine KO.q rfl (q_move rfl) ?_
        refine KO.q rfl (q_move rfl) ?_
        refine KO.loud rfl (OpL.callD rfl (h := lk_AskX b22 ⟨[⟨100, 5⟩], lnF (l.take i) 0⟩ i 5 hsz)) ?_
        rintro _ _ ⟨_, ⟨rfl, rfl⟩, rfl⟩
        rw [hask, ← hln]
        refine KO.done ?_
        refine K.no rfl ?_
        refine K.skip <| K.inBlock ?_
        refine K.region ?_
        refine KO.q rfl (q_move rfl) ?_
        refine KO.q rfl (q_add rfl rfl (by first | omega | (simp; omega)) (by first | omega | (simp; omega))) ?_
        refine KO.q rfl (q_assign rfl) ?_
        refine KO.done ?_
        exact K.weak (by repeat (first | exact Env.sub_nil _ | refine Env.sub_cons rfl ?_)) (fun w h => h.fitD) (ih ⟨i + 1, by omega⟩ (by show l.length - (i + 1) < l.length - i; omega))
      · have hask := ask_line (bs := l.take i) (m := 3) (.inl rfl) (by omega)
        rw [htl] at hask hln
        rw [if_neg (by rw [g35]; exact Bool.false_ne_true)] at hln
        refine K.skip <| K.seq ?_
        refine K.region ?_
        refine KO.q rfl (q_move rfl) ?_
        refine KO.q rfl (q_move rfl) ?_
        refine KO.q rfl (q_move rfl) ?_
        refine KO.loud rfl (OpL.callD rfl (h := lk_AskX b22 ⟨[⟨100, 5⟩], lnF (l.take i) 0⟩ i 3 hsz)) ?_
        rintro _ _ ⟨_, ⟨rfl, rfl⟩, rfl⟩
        rw [hask, ← hln]
        refine KO.done ?_
        refine K.no rfl ?_
        refine K.skip <| K.inBlock ?_
        refine K.region ?_
        refine KO.q rfl (q_move rfl) ?_
        refine KO.q rfl (q_add rfl rfl (by first | omega | (simp; omega)) (by first | omega | (simp; omega))) ?_
        refine KO.q rfl (q_assign rfl) ?_
        refine KO.done ?_
        exact K.weak (by repeat (first | exact Env.sub_nil _ | refine Env.sub_cons rfl ?_)) (fun w h => h.fitD) (ih ⟨i + 1, by omega⟩ (by show l.length - (i + 1) < l.length - i; omega))
    · obtain rfl : i = l.length := by omega
      rw [List.take_length]
      have hg0 : GL l ⟨[⟨100, 5⟩], lnF l 0⟩ 0 := ⟨Nat.zero_le _, by rw [List.drop_zero], by simp, fun h hh x hx => by
        obtain ⟨j, _, h2, h3⟩ := lnF_mem hx
        rw [List.mem_singleton.1 hh, h3]
        show (j : Int) ≠ 100
        omega, fun h => by
        have h : 2 ≤ 1 := h
        omega⟩
      have hz0 : (Lk.mk [⟨100, 5⟩] (lnF l 0)).size ≤ 100 := by
        show 1 + (lnF l 0).length ≤ _
        rw [lnF_len]
        omega
      refine K.exit rfl ?_
      refine K.seq ?_
      refine K.region ?_
      refine KO.loud rfl (l_slice sz_36_1 rfl (by repeat (first | exact Fill.nil | (apply Fill.cons; rfl; rfl; rfl) | exact SetN.nil | apply SetN.cons | exact SetAt.here | apply SetAt.there))) ?_
      rintro _ _ ⟨b40, rfl, rfl⟩
      refine KO.st (fun w h => pv_ints [100] rfl h) ?_
      refine KO.q rfl (q_assign rfl) ?_
      refine KO.done ?_
      refine K.seq ?_
      refine K.region ?_
      refine KO.q rfl (q_assign rfl) ?_
      refine KO.done ?_
      refine K.seq <| K.block ?_
      refine K.rounds2 (ι := { s : Lk × Nat × Option Addr × Nat // GL l s.1 s.2.1 ∧ s.1.size ≤ 100 ∧ (s.1.hold = [] → s.2.1 = l.length) }) (fun s => [(7, .slice s.1.2.2.1 (s.1.1.hold.map One.who).length s.1.2.2.2), (8, .int .i64 s.1.2.1), (0, .slice q l.length cap), (4, .pointer (some ⟨b22, 0, none⟩))]) (fun s => [RowF (Kd.int .i64) s.1.2.2.1 (s.1.1.hold.map One.who), LkX b22 s.1.1, RowF Kd.boolK q l] ++ L) (fun s => 2 * (l.length - s.1.2.1) + min 1 s.1.1.hold.length) ⟨(⟨[⟨100, 5⟩], lnF l 0⟩, 0, some ⟨b40, 0, none⟩, 1), hg0, hz0, fun h => by cases h⟩ (by repeat (first | exact Env.sub_nil _ | refine Env.sub_cons rfl ?_)) (fun w h => h.fitD) (fun s ih => ?_)
      obtain ⟨⟨⟨H, ln⟩, i, pw, cw⟩, hg, hsz, hend⟩ := s
      dsimp only at hg hsz hend ⊢
      have hil := hg.le
      have hHb : H.length ≤ 100 := by have h : H.length + ln.length ≤ 100 := hsz; omega
      refine K.seq <| K.seq ?_
      refine K.region ?_
      refine KO.q rfl (q_move rfl) ?_
      refine KO.q rfl (q_len Try.underlying36 rfl) ?_
      refine KO.q rfl (q_gt rfl rfl) ?_
      refine KO.done ?_
      refine K.dcond (s := 43) rfl (fun g43 => ?_) (fun g43 => ?_)
      · have hHl : 0 < H.length := by rw [List.length_map] at g43; omega
        obtain ⟨g, hgN⟩ : ∃ g, g = grpN (l.drop i) := ⟨_, rfl⟩
        have hgle := grpN_le (l.drop i)
        rw [← hgN, List.length_drop] at hgle
        refine K.skip <| K.block <| K.seq ?_
        refine K.region ?_
        refine KO.q rfl (q_assign rfl) ?_
        refine KO.done ?_
        refine K.seq <| K.seq ?_
        refine K.region ?_
        refine KO.q rfl (q_assign rfl) ?_
        refine KO.done ?_
        refine K.block ?_
        refine K.rounds2 (ι := { s : (Nat × Option Addr × Nat) × Lk × List Int // s.1.1 ≤ H.length ∧ InR l H ln i s.1.1 s.2.1 s.2.2 }) (fun s => [(10, .int .i64 s.1.1.1), (9, .slice s.1.1.2.1 s.1.2.2.length s.1.1.2.2), (7, .slice pw (H.map One.who).length cw), (8, .int .i64 i), (0, .slice q l.length cap), (4, .pointer (some ⟨b22, 0, none⟩))]) (fun s => [RowO (Kd.int .i64) 3 s.1.1.2.1 s.1.1.2.2 s.1.2.2, LkX b22 s.1.2.1, RowF (Kd.int .i64) pw (H.map One.who), RowF Kd.boolK q l] ++ L) (fun s => H.length - s.1.1.1) ⟨((0, none, 0), ⟨H, ln⟩, []), Nat.zero_le _, hsz, .inl ⟨hHl, rfl, rfl, hg⟩⟩ (by repeat (first | exact Env.sub_nil _ | refine Env.sub_cons rfl ?_)) (fun w h => rowO_nil (k := Kd.int .i64) 3 (h.fit (M := [LkX b22 ⟨H, ln⟩, RowF (Kd.int .i64) pw (H.map One.who), RowF Kd.boolK q l]) (by repeat (first | exact Give.nil | (apply Give.perI; (repeat (first | exact List.Mem.head _ | apply List.Mem.tail))) | (apply Give.own; (repeat (first | exact Pick.here | apply Pick.there))))) (by repeat (first | exact Drop.refl | apply Drop.skip)))) (fun s ih2 => ?_)
        obtain ⟨⟨⟨j, pa, ca⟩, kc, al⟩, hj, hin⟩ := s
        dsimp only at hj hin ⊢
        have hall := hin.out_len (by omega)
        refine K.seq <| K.seq ?_
        refine K.region ?_
        refine KO.q rfl (q_move rfl) ?_
        refine KO.q rfl (q_move rfl) ?_
        refine KO.q rfl (q_len Try.underlying36 rfl) ?_
        refine KO.q rfl (q_lt rfl rfl) ?_
        refine KO.done ?_
        refine K.dcond (s := 47) rfl (fun g47 => ?_) (fun g47 => ?_)
        · have hjH : j < H.length := by rw [List.length_map] at g47; omega
          obtain ⟨x, hx, hstep⟩ := hin.step (by omega) hjH
          have hxw : (H.map One.who)[j]? = some x.who := by rw [List.getElem?_map, hx]; rfl
          have hdo := kc.drop_out x.who
          have hks := hin.1
          refine K.skip <| K.seq <| K.block ?_
          refine K.region ?_
          refine KO.q rfl (q_move rfl) ?_
          refine KO.q rfl (q_move rfl) ?_
          refine KO.q rfl (q_move rfl) ?_
          refine KO.q rfl (q_move rfl) ?_
          refine KO.q rfl (q_ix (xs := H.map One.who) j se_36 rfl rfl rfl isF (by repeat (first | exact List.Mem.head _ | apply List.Mem.tail)) rfl (by rw [List.length_map]; omega)) ?_
          refine KO.q rfl (q_ldE (xs := H.map One.who) ck_3 rfl isF (by repeat (first | exact List.Mem.head _ | apply List.Mem.tail)) hxw rfl) ?_
          refine KO.loud rfl (OpL.callD rfl (h := lk_DropX b22 kc x.who (by omega))) ?_
          rintro _ _ ⟨_, ⟨p1, d1, rfl, rfl⟩, rfl⟩
          refine KO.loud rfl (l_append (Kd.int .i64) (ys := (kc.drop x.who).1) se_36 Try.underlying36 ⟨_, ze_3, rfl⟩ (by decide) rfl rfl (by repeat (first | exact Pick.here | apply Pick.there)) isO (by repeat (first | exact List.Mem.head _ | apply List.Mem.tail)) rfl rfl (by show (2 * (al.length + (kc.drop x.who).1.length) + 768) * 8 ≤ _; omega)) ?_
          rintro _ _ ⟨pn, dn, rfl, rfl⟩
          refine KO.q rfl (q_assign rfl) ?_
          refine KO.done ?_
          refine K.inBlock ?_
          refine K.region ?_
          refine KO.q rfl (q_move rfl) ?_
          refine KO.q rfl (q_add rfl rfl (by first | omega | (simp; omega)) (by first | omega | (simp; omega))) ?_
          refine KO.q rfl (q_assign rfl) ?_
          refine KO.done ?_
          exact K.weak (by repeat (first | exact Env.sub_nil _ | refine Env.sub_cons rfl ?_)) (fun w h => h.fitD) (ih2 ⟨((j + 1, pn, dn), (kc.drop x.who).2, al ++ (kc.drop x.who).1), by show j + 1 ≤ _; omega, hstep⟩ (by show H.length - (j + 1) < H.length - j; omega))
        · obtain ⟨hks, ⟨hjj, _⟩ | ⟨_, hal, hkc, hg2⟩⟩ := hin
          · rw [List.length_map] at g47; omega
          rw [← hgN] at hal hkc hg2
          subst hal hkc
          clear ih2
          have hgt : ((l.drop i).take g).length = g := by rw [List.length_take, List.length_drop]; omega
          refine K.exit rfl ?_
          refine K.seq <| K.seq ?_
          refine K.region ?_
          refine KO.q rfl (q_assign rfl) ?_
          refine KO.done ?_
          refine K.block ?_
          refine K.rounds2 (ι := { s : Nat // s ≤ g }) (fun s => [(11, .int .i64 s.1), (8, .int .i64 ((i + s.1 : Nat) : Int)), (9, .slice pa (ints i g).length ca), (0, .slice q l.length cap), (4, .pointer (some ⟨b22, 0, none⟩))]) (fun s => [RowO (Kd.int .i64) 3 pa ca (ints i g), LkX b22 ⟨lnF ((l.drop i).take g) i, lnF (l.drop (i + g)) (i + g)⟩, RowF Kd.boolK q l] ++ L) (fun s => g - s.1) ⟨0, Nat.zero_le _⟩ (by repeat (first | exact Env.sub_nil _ | refine Env.sub_cons rfl ?_)) (fun w h => h.fitD) (fun s ih3 => ?_)
          obtain ⟨t, ht⟩ := s
          dsimp only at ht ⊢
          refine K.seq <| K.seq ?_
          refine K.region ?_
          refine KO.q rfl (q_move rfl) ?_
          refine KO.q rfl (q_move rfl) ?_
          refine KO.q rfl (q_len Try.underlying36 rfl) ?_
          refine KO.q rfl (q_lt rfl rfl) ?_
          refine KO.done ?_
          refine K.dcond (s := 61) rfl (fun g61 => ?_) (fun g61 => ?_)
          · have htg : t < g := by rw [ints_len] at g61; omega
            obtain ⟨bt, hbt⟩ : ∃ bt, l[i + t]? = some bt := ⟨_, List.getElem?_eq_getElem (by omega)⟩
            refine K.skip <| K.seq <| K.block <| K.seq <| K.seq ?_
            refine K.region ?_
            refine KO.q rfl (q_move rfl) ?_
            refine KO.q rfl (q_move rfl) ?_
            refine KO.q rfl (q_ix (xs := ints i g) t se_36 rfl rfl rfl isO (by repeat (first | exact List.Mem.head _ | apply List.Mem.tail)) rfl (by rw [ints_len]; omega)) ?_
            refine KO.q rfl (q_ldE (xs := ints i g) ck_3 rfl isO (by repeat (first | exact List.Mem.head _ | apply List.Mem.tail)) (ints_get htg) rfl) ?_
            refine KO.q rfl (q_move rfl) ?_
            refine KO.q rfl (q_neF rfl rfl (rfl)) ?_
            refine KO.q rfl (q_move rfl) ?_
            refine KO.q rfl (q_move rfl) ?_
            refine KO.q rfl (q_move rfl) ?_
            refine KO.q rfl (q_ix (xs := l) (i + t) se_61 rfl rfl rfl isF (by repeat (first | exact List.Mem.head _ | apply List.Mem.tail)) rfl (by omega)) ?_
            refine KO.q rfl (q_ldE (xs := l) ck_4 rfl isF (by repeat (first | exact List.Mem.head _ | apply List.Mem.tail)) hbt rfl) ?_
            refine KO.q rfl (q_move rfl) ?_
            first | refine KO.dsplit 75 rfl (fun g75 => ?_) (fun g75 => ?_) | refine KO.split 75 rfl (fun g75 => ?_) (fun g75 => ?_)
            · refine KO.q rfl (q_move rfl) ?_
              refine KO.q rfl (q_len Try.underlying36 rfl) ?_
              refine KO.q rfl (q_gt rfl rfl) ?_
              refine KO.q rfl (q_pickT rfl rfl) ?_
              refine KO.q rfl (q_pickF rfl rfl) ?_
              refine KO.done ?_
              refine K.dcond (s := 80) rfl (fun g80 => ?_) (fun g80 => ?_)
              · have hg1 : g = 1 := by
                  rcases h0 : (l.drop i)[0]? with _ | b0
                  · rw [List.getElem?_drop, List.getElem?_eq_none_iff] at h0; omega
                  · rcases b0 with _ | _
                    · have := (grpN_read h0).1 t (by omega)
                      rw [List.getElem?_drop, hbt, g75] at this
                      cases this
                    · rw [hgN]; exact grpN_one h0
                rw [ints_len] at g80
                omega
              · refine K.skip ?_
                refine K.region ?_
                refine KO.q rfl (q_move rfl) ?_
                refine KO.q rfl (q_add rfl rfl (by first | omega | (simp; omega)) (by first | omega | (simp; omega))) ?_
                refine KO.q rfl (q_assign rfl) ?_
                refine KO.done ?_
                refine K.inBlock ?_
                refine K.region ?_
                refine KO.q rfl (q_move rfl) ?_
                refine KO.q rfl (q_add rfl rfl (by first | omega | (simp; omega)) (by first | omega | (simp; omega))) ?_
                refine KO.q rfl (q_assign rfl) ?_
                refine KO.done ?_
                exact K.weak (by repeat (first | exact Env.sub_nil _ | refine Env.sub_cons rfl ?_)) (fun w h => h.fitD) (ih3 ⟨t + 1, by omega⟩ (by show g - (t + 1) < g - t; omega))
            · refine KO.skip rfl ?_
              refine KO.skip rfl ?_
              refine KO.skip rfl ?_
              refine KO.q rfl (q_pickF rfl rfl) ?_
              refine KO.q rfl (q_pickF rfl rfl) ?_
              refine KO.done ?_
              refine K.no rfl ?_
              refine K.skip ?_
              refine K.region ?_
              refine KO.q rfl (q_move rfl) ?_
              refine KO.q rfl (q_add rfl rfl (by first | omega | (simp; omega)) (by first | omega | (simp; omega))) ?_
              refine KO.q rfl (q_assign rfl) ?_
              refine KO.done ?_
              refine K.inBlock ?_
              refine K.region ?_
              refine KO.q rfl (q_move rfl) ?_
              refine KO.q rfl (q_add rfl rfl (by first | omega | (simp; omega)) (by first | omega | (simp; omega))) ?_
              refine KO.q rfl (q_assign rfl) ?_
              refine KO.done ?_
              exact K.weak (by repeat (first | exact Env.sub_nil _ | refine Env.sub_cons rfl ?_)) (fun w h => h.fitD) (ih3 ⟨t + 1, by omega⟩ (by show g - (t + 1) < g - t; omega))
          · obtain rfl : t = g := by rw [ints_len] at g61; omega
            clear ih3
            refine K.exit rfl ?_
            refine K.seq <| K.seq ?_
            refine K.region ?_
            refine KO.q rfl (q_move rfl) ?_
            refine KO.q rfl (q_move rfl) ?_
            refine KO.q rfl (q_len Try.underlying61 rfl) ?_
            refine KO.q rfl (q_lt rfl rfl) ?_
            refine KO.q rfl (q_move rfl) ?_
            refine KO.dsplit 87 rfl (fun g87 => ?_) (fun g87 => ?_)
            · refine KO.q rfl (q_move rfl) ?_
              refine KO.q rfl (q_len Try.underlying36 rfl) ?_
              refine KO.q rfl (q_gt rfl rfl) ?_
              refine KO.q rfl (q_pickT rfl rfl) ?_
              refine KO.q rfl (q_move rfl) ?_
              refine KO.dsplit 92 rfl (fun g92 => ?_) (fun g92 => ?_)
              · have hg0 : 0 < t := by rw [ints_len] at g92; omega
                obtain ⟨b0, hb0⟩ : ∃ b0, l[i]? = some b0 := ⟨_, List.getElem?_eq_getElem (by omega)⟩
                obtain ⟨b1, hb1⟩ : ∃ b1, l[i + t]? = some b1 := ⟨_, List.getElem?_eq_getElem (by omega)⟩
                refine KO.q rfl (q_move rfl) ?_
                refine KO.q rfl (q_move rfl) ?_
                refine KO.q rfl (q_ix (xs := ints i t) 0 se_36 rfl rfl rfl isO (by repeat (first | exact List.Mem.head _ | apply List.Mem.tail)) rfl (by rw [ints_len]; omega)) ?_
                refine KO.q rfl (q_ldE (xs := ints i t) ck_3 rfl isO (by repeat (first | exact List.Mem.head _ | apply List.Mem.tail)) (ints_get hg0) rfl) ?_
                refine KO.q rfl (q_ix (xs := l) i se_61 rfl rfl rfl isF (by repeat (first | exact List.Mem.head _ | apply List.Mem.tail)) rfl (by omega)) ?_
                refine KO.q rfl (q_ldE (xs := l) ck_4 rfl isF (by repeat (first | exact List.Mem.head _ | apply List.Mem.tail)) hb0 rfl) ?_
                refine KO.q rfl (q_not rfl) ?_
                refine KO.q rfl (q_pickT rfl rfl) ?_
                refine KO.q rfl (q_move rfl) ?_
                refine KO.split 101 rfl (fun g101 => ?_) (fun g101 => ?_)
                · refine KO.q rfl (q_move rfl) ?_
                  refine KO.q rfl (q_move rfl) ?_
                  refine KO.q rfl (q_ix (xs := l) (i + t) se_61 rfl rfl rfl isF (by repeat (first | exact List.Mem.head _ | apply List.Mem.tail)) rfl (by omega)) ?_
                  refine KO.q rfl (q_ldE (xs := l) ck_4 rfl isF (by repeat (first | exact List.Mem.head _ | apply List.Mem.tail)) hb1 rfl) ?_
                  refine KO.q rfl (q_not rfl) ?_
                  refine KO.q rfl (q_pickT rfl rfl) ?_
                  refine KO.done ?_
                  refine K.bcond (s := 107) rfl (fun g107 => ?_) (fun g107 => ?_)
                  · have h0 : (l.drop i)[0]? = some false := by rw [List.getElem?_drop, Nat.add_zero, hb0]; simpa using g101
                    have := (grpN_read h0).2
                    rw [← hgN, List.getElem?_drop, hb1] at this
                    simp only [Bool.not_eq_true'] at g107
                    exact absurd (congrArg some g107) this
                  · refine K.skip ?_
                    refine K.region ?_
                    refine KO.q rfl (q_move rfl) ?_
                    refine KO.q rfl (q_assign rfl) ?_
                    refine KO.done ?_
                    refine K.inBlock ?_
                    have hwho : (lnF ((l.drop i).take t) i).map One.who = ints i t := by rw [lnF_whos, hgt]
                    refine K.st (fun w h => rowO_freeze (h.pick (by repeat (first | exact Pick.here | apply Pick.there)))) ?_
                    exact K.weak (E' := [(7, .slice pa ((lnF ((l.drop i).take t) i).map One.who).length ca), (8, .int .i64 ((i + t : Nat) : Int)), (0, .slice q l.length cap), (4, .pointer (some ⟨b22, 0, none⟩))]) (by rw [hwho]; exact (by repeat (first | exact Env.sub_nil _ | refine Env.sub_cons rfl ?_))) (fun w h => by dsimp only; rw [hwho]; exact h.fitD) (ih ⟨(⟨lnF ((l.drop i).take t) i, lnF (l.drop (i + t)) (i + t)⟩, i + t, pa, ca), hg2, hks, fun hz => by
                      have hz : lnF ((l.drop i).take t) i = [] := hz
                      have := congrArg List.length hz
                      rw [lnF_len, hgt] at this
                      simp only [List.length_nil] at this
                      have hn : l.drop i = [] := Decidable.byContradiction fun hne => by
                        have := grpN_pos hne
                        omega
                      have := congrArg List.length hn
                      rw [List.length_drop] at this
                      simp only [List.length_nil] at this
                      show i + t = l.length
                      omega⟩ (by
                      show 2 * (l.length - (i + t)) + min 1 (lnF ((l.drop i).take t) i).length < 2 * (l.length - i) + min 1 H.length
                      rw [lnF_len, hgt]
                      omega))
                · refine KO.skip rfl ?_
                  refine KO.skip rfl ?_
                  refine KO.skip rfl ?_
                  refine KO.skip rfl ?_
                  refine KO.skip rfl ?_
                  refine KO.q rfl (q_pickF rfl rfl) ?_
                  refine KO.done ?_
                  refine K.no rfl ?_
                  refine K.skip ?_
                  refine K.region ?_
                  refine KO.q rfl (q_move rfl) ?_
                  refine KO.q rfl (q_assign rfl) ?_
                  refine KO.done ?_
                  refine K.inBlock ?_
                  have hwho : (lnF ((l.drop i).take t) i).map One.who = ints i t := by rw [lnF_whos, hgt]
                  refine K.st (fun w h => rowO_freeze (h.pick (by repeat (first | exact Pick.here | apply Pick.there)))) ?_
                  exact K.weak (E' := [(7, .slice pa ((lnF ((l.drop i).take t) i).map One.who).length ca), (8, .int .i64 ((i + t : Nat) : Int)), (0, .slice q l.length cap), (4, .pointer (some ⟨b22, 0, none⟩))]) (by rw [hwho]; exact (by repeat (first | exact Env.sub_nil _ | refine Env.sub_cons rfl ?_))) (fun w h => by dsimp only; rw [hwho]; exact h.fitD) (ih ⟨(⟨lnF ((l.drop i).take t) i, lnF (l.drop (i + t)) (i + t)⟩, i + t, pa, ca), hg2, hks, fun hz => by
                    have hz : lnF ((l.drop i).take t) i = [] := hz
                    have := congrArg List.length hz
                    rw [lnF_len, hgt] at this
                    simp only [List.length_nil] at this
                    have hn : l.drop i = [] := Decidable.byContradiction fun hne => by
                      have := grpN_pos hne
                      omega
                    have := congrArg List.length hn
                    rw [List.length_drop] at this
                    simp only [List.length_nil] at this
                    show i + t = l.length
                    omega⟩ (by
                    show 2 * (l.length - (i + t)) + min 1 (lnF ((l.drop i).take t) i).length < 2 * (l.length - i) + min 1 H.length
                    rw [lnF_len, hgt]
                    omega))
              · refine KO.skip rfl ?_
                refine KO.skip rfl ?_
                refine KO.skip rfl ?_
                refine KO.skip rfl ?_
                refine KO.skip rfl ?_
                refine KO.skip rfl ?_
                refine KO.skip rfl ?_
                refine KO.q rfl (q_pickF rfl rfl) ?_
                refine KO.q rfl (q_move rfl) ?_
                refine KO.skip rfl ?_
                refine KO.skip rfl ?_
                refine KO.skip rfl ?_
                refine KO.skip rfl ?_
                refine KO.skip rfl ?_
                refine KO.q rfl (q_pickF rfl rfl) ?_
                refine KO.done ?_
                refine K.no rfl ?_
                refine K.skip ?_
                refine K.region ?_
                refine KO.q rfl (q_move rfl) ?_
                refine KO.q rfl (q_assign rfl) ?_
                refine KO.done ?_
                refine K.inBlock ?_
                have hwho : (lnF ((l.drop i).take t) i).map One.who = ints i t := by rw [lnF_whos, hgt]
                refine K.st (fun w h => rowO_freeze (h.pick (by repeat (first | exact Pick.here | apply Pick.there)))) ?_
                exact K.weak (E' := [(7, .slice pa ((lnF ((l.drop i).take t) i).map One.who).length ca), (8, .int .i64 ((i + t : Nat) : Int)), (0, .slice q l.length cap), (4, .pointer (some ⟨b22, 0, none⟩))]) (by rw [hwho]; exact (by repeat (first | exact Env.sub_nil _ | refine Env.sub_cons rfl ?_))) (fun w h => by dsimp only; rw [hwho]; exact h.fitD) (ih ⟨(⟨lnF ((l.drop i).take t) i, lnF (l.drop (i + t)) (i + t)⟩, i + t, pa, ca), hg2, hks, fun hz => by
                  have hz : lnF ((l.drop i).take t) i = [] := hz
                  have := congrArg List.length hz
                  rw [lnF_len, hgt] at this
                  simp only [List.length_nil] at this
                  have hn : l.drop i = [] := Decidable.byContradiction fun hne => by
                    have := grpN_pos hne
                    omega
                  have := congrArg List.length hn
                  rw [List.length_drop] at this
                  simp only [List.length_nil] at this
                  show i + t = l.length
                  omega⟩ (by
                  show 2 * (l.length - (i + t)) + min 1 (lnF ((l.drop i).take t) i).length < 2 * (l.length - i) + min 1 H.length
                  rw [lnF_len, hgt]
                  omega))
            · refine KO.skip rfl ?_
              refine KO.skip rfl ?_
              refine KO.skip rfl ?_
              refine KO.q rfl (q_pickF rfl rfl) ?_
              refine KO.q rfl (q_move rfl) ?_
              refine KO.skip rfl ?_
              refine KO.skip rfl ?_
              refine KO.skip rfl ?_
              refine KO.skip rfl ?_
              refine KO.skip rfl ?_
              refine KO.skip rfl ?_
              refine KO.skip rfl ?_
              refine KO.q rfl (q_pickF rfl rfl) ?_
              refine KO.q rfl (q_move rfl) ?_
              refine KO.skip rfl ?_
              refine KO.skip rfl ?_
              refine KO.skip rfl ?_
              refine KO.skip rfl ?_
              refine KO.skip rfl ?_
              refine KO.q rfl (q_pickF rfl rfl) ?_
              refine KO.done ?_
              refine K.no rfl ?_
              refine K.skip ?_
              refine K.region ?_
              refine KO.q rfl (q_move rfl) ?_
              refine KO.q rfl (q_assign rfl) ?_
              refine KO.done ?_
              refine K.inBlock ?_
              have hwho : (lnF ((l.drop i).take t) i).map One.who = ints i t := by rw [lnF_whos, hgt]
              refine K.st (fun w h => rowO_freeze (h.pick (by repeat (first | exact Pick.here | apply Pick.there)))) ?_
              exact K.weak (E' := [(7, .slice pa ((lnF ((l.drop i).take t) i).map One.who).length ca), (8, .int .i64 ((i + t : Nat) : Int)), (0, .slice q l.length cap), (4, .pointer (some ⟨b22, 0, none⟩))]) (by rw [hwho]; exact (by repeat (first | exact Env.sub_nil _ | refine Env.sub_cons rfl ?_))) (fun w h => by dsimp only; rw [hwho]; exact h.fitD) (ih ⟨(⟨lnF ((l.drop i).take t) i, lnF (l.drop (i + t)) (i + t)⟩, i + t, pa, ca), hg2, hks, fun hz => by
                have hz : lnF ((l.drop i).take t) i = [] := hz
                have := congrArg List.length hz
                rw [lnF_len, hgt] at this
                simp only [List.length_nil] at this
                have hn : l.drop i = [] := Decidable.byContradiction fun hne => by
                  have := grpN_pos hne
                  omega
                have := congrArg List.length hn
                rw [List.length_drop] at this
                simp only [List.length_nil] at this
                show i + t = l.length
                omega⟩ (by
                show 2 * (l.length - (i + t)) + min 1 (lnF ((l.drop i).take t) i).length < 2 * (l.length - i) + min 1 H.length
                rw [lnF_len, hgt]
                omega))
      · have hH : H = [] := by
          rcases H with _ | ⟨h, t⟩
          · rfl
          · simp at g43
        have hie := hend hH
        subst hH hie
        have hln : ln = [] := by
          have := hg.line
          rw [List.drop_length] at this
          exact this
        subst hln
        refine K.exit rfl ?_
        refine K.seq ?_
        refine K.region ?_
        refine KO.q rfl (q_move rfl) ?_
        refine KO.q rfl (q_move rfl) ?_
        refine KO.q rfl (q_len Try.underlying61 rfl) ?_
        refine KO.q rfl (q_eqT rfl rfl (rfl)) ?_
        refine KO.q rfl (q_move rfl) ?_
        refine KO.q rfl (q_move rfl) ?_
        refine KO.loud rfl (OpL.callD rfl (h := lk_HoldsX b22 ⟨[], []⟩ (by decide))) ?_
        rintro _ _ ⟨_, ⟨p9, d9, rfl, rfl⟩, rfl⟩
        refine KO.q rfl (q_len Try.underlying50 rfl) ?_
        refine KO.q rfl (q_eqT rfl rfl (rfl)) ?_
        refine KO.q rfl (q_pickT rfl rfl) ?_
        refine KO.q rfl (q_assign rfl) ?_
        refine KO.done ?_
        refine K.ret (fn := Try.f10) Try.func10 (fun a w hk hs => res1 Try.results10 hk rfl) (fun w hs => ?_)
        exact ⟨_, [], rfl, ⟨rfl, rfl⟩, hs.fitD⟩
end Go.Proofs.Ytfpkeanimkgpaaa.L
