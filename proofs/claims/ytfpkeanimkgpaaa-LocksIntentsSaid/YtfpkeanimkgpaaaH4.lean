/- Walks: the document's lock: freeing. -/
import Derived.Test.YtfpkeanimkgpaaaH3
namespace Go.Proofs.Ytfpkeanimkgpaaa.L
open Go Go.Proofs
attribute [local irreducible] pv fv pt fz RowF RowO rowP old pure_ elA
set_option maxRecDepth 100000
set_option linter.unusedSimpArgs false
set_option linter.unusedVariables false

set_option maxHeartbeats 800000 in
theorem rf_withoutH (q : Option Addr) (cap : Nat) (l : List One) (who : Int) (hn : l.length ≤ 1000000000) : Fn Try.prog 67 [.slice q l.length cap, .int .i64 who].toArray [RowO Kd.oneH 60 q cap l] (fun r post => ∃ po co, r = .slice po (l.filter (fun x => !decide (x.who = who))).length co ∧ post = [RowO Kd.oneH 60 po co (l.filter (fun x => !decide (x.who = who))), RowO Kd.oneH 60 q cap l]) := by
  refine Fn.enter (N := 28) Try.func67 rfl Try.ntmps67 (by kernel_rfl) rfl (fun ρ L => ?_)
  refine K.seq ?_
  refine K.region ?_
  refine KO.q rfl (q_assign rfl) ?_
  refine KO.done ?_
  refine K.seq ?_
  refine K.region ?_
  refine KO.q rfl (q_assign rfl) ?_
  refine KO.done ?_
  refine K.seq <| K.seq ?_
  refine K.region ?_
  refine KO.q rfl (q_assign rfl) ?_
  refine KO.done ?_
  refine K.block ?_
  refine K.rounds2 (ι := { s : Nat × Option Addr × Nat // s.1 ≤ l.length }) (fun s => [(6, .int .i64 s.1.1), (5, .slice s.1.2.1 ((l.take s.1.1).filter (fun x => !decide (x.who = who))).length s.1.2.2), (0, .slice q l.length cap), (1, .int .i64 who)]) (fun s => [RowO Kd.oneH 60 s.1.2.1 s.1.2.2 ((l.take s.1.1).filter (fun x => !decide (x.who = who))), RowO Kd.oneH 60 q cap l] ++ L) (fun s => l.length - s.1.1) ⟨(0, none, 0), Nat.zero_le _⟩ (by repeat (first | exact Env.sub_nil _ | refine Env.sub_cons rfl ?_)) (fun w h => rowO_nil (k := Kd.oneH) 60 (h.fit (M := [RowO Kd.oneH 60 q cap l]) (by repeat (first | exact Give.nil | (apply Give.perI; (repeat (first | exact List.Mem.head _ | apply List.Mem.tail))) | (apply Give.own; (repeat (first | exact Pick.here | apply Pick.there))))) (by repeat (first | exact Drop.refl | apply Drop.skip)))) (fun s ih => ?_)
  obtain ⟨⟨i, po, co⟩, hi⟩ := s
  dsimp only at hi ⊢
  obtain ⟨out, hout⟩ : ∃ out, out = (l.take i).filter (fun x => !decide (x.who = who)) := ⟨_, rfl⟩
  have hol : out.length ≤ 1000000000 := by
    rw [hout]
    have h1 := List.length_filter_le (fun x => !decide (x.who = who)) (l.take i)
    rw [List.length_take] at h1
    omega
  rw [← hout]
  refine K.seq <| K.seq ?_
  refine K.region ?_
  refine KO.q rfl (q_move rfl) ?_
  refine KO.q rfl (q_move rfl) ?_
  refine KO.q rfl (q_len Try.underlying50 rfl) ?_
  refine KO.q rfl (q_lt rfl rfl) ?_
  refine KO.done ?_
  refine K.dcond (s := 10) rfl (fun g10 => ?_) (fun g10 => ?_)
  · obtain ⟨e, he⟩ : ∃ e, l[i]? = some e := ⟨_, List.getElem?_eq_getElem (by omega)⟩
    have hm := filter_take_succ (fun x => !decide (x.who = who)) he
    rw [← hout] at hm
    refine K.skip <| K.seq <| K.block <| K.seq ?_
    refine K.region ?_
    refine KO.q rfl (q_move rfl) ?_
    refine KO.q rfl (q_move rfl) ?_
    refine KO.q rfl (q_ix i se_50 rfl rfl rfl isO (by repeat (first | exact List.Mem.head _ | apply List.Mem.tail)) rfl (by omega)) ?_
    refine KO.q rfl (q_fieldE fo_60_0 rfl) ?_
    refine KO.q rfl (q_ldE ck_3 rfl isO (by repeat (first | exact List.Mem.head _ | apply List.Mem.tail)) he rfl) ?_
    refine KO.q rfl (q_move rfl) ?_
    refine KO.q rfl (q_ne rfl rfl) ?_
    refine KO.done ?_
    refine K.dcond (s := 19) rfl (fun g19 => ?_) (fun g19 => ?_)
    · have hz : (l.take (i + 1)).filter (fun x => !decide (x.who = who)) = out ++ [e] := by rw [hm, if_pos (by rw [decide_eq_false g19]; rfl)]
      refine K.region ?_
      refine KO.q rfl (q_move rfl) ?_
      refine KO.q rfl (q_move rfl) ?_
      refine KO.q rfl (q_move rfl) ?_
      refine KO.q rfl (q_ix (xs := l) i se_50 rfl rfl rfl isO (by repeat (first | exact List.Mem.head _ | apply List.Mem.tail)) rfl (by omega)) ?_
      refine KO.q rfl (q_ldEN (xs := l) (enc := One.heldC) ck_60 rfl isO (by repeat (first | exact List.Mem.head _ | apply List.Mem.tail)) he) ?_
      refine KO.loud rfl (l_slice1 sz_50_1 rfl rfl ⟨rfl, rfl, rfl⟩) ?_
      rintro _ _ ⟨b25, rfl, rfl⟩
      refine KO.loud rfl (l_append Kd.oneH se_50 Try.underlying50 ⟨_, ze_60, rfl⟩ (by decide) rfl rfl (by repeat (first | exact Pick.here | apply Pick.there)) isP (by repeat (first | exact List.Mem.head _ | apply List.Mem.tail)) rfl rfl (by show (2 * (out.length + 1) + 768) * 24 ≤ _; omega)) ?_
      rintro _ _ ⟨pn, dn, rfl, rfl⟩
      refine KO.q rfl (q_assign rfl) ?_
      refine KO.done ?_
      refine K.inBlock ?_
      refine K.region ?_
      refine KO.q rfl (q_move rfl) ?_
      refine KO.q rfl (q_add rfl rfl (by first | omega | (simp; omega)) (by first | omega | (simp; omega))) ?_
      refine KO.q rfl (q_assign rfl) ?_
      refine KO.done ?_
      exact K.weak (E' := [(6, .int .i64 ((i + 1 : Nat) : Int)), (5, .slice pn ((l.take (i + 1)).filter (fun x => !decide (x.who = who))).length dn), (0, .slice q l.length cap), (1, .int .i64 who)]) (by rw [hz]; exact (by repeat (first | exact Env.sub_nil _ | refine Env.sub_cons rfl ?_))) (fun w h => by rw [hz]; exact h.fitD) (ih ⟨(i + 1, pn, dn), by show i + 1 ≤ _; omega⟩ (by show l.length - (i + 1) < l.length - i; omega))
    · have hz : (l.take (i + 1)).filter (fun x => !decide (x.who = who)) = out := by rw [hm, if_neg (by rw [decide_eq_true (by omega)]; decide), List.append_nil]
      refine K.skip <| K.inBlock ?_
      refine K.region ?_
      refine KO.q rfl (q_move rfl) ?_
      refine KO.q rfl (q_add rfl rfl (by first | omega | (simp; omega)) (by first | omega | (simp; omega))) ?_
      refine KO.q rfl (q_assign rfl) ?_
      refine KO.done ?_
      exact K.weak (E' := [(6, .int .i64 ((i + 1 : Nat) : Int)), (5, .slice po ((l.take (i + 1)).filter (fun x => !decide (x.who = who))).length co), (0, .slice q l.length cap), (1, .int .i64 who)]) (by rw [hz]; exact (by repeat (first | exact Env.sub_nil _ | refine Env.sub_cons rfl ?_))) (fun w h => by rw [hz]; exact h.fitD) (ih ⟨(i + 1, po, co), by show i + 1 ≤ _; omega⟩ (by show l.length - (i + 1) < l.length - i; omega))
  · obtain rfl : i = l.length := by omega
    rw [List.take_length] at hout
    refine K.exit rfl ?_
    refine K.seq ?_
    refine K.region ?_
    refine KO.q rfl (q_move rfl) ?_
    refine KO.q rfl (q_assign rfl) ?_
    refine KO.done ?_
    refine K.ret (fn := Try.f67) Try.func67 (fun a w hk hs => res1 Try.results67 hk rfl) (fun w hs => ?_)
    exact ⟨_, [RowO Kd.oneH 60 po co out, RowO Kd.oneH 60 q cap l], rfl, ⟨po, co, by rw [hout], by rw [hout]⟩, hs.fitD⟩
set_option maxHeartbeats 800000 in
theorem rf_withoutW (q : Option Addr) (cap : Nat) (l : List One) (who : Int) (hn : l.length ≤ 1000000000) : Fn Try.prog 67 [.slice q l.length cap, .int .i64 who].toArray [RowO Kd.oneW 60 q cap l] (fun r post => ∃ po co, r = .slice po (l.filter (fun x => !decide (x.who = who))).length co ∧ post = [RowO Kd.oneW 60 po co (l.filter (fun x => !decide (x.who = who))), RowO Kd.oneW 60 q cap l]) := by
  refine Fn.enter (N := 28) Try.func67 rfl Try.ntmps67 (by kernel_rfl) rfl (fun ρ L => ?_)
  refine K.seq ?_
  refine K.region ?_
  refine KO.q rfl (q_assign rfl) ?_
  refine KO.done ?_
  refine K.seq ?_
  refine K.region ?_
  refine KO.q rfl (q_assign rfl) ?_
  refine KO.done ?_
  refine K.seq <| K.seq ?_
  refine K.region ?_
  refine KO.q rfl (q_assign rfl) ?_
  refine KO.done ?_
  refine K.block ?_
  refine K.rounds2 (ι := { s : Nat × Option Addr × Nat // s.1 ≤ l.length }) (fun s => [(6, .int .i64 s.1.1), (5, .slice s.1.2.1 ((l.take s.1.1).filter (fun x => !decide (x.who = who))).length s.1.2.2), (0, .slice q l.length cap), (1, .int .i64 who)]) (fun s => [RowO Kd.oneW 60 s.1.2.1 s.1.2.2 ((l.take s.1.1).filter (fun x => !decide (x.who = who))), RowO Kd.oneW 60 q cap l] ++ L) (fun s => l.length - s.1.1) ⟨(0, none, 0), Nat.zero_le _⟩ (by repeat (first | exact Env.sub_nil _ | refine Env.sub_cons rfl ?_)) (fun w h => rowO_nil (k := Kd.oneW) 60 (h.fit (M := [RowO Kd.oneW 60 q cap l]) (by repeat (first | exact Give.nil | (apply Give.perI; (repeat (first | exact List.Mem.head _ | apply List.Mem.tail))) | (apply Give.own; (repeat (first | exact Pick.here | apply Pick.there))))) (by repeat (first | exact Drop.refl | apply Drop.skip)))) (fun s ih => ?_)
  obtain ⟨⟨i, po, co⟩, hi⟩ := s
  dsimp only at hi ⊢
  obtain ⟨out, hout⟩ : ∃ out, out = (l.take i).filter (fun x => !decide (x.who = who)) := ⟨_, rfl⟩
  have hol : out.length ≤ 1000000000 := by
    rw [hout]
    have h1 := List.length_filter_le (fun x => !decide (x.who = who)) (l.take i)
    rw [List.length_take] at h1
    omega
  rw [← hout]
  refine K.seq <| K.seq ?_
  refine K.region ?_
  refine KO.q rfl (q_move rfl) ?_
  refine KO.q rfl (q_move rfl) ?_
  refine KO.q rfl (q_len Try.underlying50 rfl) ?_
  refine KO.q rfl (q_lt rfl rfl) ?_
  refine KO.done ?_
  refine K.dcond (s := 10) rfl (fun g10 => ?_) (fun g10 => ?_)
  · obtain ⟨e, he⟩ : ∃ e, l[i]? = some e := ⟨_, List.getElem?_eq_getElem (by omega)⟩
    have hm := filter_take_succ (fun x => !decide (x.who = who)) he
    rw [← hout] at hm
    refine K.skip <| K.seq <| K.block <| K.seq ?_
    refine K.region ?_
    refine KO.q rfl (q_move rfl) ?_
    refine KO.q rfl (q_move rfl) ?_
    refine KO.q rfl (q_ix i se_50 rfl rfl rfl isO (by repeat (first | exact List.Mem.head _ | apply List.Mem.tail)) rfl (by omega)) ?_
    refine KO.q rfl (q_fieldE fo_60_0 rfl) ?_
    refine KO.q rfl (q_ldE ck_3 rfl isO (by repeat (first | exact List.Mem.head _ | apply List.Mem.tail)) he rfl) ?_
    refine KO.q rfl (q_move rfl) ?_
    refine KO.q rfl (q_ne rfl rfl) ?_
    refine KO.done ?_
    refine K.dcond (s := 19) rfl (fun g19 => ?_) (fun g19 => ?_)
    · have hz : (l.take (i + 1)).filter (fun x => !decide (x.who = who)) = out ++ [e] := by rw [hm, if_pos (by rw [decide_eq_false g19]; rfl)]
      refine K.region ?_
      refine KO.q rfl (q_move rfl) ?_
      refine KO.q rfl (q_move rfl) ?_
      refine KO.q rfl (q_move rfl) ?_
      refine KO.q rfl (q_ix (xs := l) i se_50 rfl rfl rfl isO (by repeat (first | exact List.Mem.head _ | apply List.Mem.tail)) rfl (by omega)) ?_
      refine KO.q rfl (q_ldEN (xs := l) (enc := One.lineC) ck_60 rfl isO (by repeat (first | exact List.Mem.head _ | apply List.Mem.tail)) he) ?_
      refine KO.loud rfl (l_slice1 sz_50_1 rfl rfl ⟨rfl, rfl, rfl⟩) ?_
      rintro _ _ ⟨b25, rfl, rfl⟩
      refine KO.loud rfl (l_append Kd.oneW se_50 Try.underlying50 ⟨_, ze_60, rfl⟩ (by decide) rfl rfl (by repeat (first | exact Pick.here | apply Pick.there)) isP (by repeat (first | exact List.Mem.head _ | apply List.Mem.tail)) rfl rfl (by show (2 * (out.length + 1) + 768) * 24 ≤ _; omega)) ?_
      rintro _ _ ⟨pn, dn, rfl, rfl⟩
      refine KO.q rfl (q_assign rfl) ?_
      refine KO.done ?_
      refine K.inBlock ?_
      refine K.region ?_
      refine KO.q rfl (q_move rfl) ?_
      refine KO.q rfl (q_add rfl rfl (by first | omega | (simp; omega)) (by first | omega | (simp; omega))) ?_
      refine KO.q rfl (q_assign rfl) ?_
      refine KO.done ?_
      exact K.weak (E' := [(6, .int .i64 ((i + 1 : Nat) : Int)), (5, .slice pn ((l.take (i + 1)).filter (fun x => !decide (x.who = who))).length dn), (0, .slice q l.length cap), (1, .int .i64 who)]) (by rw [hz]; exact (by repeat (first | exact Env.sub_nil _ | refine Env.sub_cons rfl ?_))) (fun w h => by rw [hz]; exact h.fitD) (ih ⟨(i + 1, pn, dn), by show i + 1 ≤ _; omega⟩ (by show l.length - (i + 1) < l.length - i; omega))
    · have hz : (l.take (i + 1)).filter (fun x => !decide (x.who = who)) = out := by rw [hm, if_neg (by rw [decide_eq_true (by omega)]; decide), List.append_nil]
      refine K.skip <| K.inBlock ?_
      refine K.region ?_
      refine KO.q rfl (q_move rfl) ?_
      refine KO.q rfl (q_add rfl rfl (by first | omega | (simp; omega)) (by first | omega | (simp; omega))) ?_
      refine KO.q rfl (q_assign rfl) ?_
      refine KO.done ?_
      exact K.weak (E' := [(6, .int .i64 ((i + 1 : Nat) : Int)), (5, .slice po ((l.take (i + 1)).filter (fun x => !decide (x.who = who))).length co), (0, .slice q l.length cap), (1, .int .i64 who)]) (by rw [hz]; exact (by repeat (first | exact Env.sub_nil _ | refine Env.sub_cons rfl ?_))) (fun w h => by rw [hz]; exact h.fitD) (ih ⟨(i + 1, po, co), by show i + 1 ≤ _; omega⟩ (by show l.length - (i + 1) < l.length - i; omega))
  · obtain rfl : i = l.length := by omega
    rw [List.take_length] at hout
    refine K.exit rfl ?_
    refine K.seq ?_
    refine K.region ?_
    refine KO.q rfl (q_move rfl) ?_
    refine KO.q rfl (q_assign rfl) ?_
    refine KO.done ?_
    refine K.ret (fn := Try.f67) Try.func67 (fun a w hk hs => res1 Try.results67 hk rfl) (fun w hs => ?_)
    exact ⟨_, [RowO Kd.oneW 60 po co out, RowO Kd.oneW 60 q cap l], rfl, ⟨po, co, by rw [hout], by rw [hout]⟩, hs.fitD⟩
set_option maxHeartbeats 3200000 in
theorem rf_Drop (b : Nat) (q1 : Option Addr) (c1 : Nat) (q2 : Option Addr) (c2 : Nat) (k : Lk) (who : Int) (hl : k.hold.length + k.line.length ≤ 1000000000) : Fn Try.prog 31 [.pointer (some ⟨b, 0, none⟩), .int .i64 who].toArray (RkL b q1 c1 q2 c2 k) (fun r post => ∃ q1' c1' q2' c2' po co, r = .slice po (k.drop who).1.length co ∧ post = RowO (Kd.int .i64) 3 po co (k.drop who).1 :: RkL b q1' c1' q2' c2' (k.drop who).2) := by
  refine Fn.enter (N := 103) Try.func31 rfl Try.ntmps31 (by kernel_rfl) rfl (fun ρ L => ?_)
  refine K.seq ?_
  have hw : (k.without who).hold.length + (k.without who).line.length ≤ 1000000000 ∧ ([] : List Int).length + (k.without who).line.length ≤ 1000000000 := by
    have h1 : (k.without who).hold.length ≤ k.hold.length := List.length_filter_le _ _
    have h2 : (k.without who).line.length ≤ k.line.length := List.length_filter_le _ _
    exact ⟨by omega, by simp only [List.length_nil]; omega⟩
  refine K.region ?_
  refine KO.q rfl (q_assign rfl) ?_
  refine KO.done ?_
  refine K.seq ?_
  refine K.region ?_
  refine KO.q rfl (q_move rfl) ?_
  refine KO.q rfl (q_move rfl) ?_
  refine KO.q rfl (q_nilCheck rfl) ?_
  refine KO.q rfl (q_field fo_52_0 rfl) ?_
  refine KO.q rfl (q_load1D ck_50 rfl) ?_
  refine KO.q rfl (q_move rfl) ?_
  refine KO.loud rfl (OpL.callD rfl (h := rf_withoutH q1 c1 k.hold who (by omega))) ?_
  rintro _ _ ⟨_, ⟨qh, ch, rfl, rfl⟩, rfl⟩
  refine KO.q rfl (q_nilCheck rfl) ?_
  refine KO.q rfl (q_field fo_52_0 rfl) ?_
  refine KO.loudN rfl (l_store1 ck_50 rfl rfl rfl (by repeat (first | exact Pick.here | apply Pick.there)) (by repeat (first | exact SetAt.here | apply SetAt.there))) ?_
  rintro _ _ ⟨rfl, rfl⟩
  refine KO.done ?_
  refine K.seq ?_
  refine K.region ?_
  refine KO.q rfl (q_move rfl) ?_
  refine KO.q rfl (q_move rfl) ?_
  refine KO.q rfl (q_nilCheck rfl) ?_
  refine KO.q rfl (q_field fo_52_1 rfl) ?_
  refine KO.q rfl (q_load1D ck_50 rfl) ?_
  refine KO.q rfl (q_move rfl) ?_
  refine KO.loud rfl (OpL.callD rfl (h := rf_withoutW q2 c2 k.line who (by omega))) ?_
  rintro _ _ ⟨_, ⟨qw, cw, rfl, rfl⟩, rfl⟩
  refine KO.q rfl (q_nilCheck rfl) ?_
  refine KO.q rfl (q_field fo_52_1 rfl) ?_
  refine KO.loudN rfl (l_store1 ck_50 rfl rfl rfl (by repeat (first | exact Pick.here | apply Pick.there)) (by repeat (first | exact SetAt.here | apply SetAt.there))) ?_
  rintro _ _ ⟨rfl, rfl⟩
  refine KO.done ?_
  refine K.seq ?_
  refine K.region ?_
  refine KO.q rfl (q_assign rfl) ?_
  refine KO.done ?_
  refine K.seq <| K.block ?_
  refine K.rounds2 (ι := { s : DropS // k.drop who = (s.out ++ s.k.pump.1, s.k.pump.2) ∧ s.k.hold.length + s.k.line.length ≤ 1000000000 ∧ s.out.length + s.k.line.length ≤ 1000000000 }) (fun s => [(5, .slice s.1.po s.1.out.length s.1.co), (0, .pointer (some ⟨b, 0, none⟩))]) (fun s => RowO (Kd.int .i64) 3 s.1.po s.1.co s.1.out :: RkL b s.1.q1 s.1.c1 s.1.q2 s.1.c2 s.1.k ++ L) (fun s => s.1.k.line.length) ⟨⟨k.without who, [], qh, ch, qw, cw, none, 0⟩, rfl, hw.1, hw.2⟩ (by repeat (first | exact Env.sub_nil _ | refine Env.sub_cons rfl ?_)) (fun w h => rowO_nil (k := Kd.int .i64) 3 (h.fit (M := RkL b qh ch qw cw (k.without who)) (by repeat (first | exact Give.nil | (apply Give.perI; (repeat (first | exact List.Mem.head _ | apply List.Mem.tail))) | (apply Give.own; (repeat (first | exact Pick.here | apply Pick.there))))) (by repeat (first | exact Drop.refl | apply Drop.skip)))) (fun s ih => ?_)
  obtain ⟨⟨⟨H0, l0⟩, out, q1, c1, q2, c2, po, co⟩, hd, hn, hn2⟩ := s
  dsimp only at hd hn hn2 ⊢
  refine K.fact (fun w h => rowO_cap (e := 60) (k := Kd.oneW) (p := q2) (cap := c2) (xs := l0) (by repeat (first | exact List.Mem.head _ | apply List.Mem.tail)) w h) (fun hc2 => ?_)
  refine K.seq <| K.seq ?_
  refine K.drawS [pv b 52 [.slice q1 H0.length c1, .slice q2 l0.length c2], RowO Kd.oneW 60 q2 c2 l0] (fun _ h => h.subD) mixed ?_
  refine D.q 0 rfl (by kernel_rfl) (by kernel_rfl) (q_move rfl) (fun _ h => h.subD) ?_
  refine D.q 1 rfl (by kernel_rfl) (by kernel_rfl) (q_nilCheck rfl) (fun _ h => h.subD) ?_
  refine D.q 2 rfl (by kernel_rfl) (by kernel_rfl) (q_field fo_52_1 rfl) (fun _ h => h.subD) ?_
  refine D.q 3 rfl (by kernel_rfl) (by kernel_rfl) (q_load1D ck_50 rfl) (fun _ h => h.subD) ?_
  refine D.q 4 rfl (by kernel_rfl) (by kernel_rfl) (q_len Try.underlying50 rfl) (fun _ h => h.subD) ?_
  refine D.q 5 rfl (by kernel_rfl) (by kernel_rfl) (q_gt rfl rfl) (fun _ h => h.subD) ?_
  refine D.q 6 rfl (by kernel_rfl) (by kernel_rfl) (q_move rfl) (fun _ h => h.subD) ?_
  refine D.dsplit 32 rfl (fun g32 => ?_) (fun g32 => ?_)
  · rcases l0 with _ | ⟨x, l⟩
    · exact absurd g32 (by simp)
    simp only [List.length_cons] at hn hn2 hc2
    refine D.q 7 rfl (by kernel_rfl) (by kernel_rfl) (q_move rfl) (fun _ h => h.subD) ?_
    refine D.q 8 rfl (by kernel_rfl) (by kernel_rfl) (q_move rfl) (fun _ h => h.subD) ?_
    refine D.q 9 rfl (by kernel_rfl) (by kernel_rfl) (q_nilCheck rfl) (fun _ h => h.subD) ?_
    refine D.q 10 rfl (by kernel_rfl) (by kernel_rfl) (q_field fo_52_1 rfl) (fun _ h => h.subD) ?_
    refine D.q 11 rfl (by kernel_rfl) (by kernel_rfl) (q_load1D ck_50 rfl) (fun _ h => h.subD) ?_
    refine D.q 12 rfl (by kernel_rfl) (by kernel_rfl) (q_ix (xs := x :: l) 0 se_50 rfl rfl rfl isO (by repeat (first | exact List.Mem.head _ | apply List.Mem.tail)) rfl (Nat.succ_pos _)) (fun _ h => h.subD) ?_
    refine D.q 13 rfl (by kernel_rfl) (by kernel_rfl) (q_fieldE fo_60_0 rfl) (fun _ h => h.subD) ?_
    refine D.q 14 rfl (by kernel_rfl) (by kernel_rfl) (q_ldE (el := x) (enc := One.lineC) ck_3 rfl isO (by repeat (first | exact List.Mem.head _ | apply List.Mem.tail)) rfl rfl) (fun _ h => h.subD) ?_
    refine D.q 15 rfl (by kernel_rfl) (by kernel_rfl) (q_move rfl) (fun _ h => h.subD) ?_
    refine D.q 16 rfl (by kernel_rfl) (by kernel_rfl) (q_nilCheck rfl) (fun _ h => h.subD) ?_
    refine D.q 17 rfl (by kernel_rfl) (by kernel_rfl) (q_field fo_52_1 rfl) (fun _ h => h.subD) ?_
    refine D.q 18 rfl (by kernel_rfl) (by kernel_rfl) (q_load1D ck_50 rfl) (fun _ h => h.subD) ?_
    refine D.q 19 rfl (by kernel_rfl) (by kernel_rfl) (q_ix (xs := x :: l) 0 se_50 rfl rfl rfl isO (by repeat (first | exact List.Mem.head _ | apply List.Mem.tail)) rfl (Nat.succ_pos _)) (fun _ h => h.subD) ?_
    refine D.q 20 rfl (by kernel_rfl) (by kernel_rfl) (q_fieldE fo_60_2 rfl) (fun _ h => h.subD) ?_
    refine D.q 21 rfl (by kernel_rfl) (by kernel_rfl) (q_ldE (el := x) (enc := One.lineC) ck_3 rfl isO (by repeat (first | exact List.Mem.head _ | apply List.Mem.tail)) rfl rfl) (fun _ h => h.subD) ?_
    refine D.all (rs := [22]) (by kernel_rfl) rfl (DAll.cons rfl (by kernel_rfl) (OpL.callD rfl (h := rf_fits b q1 c1 q2 c2 ⟨H0, x :: l⟩ x (by show H0.length ≤ _; omega))) (.inr (by rintro _ _ ⟨_, ⟨rfl, rfl⟩, rfl⟩ w h; exact h.subD)) rfl ?_ DAll.nil)
    rintro _ _ ⟨_, ⟨rfl, rfl⟩, rfl⟩
    refine D.q 23 rfl (by kernel_rfl) (by kernel_rfl) (q_pickT rfl rfl) (fun _ h => h.subD) ?_
    refine D.done (by kernel_rfl) ?_
    refine K.bcond (s := 49) rfl (fun g49 => ?_) (fun g49 => ?_)
    · refine K.skip <| K.block <| K.seq ?_
      refine K.region ?_
      refine KO.q rfl (q_move rfl) ?_
      refine KO.q rfl (q_nilCheck rfl) ?_
      refine KO.q rfl (q_field fo_52_1 rfl) ?_
      refine KO.q rfl (q_load1D ck_50 rfl) ?_
      refine KO.q rfl (q_ix (xs := x :: l) 0 se_50 rfl rfl rfl isO (by repeat (first | exact List.Mem.head _ | apply List.Mem.tail)) rfl (Nat.succ_pos _)) ?_
      refine KO.q rfl (q_ldEN (el := x) (enc := One.lineC) ck_60 rfl isO (by repeat (first | exact List.Mem.head _ | apply List.Mem.tail)) rfl) ?_
      refine KO.loud rfl (l_alloc zo_60) ?_
      rintro _ _ ⟨b6, rfl, rfl⟩
      refine KO.loudN rfl (l_storeAll ck_60 rfl rfl ⟨rfl, rfl⟩ (lineC_one _) (by repeat (first | exact Pick.here | apply Pick.there))) ?_
      rintro _ _ ⟨rfl, rfl⟩
      refine KO.done ?_
      refine K.seq ?_
      refine K.region ?_
      refine KO.q rfl (q_move rfl) ?_
      refine KO.q rfl (q_move rfl) ?_
      refine KO.q rfl (q_nilCheck rfl) ?_
      refine KO.q rfl (q_field fo_52_1 rfl) ?_
      refine KO.q rfl (q_load1D ck_50 rfl) ?_
      refine KO.q rfl (q_cutL se_50 rfl rfl (by first | omega | (simp; omega)) (by first | omega | (simp; omega)) (by first | omega | (simp; omega))) ?_
      refine KO.st (fun w h => rowO_nil (k := Kd.oneW) 60 h) ?_
      refine KO.loud rfl (l_append Kd.oneW (ys := l) se_50 Try.underlying50 ⟨_, ze_60, rfl⟩ (by decide) rfl rfl (by repeat (first | exact Pick.here | apply Pick.there)) (isO_cut (xs := x :: l) 1) (by repeat (first | exact List.Mem.head _ | apply List.Mem.tail)) rfl (by show l.length + 1 - 1 = l.length; omega) (by show (2 * (0 + l.length) + 768) * 24 ≤ _; omega)) ?_
      rintro _ _ ⟨pl, cl, rfl, rfl⟩
      rw [List.nil_append]
      refine KO.q rfl (q_nilCheck rfl) ?_
      refine KO.q rfl (q_field fo_52_1 rfl) ?_
      refine KO.loudN rfl (l_store1 ck_50 rfl rfl rfl (by repeat (first | exact Pick.here | apply Pick.there)) (by repeat (first | exact SetAt.here | apply SetAt.there))) ?_
      rintro _ _ ⟨rfl, rfl⟩
      refine KO.done ?_
      refine K.seq ?_
      refine K.drawS [pv b 52 [.slice q1 H0.length c1, .slice pl l.length cl], pv b6 60 x.lineC] (fun _ h => h.subD) mixed ?_
      refine D.q 0 rfl (by kernel_rfl) (by kernel_rfl) (q_move rfl) (fun _ h => h.subD) ?_
      refine D.q 1 rfl (by kernel_rfl) (by kernel_rfl) (q_nilCheck rfl) (fun _ h => h.subD) ?_
      refine D.q 2 rfl (by kernel_rfl) (by kernel_rfl) (q_field fo_52_0 rfl) (fun _ h => h.subD) ?_
      refine D.q 3 rfl (by kernel_rfl) (by kernel_rfl) (q_load1D ck_50 rfl) (fun _ h => h.subD) ?_
      refine D.q 4 rfl (by kernel_rfl) (by kernel_rfl) (q_field fo_60_0 rfl) (fun _ h => h.subD) ?_
      refine D.q 5 rfl (by kernel_rfl) (by kernel_rfl) (q_load1D ck_3 rfl) (fun _ h => h.subD) ?_
      refine D.all (rs := [6]) (by kernel_rfl) rfl (DAll.cons rfl (by kernel_rfl) (OpL.callD rfl (h := rf_findH 60 q1 c1 H0 x.who (by omega))) (.inr (by rintro _ _ ⟨_, ⟨rfl, rfl⟩, rfl⟩ w h; exact h.subD)) rfl ?_ DAll.nil)
      rintro _ _ ⟨_, ⟨rfl, rfl⟩, rfl⟩
      refine D.q 7 rfl (by kernel_rfl) (by kernel_rfl) (q_assign rfl) (fun _ h => h.subD) ?_
      refine D.done (by kernel_rfl) ?_
      refine K.seq <| K.seq ?_
      refine K.region ?_
      refine KO.q rfl (q_move rfl) ?_
      refine KO.q rfl (q_ge rfl rfl) ?_
      refine KO.done ?_
      refine K.dcond (s := 73) rfl (fun g73 => ?_) (fun g73 => ?_)
      · obtain ⟨i, el, he, hi, hw⟩ := at1_some g73
        have hil := (List.getElem?_eq_some_iff.1 he).1
        have hH : ((Lk.mk H0 (x :: l)).grant x).hold = H0.set i x := by unfold Lk.grant; rw [if_pos g73]; show H0.set (at1 H0 x.who).toNat x = _; rw [hi, Int.toNat_natCast]
        have hsl : (H0.set i x).length = H0.length := List.length_set
        refine K.drawS [pv b 52 [.slice q1 H0.length c1, .slice pl l.length cl], pv b6 60 x.lineC] (fun _ h => h.subD) mixed ?_
        refine D.q 0 rfl (by kernel_rfl) (by kernel_rfl) (q_move rfl) (fun _ h => h.subD) ?_
        refine D.q 1 rfl (by kernel_rfl) (by kernel_rfl) (q_nilCheck rfl) (fun _ h => h.subD) ?_
        refine D.q 2 rfl (by kernel_rfl) (by kernel_rfl) (q_field fo_52_0 rfl) (fun _ h => h.subD) ?_
        refine D.q 3 rfl (by kernel_rfl) (by kernel_rfl) (q_load1D ck_50 rfl) (fun _ h => h.subD) ?_
        refine D.q 4 rfl (by kernel_rfl) (by kernel_rfl) (q_move rfl) (fun _ h => h.subD) ?_
        refine D.q 5 rfl (by kernel_rfl) (by kernel_rfl) (q_field fo_60_2 rfl) (fun _ h => h.subD) ?_
        refine D.q 6 rfl (by kernel_rfl) (by kernel_rfl) (q_load1D ck_3 rfl) (fun _ h => h.subD) ?_
        refine D.all (rs := [7]) (by kernel_rfl) rfl (DAll.cons rfl (by kernel_rfl) (OpQ.loud (q_ix i se_50 rfl rfl hi isO (by repeat (first | exact List.Mem.head _ | apply List.Mem.tail)) rfl hil)) (.inl (by kernel_rfl)) rfl ?_ DAll.nil)
        rintro _ _ ⟨rfl, rfl⟩
        refine D.all (rs := [8]) (by kernel_rfl) rfl (DAll.cons rfl (by kernel_rfl) (OpQ.loud (q_fieldE fo_60_1 rfl)) (.inl (by kernel_rfl)) rfl ?_ DAll.nil)
        rintro _ _ ⟨rfl, rfl⟩
        refine D.all (rs := [9]) (by kernel_rfl) rfl (DAll.consN rfl (by kernel_rfl) (l_storeE (el := el) x ck_3 rfl rfl rfl (by repeat (first | exact Pick.here | apply Pick.there)) he (by decide) (by show [Value.int .i64 el.who, Value.int .i64 _, Value.int .i64 0] = [Value.int .i64 x.who, Value.int .i64 _, Value.int .i64 0]; rw [hw])) (.inl (by kernel_rfl)) rfl ?_ DAll.nil)
        rintro _ _ ⟨rfl, rfl⟩
        refine D.done (by kernel_rfl) ?_
        refine K.region ?_
        refine KO.q rfl (q_move rfl) ?_
        refine KO.q rfl (q_field fo_60_0 rfl) ?_
        refine KO.q rfl (q_load1D ck_3 rfl) ?_
        refine KO.loud rfl (l_slice sz_36_1 rfl (by repeat (first | exact Fill.nil | (apply Fill.cons; rfl; rfl; rfl) | exact SetN.nil | apply SetN.cons | exact SetAt.here | apply SetAt.there))) ?_
        rintro _ _ ⟨b100, rfl, rfl⟩
        refine KO.loud rfl (l_append (Kd.int .i64) (ys := [x.who]) se_36 Try.underlying36 ⟨_, ze_3, rfl⟩ (by decide) rfl rfl (by repeat (first | exact Pick.here | apply Pick.there)) isP (by repeat (first | exact List.Mem.head _ | apply List.Mem.tail)) rfl rfl (by show (2 * (out.length + 1) + 768) * 8 ≤ _; omega)) ?_
        rintro _ _ ⟨pn, dn, rfl, rfl⟩
        refine KO.q rfl (q_assign rfl) ?_
        refine KO.done ?_
        refine K.inBlock ?_
        exact K.weak (by repeat (first | exact Env.sub_nil _ | refine Env.sub_cons rfl ?_)) (fun w h => by dsimp only [RkL]; rw [hsl]; exact h.fitD) (ih ⟨⟨⟨H0.set i x, l⟩, out ++ [x.who], q1, c1, pl, cl, pn, dn⟩, by
          show k.drop who = _
          have hp := pump_go (k := ⟨H0, x :: l⟩) rfl g49
          rw [hH] at hp
          rw [hd, hp, List.append_assoc]
          rfl, by
          show (H0.set i x).length + l.length ≤ _
          omega, by show (out ++ [x.who]).length + l.length ≤ _; rw [List.length_append]; show out.length + 1 + l.length ≤ _; omega⟩ (Nat.lt_succ_self _))
      · have hH : ((Lk.mk H0 (x :: l)).grant x).hold = H0 ++ [x] := by unfold Lk.grant; rw [if_neg g73]
        refine K.drawS [pv b 52 [.slice q1 H0.length c1, .slice pl l.length cl], pv b6 60 x.lineC] (fun _ h => h.subD) mixed ?_
        refine D.q 0 rfl (by kernel_rfl) (by kernel_rfl) (q_move rfl) (fun _ h => h.subD) ?_
        refine D.q 1 rfl (by kernel_rfl) (by kernel_rfl) (q_move rfl) (fun _ h => h.subD) ?_
        refine D.q 2 rfl (by kernel_rfl) (by kernel_rfl) (q_nilCheck rfl) (fun _ h => h.subD) ?_
        refine D.q 3 rfl (by kernel_rfl) (by kernel_rfl) (q_field fo_52_0 rfl) (fun _ h => h.subD) ?_
        refine D.q 4 rfl (by kernel_rfl) (by kernel_rfl) (q_load1D ck_50 rfl) (fun _ h => h.subD) ?_
        refine D.q 5 rfl (by kernel_rfl) (by kernel_rfl) (q_field fo_60_0 rfl) (fun _ h => h.subD) ?_
        refine D.q 6 rfl (by kernel_rfl) (by kernel_rfl) (q_load1D ck_3 rfl) (fun _ h => h.subD) ?_
        refine D.q 7 rfl (by kernel_rfl) (by kernel_rfl) (q_field fo_60_2 rfl) (fun _ h => h.subD) ?_
        refine D.q 8 rfl (by kernel_rfl) (by kernel_rfl) (q_load1D ck_3 rfl) (fun _ h => h.subD) ?_
        refine D.q 9 rfl (by kernel_rfl) (by kernel_rfl) (q_as (q_build st_60 rfl (by repeat (first | exact Fill.nil | (apply Fill.cons; rfl; rfl; rfl) | exact SetN.nil | apply SetN.cons | exact SetAt.here | apply SetAt.there))) (show _ = One.heldC x from rfl)) (fun _ h => h.subD) ?_
        refine D.all (rs := [10]) (by kernel_rfl) rfl (DAll.cons rfl (by kernel_rfl) (l_slice1 sz_50_1 rfl rfl ⟨rfl, rfl, rfl⟩) (.inr (by rintro _ _ ⟨b93, rfl, rfl⟩ w h; exact h.subD)) rfl ?_ DAll.nil)
        rintro _ _ ⟨b93, rfl, rfl⟩
        refine D.all (rs := [11]) (by kernel_rfl) rfl (DAll.cons rfl (by kernel_rfl) (l_append Kd.oneH se_50 Try.underlying50 ⟨_, ze_60, rfl⟩ (by decide) rfl rfl (by repeat (first | exact Pick.here | apply Pick.there)) isP (by repeat (first | exact List.Mem.head _ | apply List.Mem.tail)) rfl rfl (by show (2 * (H0.length + 1) + 768) * 24 ≤ _; omega)) (.inr (by rintro _ _ ⟨ph, dh, rfl, rfl⟩ w h; exact h.subD)) rfl ?_ DAll.nil)
        rintro _ _ ⟨ph, dh, rfl, rfl⟩
        refine D.all (rs := [12]) (by kernel_rfl) rfl (DAll.cons rfl (by kernel_rfl) (OpQ.loud (q_nilCheck rfl)) (.inl (by kernel_rfl)) rfl ?_ DAll.nil)
        rintro _ _ ⟨rfl, rfl⟩
        refine D.all (rs := [13]) (by kernel_rfl) rfl (DAll.cons rfl (by kernel_rfl) (OpQ.loud (q_field fo_52_0 rfl)) (.inl (by kernel_rfl)) rfl ?_ DAll.nil)
        rintro _ _ ⟨rfl, rfl⟩
        refine D.all (rs := [14]) (by kernel_rfl) rfl (DAll.consN rfl (by kernel_rfl) (l_store1 ck_50 rfl rfl rfl (by repeat (first | exact Pick.here | apply Pick.there)) (by repeat (first | exact SetAt.here | apply SetAt.there))) (.inl (by kernel_rfl)) rfl ?_ DAll.nil)
        rintro _ _ ⟨rfl, rfl⟩
        refine D.done (by kernel_rfl) ?_
        refine K.region ?_
        refine KO.q rfl (q_move rfl) ?_
        refine KO.q rfl (q_field fo_60_0 rfl) ?_
        refine KO.q rfl (q_load1D ck_3 rfl) ?_
        refine KO.loud rfl (l_slice sz_36_1 rfl (by repeat (first | exact Fill.nil | (apply Fill.cons; rfl; rfl; rfl) | exact SetN.nil | apply SetN.cons | exact SetAt.here | apply SetAt.there))) ?_
        rintro _ _ ⟨b100, rfl, rfl⟩
        refine KO.loud rfl (l_append (Kd.int .i64) (ys := [x.who]) se_36 Try.underlying36 ⟨_, ze_3, rfl⟩ (by decide) rfl rfl (by repeat (first | exact Pick.here | apply Pick.there)) isP (by repeat (first | exact List.Mem.head _ | apply List.Mem.tail)) rfl rfl (by show (2 * (out.length + 1) + 768) * 8 ≤ _; omega)) ?_
        rintro _ _ ⟨pn, dn, rfl, rfl⟩
        refine KO.q rfl (q_assign rfl) ?_
        refine KO.done ?_
        refine K.inBlock ?_
        exact K.weak (by repeat (first | exact Env.sub_nil _ | refine Env.sub_cons rfl ?_)) (fun w h => h.fitD) (ih ⟨⟨⟨H0 ++ [x], l⟩, out ++ [x.who], ph, dh, pl, cl, pn, dn⟩, by
          show k.drop who = _
          have hp := pump_go (k := ⟨H0, x :: l⟩) rfl g49
          rw [hH] at hp
          rw [hd, hp, List.append_assoc]
          rfl, by
          show (H0 ++ [x]).length + l.length ≤ _
          rw [List.length_append]
          show H0.length + 1 + l.length ≤ _
          omega, by show (out ++ [x.who]).length + l.length ≤ _; rw [List.length_append]; show out.length + 1 + l.length ≤ _; omega⟩ (Nat.lt_succ_self _))
    · refine K.exit rfl ?_
      refine K.seq ?_
      have hr : k.drop who = (out, ⟨H0, x :: l⟩) := by
        rw [hd, pump_stop (by intro y hy; cases hy; exact g49), List.append_nil]
      rw [hr]
      refine K.region ?_
      refine KO.q rfl (q_move rfl) ?_
      refine KO.q rfl (q_assign rfl) ?_
      refine KO.done ?_
      refine K.ret (fn := Try.f31) Try.func31 (fun a w hk hs => res1 Try.results31 hk rfl) (fun w hs => ?_)
      exact ⟨_, RowO (Kd.int .i64) 3 po co out :: RkL b q1 c1 q2 c2 ⟨H0, x :: l⟩, rfl, ⟨q1, c1, q2, c2, po, co, rfl, rfl⟩, hs.fitD⟩
  · rcases l0 with _ | ⟨x, l⟩
    rotate_left
    · exact absurd g32 (by simp only [List.length_cons]; omega)
    refine D.skip 7 rfl (by kernel_rfl) (by kernel_rfl) (fun _ h => h.subD) ?_
    refine D.skip 8 rfl (by kernel_rfl) (by kernel_rfl) (fun _ h => h.subD) ?_
    refine D.skip 9 rfl (by kernel_rfl) (by kernel_rfl) (fun _ h => h.subD) ?_
    refine D.skip 10 rfl (by kernel_rfl) (by kernel_rfl) (fun _ h => h.subD) ?_
    refine D.skip 11 rfl (by kernel_rfl) (by kernel_rfl) (fun _ h => h.subD) ?_
    refine D.skip 12 rfl (by kernel_rfl) (by kernel_rfl) (fun _ h => h.subD) ?_
    refine D.skip 13 rfl (by kernel_rfl) (by kernel_rfl) (fun _ h => h.subD) ?_
    refine D.skip 14 rfl (by kernel_rfl) (by kernel_rfl) (fun _ h => h.subD) ?_
    refine D.skip 15 rfl (by kernel_rfl) (by kernel_rfl) (fun _ h => h.subD) ?_
    refine D.skip 16 rfl (by kernel_rfl) (by kernel_rfl) (fun _ h => h.subD) ?_
    refine D.skip 17 rfl (by kernel_rfl) (by kernel_rfl) (fun _ h => h.subD) ?_
    refine D.skip 18 rfl (by kernel_rfl) (by kernel_rfl) (fun _ h => h.subD) ?_
    refine D.skip 19 rfl (by kernel_rfl) (by kernel_rfl) (fun _ h => h.subD) ?_
    refine D.skip 20 rfl (by kernel_rfl) (by kernel_rfl) (fun _ h => h.subD) ?_
    refine D.skip 21 rfl (by kernel_rfl) (by kernel_rfl) (fun _ h => h.subD) ?_
    refine D.skip 22 rfl (by kernel_rfl) (by kernel_rfl) (fun _ h => h.subD) ?_
    refine D.q 23 rfl (by kernel_rfl) (by kernel_rfl) (q_pickF rfl rfl) (fun _ h => h.subD) ?_
    refine D.done (by kernel_rfl) ?_
    refine K.no rfl ?_
    refine K.exit rfl ?_
    refine K.seq ?_
    have hr : k.drop who = (out, ⟨H0, []⟩) := by
      rw [hd, pump_stop (by intro y hy; cases hy), List.append_nil]
    rw [hr]
    refine K.region ?_
    refine KO.q rfl (q_move rfl) ?_
    refine KO.q rfl (q_assign rfl) ?_
    refine KO.done ?_
    refine K.ret (fn := Try.f31) Try.func31 (fun a w hk hs => res1 Try.results31 hk rfl) (fun w hs => ?_)
    exact ⟨_, RowO (Kd.int .i64) 3 po co out :: RkL b q1 c1 q2 c2 ⟨H0, []⟩, rfl, ⟨q1, c1, q2, c2, po, co, rfl, rfl⟩, hs.fitD⟩
end Go.Proofs.Ytfpkeanimkgpaaa.L
