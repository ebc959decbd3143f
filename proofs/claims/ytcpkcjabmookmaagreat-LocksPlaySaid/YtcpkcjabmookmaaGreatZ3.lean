/- Walks: the document's table of locks: freeing; rows of pairs compared. -/
import Derived.Test.YtcpkcjabmookmaaGreatZ2
namespace Go.Proofs.YtcpkcjabmookmaaGreat.L
open Go Go.Proofs
attribute [local irreducible] pv fv pt fz RowF RowO rowP old pure_ elA
set_option maxRecDepth 100000
set_option linter.unusedSimpArgs false
set_option linter.unusedVariables false

theorem rkX_fold {b : Nat} {q1 : Option Addr} {c1 : Nat} {q2 : Option Addr} {c2 : Nat} {k : Lk} {ρ : World} {L : List HP} {w : World} (h : St ρ (RkL b q1 c1 q2 c2 k ++ L) w) : St ρ (RkX b k :: L) w :=
  St.exI (f := fun a : Ad4 => RkL b a.1.1 a.1.2 a.2.1 a.2.2 k) ((q1, c1), (q2, c2)) h
theorem rkX_open {b : Nat} {k : Lk} {ρ : World} {L : List HP} {w : World} (h : St ρ (RkX b k :: L) w) : ∃ a : Ad4, St ρ (RkL b a.1.1 a.1.2 a.2.1 a.2.2 k ++ L) w := St.exO h
/-- A lock told by its rows put back, whatever it is now. -/
theorem tr_closeL {es : List E} {i : Nat} {nm' : Nm} {b : Nat} {k : Lk} {q1 : Option Addr} {c1 : Nat} {q2 : Option Addr} {c2 : Nat} {ρ : World} {L : List HP} {w : World} (hi : i < es.length) (h : St ρ (RkL b q1 c1 q2 c2 k ++ AllO RkE (es.eraseIdx i) :: L) w) : St ρ (AllO RkE (es.set i ⟨nm', some b, k⟩) :: L) w :=
  tr_close (e := ⟨nm', some b, k⟩) rfl hi (rkX_fold h)
def leftN (who : Int) (l : List E) : List E := (l.map (drE who)).filter (fun e => !noneK e.k)
theorem leftN_succ {who : Int} {es : List E} {i : Nat} {e e' : E} (h : es[i]? = some e) (hd : drE who e = e') : leftN who (es.take (i + 1)) = leftN who (es.take i) ++ if noneK e'.k = true then [] else [e'] := by
  unfold leftN
  rw [map_take_succ _ h, List.filter_append, hd]
  congr 1
  cases hk : noneK e'.k <;> simp [hk]
theorem leftN_len (who : Int) (es : List E) (i : Nat) : (leftN who (es.take i)).length ≤ es.length := by
  have h1 := List.length_filter_le (fun e : E => !noneK e.k) ((es.take i).map (drE who))
  rw [List.length_map, List.length_take] at h1
  unfold leftN
  omega
set_option maxHeartbeats 3200000 in
theorem tr_Free (t : Nat) (n : Int) (q : Option Addr) (c : Nat) (es : List E) (who : Int) (hz : ∀ e ∈ es, e.k.size ≤ 1000000) (hl : es.length ≤ 1000000) (hp : (es.flatMap (outE who)).length ≤ 1000000000) : Fn Tryz.prog 11 [.pointer (some ⟨t, 0, none⟩), .int .i64 who].toArray (TrE t q c es ++ [AllO RkE es]) (fun r post => ∃ po co es' q' c', r = .slice po (freeT (es.map E.abs) n who).1.length co ∧ es'.map E.abs = (freeT (es.map E.abs) n who).2.1 ∧ post = RowO (Kd.int .i64) 3 po co (freeT (es.map E.abs) n who).1 :: (TrE t q' c' es' ++ [AllO RkE es'])) := by
  refine Fn.enter (N := 74) Tryz.func11 rfl Tryz.ntmps11 (by kernel_rfl) rfl (fun ρ L => ?_)
  refine K.seq ?_
  refine K.region ?_
  refine KO.q rfl (q_assign rfl) ?_
  refine KO.done ?_
  refine K.seq ?_
  refine K.region ?_
  refine KO.q rfl (q_assign rfl) ?_
  refine KO.done ?_
  refine K.seq ?_
  refine K.region ?_
  refine KO.q rfl (q_assign rfl) ?_
  refine KO.done ?_
  refine K.seq <| K.seq ?_
  refine K.region ?_
  refine KO.q rfl (q_assign rfl) ?_
  refine KO.done ?_
  refine K.block ?_
  refine K.rounds2 (ι := { s : Nat × (Option Addr × Nat) × (Option Addr × Nat) // s.1 ≤ es.length }) (fun s => [(7, .int .i64 s.1.1), (5, .slice s.1.2.1.1 ((es.take s.1.1).flatMap (outE who)).length s.1.2.1.2), (6, .slice s.1.2.2.1 (leftN who (es.take s.1.1)).length s.1.2.2.2), (0, .pointer (some ⟨t, 0, none⟩)), (1, .int .i64 who)]) (fun s => [RowO (Kd.int .i64) 3 s.1.2.1.1 s.1.2.1.2 ((es.take s.1.1).flatMap (outE who)), RowO Kd.e 79 s.1.2.2.1 s.1.2.2.2 (leftN who (es.take s.1.1)), pv t 29 [.slice q es.length c], RowO Kd.e 79 q c es, AllO RkE (mixE who es s.1.1)] ++ L) (fun s => es.length - s.1.1) ⟨(0, (none, 0), (none, 0)), Nat.zero_le _⟩ (by repeat (first | exact Env.sub_nil _ | refine Env.sub_cons rfl ?_)) (fun w h => rowO_nil (k := Kd.int .i64) 3 (rowO_nil (k := Kd.e) 79 (h.fit (M := TrE t q c es ++ [AllO RkE es]) (by repeat (first | exact Give.nil | (apply Give.perI; (repeat (first | exact List.Mem.head _ | apply List.Mem.tail))) | (apply Give.own; (repeat (first | exact Pick.here | apply Pick.there))))) (by repeat (first | exact Drop.refl | apply Drop.skip))))) (fun s ih => ?_)
  obtain ⟨⟨i, ⟨po, co⟩, ⟨pl, cl⟩⟩, hi⟩ := s
  dsimp only at hi ⊢
  have hol := flatMap_take_le (outE who) es i
  have hll := leftN_len who es i
  obtain ⟨A, hA⟩ : ∃ A, A = (es.take i).flatMap (outE who) := ⟨_, rfl⟩
  obtain ⟨B, hB⟩ : ∃ B, B = leftN who (es.take i) := ⟨_, rfl⟩
  rw [← hA, ← hB]
  rw [← hA] at hol
  rw [← hB] at hll
  refine K.seq <| K.seq ?_
  refine K.region ?_
  refine KO.q rfl (q_move rfl) ?_
  refine KO.q rfl (q_move rfl) ?_
  refine KO.q rfl (q_nilCheck rfl) ?_
  refine KO.q rfl (q_field fo_29_0 rfl) ?_
  refine KO.q rfl (q_load1D ck_27 rfl) ?_
  refine KO.q rfl (q_len Tryz.underlying27 rfl) ?_
  refine KO.q rfl (q_lt rfl rfl) ?_
  refine KO.done ?_
  refine K.dcond (s := 15) rfl (fun g15 => ?_) (fun g15 => ?_)
  · obtain ⟨e, he⟩ : ∃ e, es[i]? = some e := ⟨_, List.getElem?_eq_getElem (by omega)⟩
    have hez := hz e (List.mem_of_getElem? he)
    have hme := mixE_at (who := who) he
    have hms := mixE_succ (who := who) he
    have hos := flatMap_take_succ (outE who) he
    have hls := fun e' h => leftN_succ (who := who) (e' := e') he h
    rw [← hA] at hos
    have hil := (List.getElem?_eq_some_iff.1 he).1
    have hml := mixE_len who es i
    have hol2 := flatMap_take_le (outE who) es (i + 1)
    refine K.skip <| K.seq <| K.block <| K.seq ?_
    refine K.region ?_
    refine KO.q rfl (q_move rfl) ?_
    refine KO.q rfl (q_nilCheck rfl) ?_
    refine KO.q rfl (q_field fo_29_0 rfl) ?_
    refine KO.q rfl (q_load1D ck_27 rfl) ?_
    refine KO.q rfl (q_move rfl) ?_
    refine KO.q rfl (q_ix (xs := es) i se_27 rfl rfl rfl isO (by repeat (first | exact List.Mem.head _ | apply List.Mem.tail)) rfl (by omega)) ?_
    refine KO.q rfl (q_fieldE fo_79_1 rfl) ?_
    refine KO.q rfl (q_ldE (xs := es) ck_77 rfl isO (by repeat (first | exact List.Mem.head _ | apply List.Mem.tail)) he rfl) ?_
    refine KO.q rfl (q_assign rfl) ?_
    refine KO.done ?_
    refine K.seq <| K.seq ?_
    refine K.ex (fun w h => tr_openL hme (h.pick (by repeat (first | exact Pick.here | apply Pick.there)))) (fun a => ?_)
    obtain ⟨⟨bb, hbb⟩, ⟨⟨q1, c1⟩, ⟨q2, c2⟩⟩⟩ := a
    obtain ⟨nm', pp, k⟩ := e
    have hbb : pp = some bb := hbb
    subst hbb
    have hez : k.size ≤ 1000000 := hez
    have hez2 : k.hold.length + k.line.length ≤ 1000000 := hez
    refine K.region ?_
    refine KO.q rfl (q_move rfl) ?_
    refine KO.q rfl (q_nilCheck rfl) ?_
    refine KO.q rfl (q_field fo_76_0 rfl) ?_
    refine KO.q rfl (q_load1D ck_74 rfl) ?_
    refine KO.q rfl (q_move rfl) ?_
    refine KO.loud rfl (OpL.callD rfl (h := rf_findH 59 q1 c1 k.hold who (by omega))) ?_
    rintro _ _ ⟨_, ⟨rfl, rfl⟩, rfl⟩
    refine KO.q rfl (q_ge rfl rfl) ?_
    refine KO.q rfl (q_move rfl) ?_
    refine KO.dsplit 33 rfl (fun g33 => ?_) (fun g33 => ?_)
    · have hmi : k.mine who = true := by rw [mineR, decide_eq_true (by omega)]; rfl
      have hd1 : drE who ⟨nm', some bb, k⟩ = ⟨nm', some bb, (k.drop who).2⟩ := if_pos hmi
      have ho1 : outE who ⟨nm', some bb, k⟩ = (k.drop who).1 := if_pos hmi
      rw [ho1] at hos
      rw [hd1] at hms
      have hls := hls _ hd1
      have hdo := k.drop_out who
      have hdz := k.drop_size who
      refine KO.skip rfl ?_
      refine KO.skip rfl ?_
      refine KO.skip rfl ?_
      refine KO.skip rfl ?_
      refine KO.skip rfl ?_
      refine KO.skip rfl ?_
      refine KO.skip rfl ?_
      refine KO.q rfl (q_pickT rfl rfl) ?_
      refine KO.done ?_
      refine K.yes rfl ?_
      refine K.st (fun w h => rkX_fold (h.fit (M := RkL bb q1 c1 q2 c2 k ++ [AllO RkE ((mixE who es i).eraseIdx i), RowO (Kd.int .i64) 3 po co A, RowO Kd.e 79 pl cl B, pv t 29 [.slice q es.length c], RowO Kd.e 79 q c es]) (by repeat (first | exact Give.nil | (apply Give.perI; (repeat (first | exact List.Mem.head _ | apply List.Mem.tail))) | (apply Give.own; (repeat (first | exact Pick.here | apply Pick.there))))) (by repeat (first | exact Drop.refl | apply Drop.skip)))) ?_
      refine K.region ?_
      refine KO.q rfl (q_move rfl) ?_
      refine KO.q rfl (q_move rfl) ?_
      refine KO.q rfl (q_move rfl) ?_
      refine KO.loud rfl (OpL.callD rfl (h := rf_DropX bb k who hez)) ?_
      rintro _ _ ⟨_, ⟨pd, cd, rfl, rfl⟩, rfl⟩
      refine KO.loud rfl (l_append (Kd.int .i64) (ys := (k.drop who).1) se_39 Tryz.underlying39 ⟨_, ze_3, rfl⟩ (by decide) rfl rfl (by repeat (first | exact Pick.here | apply Pick.there)) isO (by repeat (first | exact List.Mem.head _ | apply List.Mem.tail)) rfl rfl (by show (2 * (A.length + (k.drop who).1.length) + 768) * 8 ≤ _; omega)) ?_
      rintro _ _ ⟨pn, dn, rfl, rfl⟩
      refine KO.q rfl (q_assign rfl) ?_
      refine KO.done ?_
      refine K.seq ?_
      obtain ⟨k', hk'⟩ : ∃ k', k' = (k.drop who).2 := ⟨_, rfl⟩
      rw [← hk'] at hls hms hdz ⊢
      refine K.ex (fun w h => rkX_open (h.pick (by repeat (first | exact Pick.here | apply Pick.there)))) (fun a => ?_)
      obtain ⟨⟨r1, d1⟩, ⟨r2, d2⟩⟩ := a
      have hdz2 : k'.hold.length + k'.line.length ≤ k.size := hdz
      refine K.drawS [pv bb 76 [.slice r1 k'.hold.length d1, .slice r2 k'.line.length d2]] (fun _ h => h.subD) mixed ?_
      refine D.q 0 rfl (by kernel_rfl) (by kernel_rfl) (q_move rfl) (fun _ h => h.subD) ?_
      refine D.q 1 rfl (by kernel_rfl) (by kernel_rfl) (q_nilCheck rfl) (fun _ h => h.subD) ?_
      refine D.q 2 rfl (by kernel_rfl) (by kernel_rfl) (q_field fo_76_0 rfl) (fun _ h => h.subD) ?_
      refine D.q 3 rfl (by kernel_rfl) (by kernel_rfl) (q_load1D ck_74 rfl) (fun _ h => h.subD) ?_
      refine D.q 4 rfl (by kernel_rfl) (by kernel_rfl) (q_len Tryz.underlying74 rfl) (fun _ h => h.subD) ?_
      refine D.q 5 rfl (by kernel_rfl) (by kernel_rfl) (q_move rfl) (fun _ h => h.subD) ?_
      refine D.q 6 rfl (by kernel_rfl) (by kernel_rfl) (q_nilCheck rfl) (fun _ h => h.subD) ?_
      refine D.q 7 rfl (by kernel_rfl) (by kernel_rfl) (q_field fo_76_1 rfl) (fun _ h => h.subD) ?_
      refine D.q 8 rfl (by kernel_rfl) (by kernel_rfl) (q_load1D ck_74 rfl) (fun _ h => h.subD) ?_
      refine D.q 9 rfl (by kernel_rfl) (by kernel_rfl) (q_len Tryz.underlying74 rfl) (fun _ h => h.subD) ?_
      refine D.q 10 rfl (by kernel_rfl) (by kernel_rfl) (q_add rfl rfl (by first | omega | (simp; omega)) (by first | omega | (simp; omega))) (fun _ h => h.subD) ?_
      refine D.q 11 rfl (by kernel_rfl) (by kernel_rfl) (q_gt rfl rfl) (fun _ h => h.subD) ?_
      refine D.done (by kernel_rfl) ?_
      refine K.dcond (s := 58) rfl (fun g58 => ?_) (fun g58 => ?_)
      · have hls1 : leftN who (es.take (i + 1)) = B ++ [⟨nm', some bb, k'⟩] := by rw [hls, if_neg (by rw [noneR, decide_eq_true_iff]; show ¬ k'.hold.length + k'.line.length = 0; omega), ← hB]
        refine K.region ?_
        refine KO.q rfl (q_move rfl) ?_
        refine KO.q rfl (q_move rfl) ?_
        refine KO.q rfl (q_nilCheck rfl) ?_
        refine KO.q rfl (q_field fo_29_0 rfl) ?_
        refine KO.q rfl (q_load1D ck_27 rfl) ?_
        refine KO.q rfl (q_move rfl) ?_
        refine KO.q rfl (q_ix (xs := es) i se_27 rfl rfl rfl isO (by repeat (first | exact List.Mem.head _ | apply List.Mem.tail)) rfl (by omega)) ?_
        refine KO.q rfl (q_as (q_ldEN (xs := es) (enc := E.cells) ck_79 rfl isO (by repeat (first | exact List.Mem.head _ | apply List.Mem.tail)) he) (show _ = E.cells ⟨nm', some bb, k'⟩ from rfl)) ?_
        refine KO.loud rfl (l_slice1 sz_27_1 rfl rfl ⟨rfl, rfl, rfl⟩) ?_
        rintro _ _ ⟨b67, rfl, rfl⟩
        refine KO.loud rfl (l_append Kd.e (ys := [⟨nm', some bb, k'⟩]) se_27 Tryz.underlying27 ⟨_, ze_79, rfl⟩ (by decide) rfl rfl (by repeat (first | exact Pick.here | apply Pick.there)) isP (by repeat (first | exact List.Mem.head _ | apply List.Mem.tail)) rfl rfl (by show (2 * (B.length + 1) + 768) * 48 ≤ _; omega)) ?_
        rintro _ _ ⟨px, dx, rfl, rfl⟩
        refine KO.q rfl (q_assign rfl) ?_
        refine KO.done ?_
        refine K.inBlock ?_
        refine K.region ?_
        refine KO.q rfl (q_move rfl) ?_
        refine KO.q rfl (q_add rfl rfl (by first | omega | (simp; omega)) (by first | omega | (simp; omega))) ?_
        refine KO.q rfl (q_assign rfl) ?_
        refine KO.done ?_
        exact K.weak (E' := [(7, .int .i64 ((i + 1 : Nat) : Int)), (5, .slice pn ((es.take (i + 1)).flatMap (outE who)).length dn), (6, .slice px (leftN who (es.take (i + 1))).length dx), (0, .pointer (some ⟨t, 0, none⟩)), (1, .int .i64 who)]) (by rw [hos, hls1]; exact (by repeat (first | exact Env.sub_nil _ | refine Env.sub_cons rfl ?_))) (fun w h => by rw [hos, hls1, hms]; exact (tr_closeL (by omega) (h.fit (M := RkL bb r1 d1 r2 d2 k' ++ [AllO RkE ((mixE who es i).eraseIdx i), RowO (Kd.int .i64) 3 pn dn (A ++ (k.drop who).1), RowO Kd.e 79 px dx (B ++ [⟨nm', some bb, k'⟩]), pv t 29 [.slice q es.length c], RowO Kd.e 79 q c es]) (by repeat (first | exact Give.nil | (apply Give.perI; (repeat (first | exact List.Mem.head _ | apply List.Mem.tail))) | (apply Give.own; (repeat (first | exact Pick.here | apply Pick.there))))) (by repeat (first | exact Drop.refl | apply Drop.skip)))).fitD) (ih ⟨(i + 1, (pn, dn), (px, dx)), by show i + 1 ≤ _; omega⟩ (by show es.length - (i + 1) < es.length - i; omega))
      · have hls1 : leftN who (es.take (i + 1)) = B := by rw [hls, if_pos (by rw [noneR, decide_eq_true_iff]; show k'.hold.length + k'.line.length = 0; omega), ← hB, List.append_nil]
        refine K.skip <| K.inBlock ?_
        refine K.region ?_
        refine KO.q rfl (q_move rfl) ?_
        refine KO.q rfl (q_add rfl rfl (by first | omega | (simp; omega)) (by first | omega | (simp; omega))) ?_
        refine KO.q rfl (q_assign rfl) ?_
        refine KO.done ?_
        exact K.weak (E' := [(7, .int .i64 ((i + 1 : Nat) : Int)), (5, .slice pn ((es.take (i + 1)).flatMap (outE who)).length dn), (6, .slice pl (leftN who (es.take (i + 1))).length cl), (0, .pointer (some ⟨t, 0, none⟩)), (1, .int .i64 who)]) (by rw [hos, hls1]; exact (by repeat (first | exact Env.sub_nil _ | refine Env.sub_cons rfl ?_))) (fun w h => by rw [hos, hls1, hms]; exact (tr_closeL (by omega) (h.fit (M := RkL bb r1 d1 r2 d2 k' ++ [AllO RkE ((mixE who es i).eraseIdx i), RowO (Kd.int .i64) 3 pn dn (A ++ (k.drop who).1), RowO Kd.e 79 pl cl B, pv t 29 [.slice q es.length c], RowO Kd.e 79 q c es]) (by repeat (first | exact Give.nil | (apply Give.perI; (repeat (first | exact List.Mem.head _ | apply List.Mem.tail))) | (apply Give.own; (repeat (first | exact Pick.here | apply Pick.there))))) (by repeat (first | exact Drop.refl | apply Drop.skip)))).fitD) (ih ⟨(i + 1, (pn, dn), (pl, cl)), by show i + 1 ≤ _; omega⟩ (by show es.length - (i + 1) < es.length - i; omega))
    · refine KO.q rfl (q_move rfl) ?_
      refine KO.q rfl (q_nilCheck rfl) ?_
      refine KO.q rfl (q_field fo_76_1 rfl) ?_
      refine KO.q rfl (q_load1D ck_74 rfl) ?_
      refine KO.q rfl (q_move rfl) ?_
      refine KO.loud rfl (OpL.callD rfl (h := rf_findW 59 q2 c2 k.line who (by omega))) ?_
      rintro _ _ ⟨_, ⟨rfl, rfl⟩, rfl⟩
      refine KO.q rfl (q_ge rfl rfl) ?_
      refine KO.q rfl (q_pickF rfl rfl) ?_
      refine KO.done ?_
      refine K.dcond (s := 41) rfl (fun g41 => ?_) (fun g41 => ?_)
      · have hmi : k.mine who = true := by rw [mineR, decide_eq_true (p := 0 ≤ at1 k.line who) (by omega), Bool.or_true]
        have hd1 : drE who ⟨nm', some bb, k⟩ = ⟨nm', some bb, (k.drop who).2⟩ := if_pos hmi
        have ho1 : outE who ⟨nm', some bb, k⟩ = (k.drop who).1 := if_pos hmi
        rw [ho1] at hos
        rw [hd1] at hms
        have hls := hls _ hd1
        have hdo := k.drop_out who
        have hdz := k.drop_size who
        refine K.st (fun w h => rkX_fold (h.fit (M := RkL bb q1 c1 q2 c2 k ++ [AllO RkE ((mixE who es i).eraseIdx i), RowO (Kd.int .i64) 3 po co A, RowO Kd.e 79 pl cl B, pv t 29 [.slice q es.length c], RowO Kd.e 79 q c es]) (by repeat (first | exact Give.nil | (apply Give.perI; (repeat (first | exact List.Mem.head _ | apply List.Mem.tail))) | (apply Give.own; (repeat (first | exact Pick.here | apply Pick.there))))) (by repeat (first | exact Drop.refl | apply Drop.skip)))) ?_
        refine K.region ?_
        refine KO.q rfl (q_move rfl) ?_
        refine KO.q rfl (q_move rfl) ?_
        refine KO.q rfl (q_move rfl) ?_
        refine KO.loud rfl (OpL.callD rfl (h := rf_DropX bb k who hez)) ?_
        rintro _ _ ⟨_, ⟨pd, cd, rfl, rfl⟩, rfl⟩
        refine KO.loud rfl (l_append (Kd.int .i64) (ys := (k.drop who).1) se_39 Tryz.underlying39 ⟨_, ze_3, rfl⟩ (by decide) rfl rfl (by repeat (first | exact Pick.here | apply Pick.there)) isO (by repeat (first | exact List.Mem.head _ | apply List.Mem.tail)) rfl rfl (by show (2 * (A.length + (k.drop who).1.length) + 768) * 8 ≤ _; omega)) ?_
        rintro _ _ ⟨pn, dn, rfl, rfl⟩
        refine KO.q rfl (q_assign rfl) ?_
        refine KO.done ?_
        refine K.seq ?_
        obtain ⟨k', hk'⟩ : ∃ k', k' = (k.drop who).2 := ⟨_, rfl⟩
        rw [← hk'] at hls hms hdz ⊢
        refine K.ex (fun w h => rkX_open (h.pick (by repeat (first | exact Pick.here | apply Pick.there)))) (fun a => ?_)
        obtain ⟨⟨r1, d1⟩, ⟨r2, d2⟩⟩ := a
        have hdz2 : k'.hold.length + k'.line.length ≤ k.size := hdz
        refine K.drawS [pv bb 76 [.slice r1 k'.hold.length d1, .slice r2 k'.line.length d2]] (fun _ h => h.subD) mixed ?_
        refine D.q 0 rfl (by kernel_rfl) (by kernel_rfl) (q_move rfl) (fun _ h => h.subD) ?_
        refine D.q 1 rfl (by kernel_rfl) (by kernel_rfl) (q_nilCheck rfl) (fun _ h => h.subD) ?_
        refine D.q 2 rfl (by kernel_rfl) (by kernel_rfl) (q_field fo_76_0 rfl) (fun _ h => h.subD) ?_
        refine D.q 3 rfl (by kernel_rfl) (by kernel_rfl) (q_load1D ck_74 rfl) (fun _ h => h.subD) ?_
        refine D.q 4 rfl (by kernel_rfl) (by kernel_rfl) (q_len Tryz.underlying74 rfl) (fun _ h => h.subD) ?_
        refine D.q 5 rfl (by kernel_rfl) (by kernel_rfl) (q_move rfl) (fun _ h => h.subD) ?_
        refine D.q 6 rfl (by kernel_rfl) (by kernel_rfl) (q_nilCheck rfl) (fun _ h => h.subD) ?_
        refine D.q 7 rfl (by kernel_rfl) (by kernel_rfl) (q_field fo_76_1 rfl) (fun _ h => h.subD) ?_
        refine D.q 8 rfl (by kernel_rfl) (by kernel_rfl) (q_load1D ck_74 rfl) (fun _ h => h.subD) ?_
        refine D.q 9 rfl (by kernel_rfl) (by kernel_rfl) (q_len Tryz.underlying74 rfl) (fun _ h => h.subD) ?_
        refine D.q 10 rfl (by kernel_rfl) (by kernel_rfl) (q_add rfl rfl (by first | omega | (simp; omega)) (by first | omega | (simp; omega))) (fun _ h => h.subD) ?_
        refine D.q 11 rfl (by kernel_rfl) (by kernel_rfl) (q_gt rfl rfl) (fun _ h => h.subD) ?_
        refine D.done (by kernel_rfl) ?_
        refine K.dcond (s := 58) rfl (fun g58 => ?_) (fun g58 => ?_)
        · have hls1 : leftN who (es.take (i + 1)) = B ++ [⟨nm', some bb, k'⟩] := by rw [hls, if_neg (by rw [noneR, decide_eq_true_iff]; show ¬ k'.hold.length + k'.line.length = 0; omega), ← hB]
          refine K.region ?_
          refine KO.q rfl (q_move rfl) ?_
          refine KO.q rfl (q_move rfl) ?_
          refine KO.q rfl (q_nilCheck rfl) ?_
          refine KO.q rfl (q_field fo_29_0 rfl) ?_
          refine KO.q rfl (q_load1D ck_27 rfl) ?_
          refine KO.q rfl (q_move rfl) ?_
          refine KO.q rfl (q_ix (xs := es) i se_27 rfl rfl rfl isO (by repeat (first | exact List.Mem.head _ | apply List.Mem.tail)) rfl (by omega)) ?_
          refine KO.q rfl (q_as (q_ldEN (xs := es) (enc := E.cells) ck_79 rfl isO (by repeat (first | exact List.Mem.head _ | apply List.Mem.tail)) he) (show _ = E.cells ⟨nm', some bb, k'⟩ from rfl)) ?_
          refine KO.loud rfl (l_slice1 sz_27_1 rfl rfl ⟨rfl, rfl, rfl⟩) ?_
          rintro _ _ ⟨b67, rfl, rfl⟩
          refine KO.loud rfl (l_append Kd.e (ys := [⟨nm', some bb, k'⟩]) se_27 Tryz.underlying27 ⟨_, ze_79, rfl⟩ (by decide) rfl rfl (by repeat (first | exact Pick.here | apply Pick.there)) isP (by repeat (first | exact List.Mem.head _ | apply List.Mem.tail)) rfl rfl (by show (2 * (B.length + 1) + 768) * 48 ≤ _; omega)) ?_
          rintro _ _ ⟨px, dx, rfl, rfl⟩
          refine KO.q rfl (q_assign rfl) ?_
          refine KO.done ?_
          refine K.inBlock ?_
          refine K.region ?_
          refine KO.q rfl (q_move rfl) ?_
          refine KO.q rfl (q_add rfl rfl (by first | omega | (simp; omega)) (by first | omega | (simp; omega))) ?_
          refine KO.q rfl (q_assign rfl) ?_
          refine KO.done ?_
          exact K.weak (E' := [(7, .int .i64 ((i + 1 : Nat) : Int)), (5, .slice pn ((es.take (i + 1)).flatMap (outE who)).length dn), (6, .slice px (leftN who (es.take (i + 1))).length dx), (0, .pointer (some ⟨t, 0, none⟩)), (1, .int .i64 who)]) (by rw [hos, hls1]; exact (by repeat (first | exact Env.sub_nil _ | refine Env.sub_cons rfl ?_))) (fun w h => by rw [hos, hls1, hms]; exact (tr_closeL (by omega) (h.fit (M := RkL bb r1 d1 r2 d2 k' ++ [AllO RkE ((mixE who es i).eraseIdx i), RowO (Kd.int .i64) 3 pn dn (A ++ (k.drop who).1), RowO Kd.e 79 px dx (B ++ [⟨nm', some bb, k'⟩]), pv t 29 [.slice q es.length c], RowO Kd.e 79 q c es]) (by repeat (first | exact Give.nil | (apply Give.perI; (repeat (first | exact List.Mem.head _ | apply List.Mem.tail))) | (apply Give.own; (repeat (first | exact Pick.here | apply Pick.there))))) (by repeat (first | exact Drop.refl | apply Drop.skip)))).fitD) (ih ⟨(i + 1, (pn, dn), (px, dx)), by show i + 1 ≤ _; omega⟩ (by show es.length - (i + 1) < es.length - i; omega))
        · have hls1 : leftN who (es.take (i + 1)) = B := by rw [hls, if_pos (by rw [noneR, decide_eq_true_iff]; show k'.hold.length + k'.line.length = 0; omega), ← hB, List.append_nil]
          refine K.skip <| K.inBlock ?_
          refine K.region ?_
          refine KO.q rfl (q_move rfl) ?_
          refine KO.q rfl (q_add rfl rfl (by first | omega | (simp; omega)) (by first | omega | (simp; omega))) ?_
          refine KO.q rfl (q_assign rfl) ?_
          refine KO.done ?_
          exact K.weak (E' := [(7, .int .i64 ((i + 1 : Nat) : Int)), (5, .slice pn ((es.take (i + 1)).flatMap (outE who)).length dn), (6, .slice pl (leftN who (es.take (i + 1))).length cl), (0, .pointer (some ⟨t, 0, none⟩)), (1, .int .i64 who)]) (by rw [hos, hls1]; exact (by repeat (first | exact Env.sub_nil _ | refine Env.sub_cons rfl ?_))) (fun w h => by rw [hos, hls1, hms]; exact (tr_closeL (by omega) (h.fit (M := RkL bb r1 d1 r2 d2 k' ++ [AllO RkE ((mixE who es i).eraseIdx i), RowO (Kd.int .i64) 3 pn dn (A ++ (k.drop who).1), RowO Kd.e 79 pl cl B, pv t 29 [.slice q es.length c], RowO Kd.e 79 q c es]) (by repeat (first | exact Give.nil | (apply Give.perI; (repeat (first | exact List.Mem.head _ | apply List.Mem.tail))) | (apply Give.own; (repeat (first | exact Pick.here | apply Pick.there))))) (by repeat (first | exact Drop.refl | apply Drop.skip)))).fitD) (ih ⟨(i + 1, (pn, dn), (pl, cl)), by show i + 1 ≤ _; omega⟩ (by show es.length - (i + 1) < es.length - i; omega))
      · have hmi : ¬ k.mine who = true := by rw [mineR, decide_eq_false (by omega), decide_eq_false (by omega)]; decide
        have hd1 : drE who ⟨nm', some bb, k⟩ = ⟨nm', some bb, k⟩ := if_neg hmi
        have ho1 : outE who ⟨nm', some bb, k⟩ = [] := if_neg hmi
        rw [ho1, List.append_nil] at hos
        rw [hd1] at hms
        have hls := hls _ hd1
        refine K.skip <| K.seq ?_
        refine K.drawS [pv bb 76 [.slice q1 k.hold.length c1, .slice q2 k.line.length c2]] (fun _ h => h.subD) mixed ?_
        refine D.q 0 rfl (by kernel_rfl) (by kernel_rfl) (q_move rfl) (fun _ h => h.subD) ?_
        refine D.q 1 rfl (by kernel_rfl) (by kernel_rfl) (q_nilCheck rfl) (fun _ h => h.subD) ?_
        refine D.q 2 rfl (by kernel_rfl) (by kernel_rfl) (q_field fo_76_0 rfl) (fun _ h => h.subD) ?_
        refine D.q 3 rfl (by kernel_rfl) (by kernel_rfl) (q_load1D ck_74 rfl) (fun _ h => h.subD) ?_
        refine D.q 4 rfl (by kernel_rfl) (by kernel_rfl) (q_len Tryz.underlying74 rfl) (fun _ h => h.subD) ?_
        refine D.q 5 rfl (by kernel_rfl) (by kernel_rfl) (q_move rfl) (fun _ h => h.subD) ?_
        refine D.q 6 rfl (by kernel_rfl) (by kernel_rfl) (q_nilCheck rfl) (fun _ h => h.subD) ?_
        refine D.q 7 rfl (by kernel_rfl) (by kernel_rfl) (q_field fo_76_1 rfl) (fun _ h => h.subD) ?_
        refine D.q 8 rfl (by kernel_rfl) (by kernel_rfl) (q_load1D ck_74 rfl) (fun _ h => h.subD) ?_
        refine D.q 9 rfl (by kernel_rfl) (by kernel_rfl) (q_len Tryz.underlying74 rfl) (fun _ h => h.subD) ?_
        refine D.q 10 rfl (by kernel_rfl) (by kernel_rfl) (q_add rfl rfl (by first | omega | (simp; omega)) (by first | omega | (simp; omega))) (fun _ h => h.subD) ?_
        refine D.q 11 rfl (by kernel_rfl) (by kernel_rfl) (q_gt rfl rfl) (fun _ h => h.subD) ?_
        refine D.done (by kernel_rfl) ?_
        refine K.dcond (s := 58) rfl (fun g58 => ?_) (fun g58 => ?_)
        · have hls1 : leftN who (es.take (i + 1)) = B ++ [⟨nm', some bb, k⟩] := by rw [hls, if_neg (by rw [noneR, decide_eq_true_iff]; show ¬ k.hold.length + k.line.length = 0; omega), ← hB]
          refine K.region ?_
          refine KO.q rfl (q_move rfl) ?_
          refine KO.q rfl (q_move rfl) ?_
          refine KO.q rfl (q_nilCheck rfl) ?_
          refine KO.q rfl (q_field fo_29_0 rfl) ?_
          refine KO.q rfl (q_load1D ck_27 rfl) ?_
          refine KO.q rfl (q_move rfl) ?_
          refine KO.q rfl (q_ix (xs := es) i se_27 rfl rfl rfl isO (by repeat (first | exact List.Mem.head _ | apply List.Mem.tail)) rfl (by omega)) ?_
          refine KO.q rfl (q_ldEN (xs := es) (enc := E.cells) ck_79 rfl isO (by repeat (first | exact List.Mem.head _ | apply List.Mem.tail)) he) ?_
          refine KO.loud rfl (l_slice1 sz_27_1 rfl rfl ⟨rfl, rfl, rfl⟩) ?_
          rintro _ _ ⟨b67, rfl, rfl⟩
          refine KO.loud rfl (l_append Kd.e (ys := [⟨nm', some bb, k⟩]) se_27 Tryz.underlying27 ⟨_, ze_79, rfl⟩ (by decide) rfl rfl (by repeat (first | exact Pick.here | apply Pick.there)) isP (by repeat (first | exact List.Mem.head _ | apply List.Mem.tail)) rfl rfl (by show (2 * (B.length + 1) + 768) * 48 ≤ _; omega)) ?_
          rintro _ _ ⟨pn, dn, rfl, rfl⟩
          refine KO.q rfl (q_assign rfl) ?_
          refine KO.done ?_
          refine K.inBlock ?_
          refine K.region ?_
          refine KO.q rfl (q_move rfl) ?_
          refine KO.q rfl (q_add rfl rfl (by first | omega | (simp; omega)) (by first | omega | (simp; omega))) ?_
          refine KO.q rfl (q_assign rfl) ?_
          refine KO.done ?_
          exact K.weak (E' := [(7, .int .i64 ((i + 1 : Nat) : Int)), (5, .slice po ((es.take (i + 1)).flatMap (outE who)).length co), (6, .slice pn (leftN who (es.take (i + 1))).length dn), (0, .pointer (some ⟨t, 0, none⟩)), (1, .int .i64 who)]) (by rw [hos, hls1]; exact (by repeat (first | exact Env.sub_nil _ | refine Env.sub_cons rfl ?_))) (fun w h => by rw [hos, hls1, hms]; exact (tr_closeL (by omega) (h.fit (M := RkL bb q1 c1 q2 c2 k ++ [AllO RkE ((mixE who es i).eraseIdx i), RowO (Kd.int .i64) 3 po co A, RowO Kd.e 79 pn dn (B ++ [⟨nm', some bb, k⟩]), pv t 29 [.slice q es.length c], RowO Kd.e 79 q c es]) (by repeat (first | exact Give.nil | (apply Give.perI; (repeat (first | exact List.Mem.head _ | apply List.Mem.tail))) | (apply Give.own; (repeat (first | exact Pick.here | apply Pick.there))))) (by repeat (first | exact Drop.refl | apply Drop.skip)))).fitD) (ih ⟨(i + 1, (po, co), (pn, dn)), by show i + 1 ≤ _; omega⟩ (by show es.length - (i + 1) < es.length - i; omega))
        · have hls1 : leftN who (es.take (i + 1)) = B := by rw [hls, if_pos (by rw [noneR, decide_eq_true_iff]; show k.hold.length + k.line.length = 0; omega), ← hB, List.append_nil]
          refine K.skip <| K.inBlock ?_
          refine K.region ?_
          refine KO.q rfl (q_move rfl) ?_
          refine KO.q rfl (q_add rfl rfl (by first | omega | (simp; omega)) (by first | omega | (simp; omega))) ?_
          refine KO.q rfl (q_assign rfl) ?_
          refine KO.done ?_
          exact K.weak (E' := [(7, .int .i64 ((i + 1 : Nat) : Int)), (5, .slice po ((es.take (i + 1)).flatMap (outE who)).length co), (6, .slice pl (leftN who (es.take (i + 1))).length cl), (0, .pointer (some ⟨t, 0, none⟩)), (1, .int .i64 who)]) (by rw [hos, hls1]; exact (by repeat (first | exact Env.sub_nil _ | refine Env.sub_cons rfl ?_))) (fun w h => by rw [hos, hls1, hms]; exact (tr_closeL (by omega) (h.fit (M := RkL bb q1 c1 q2 c2 k ++ [AllO RkE ((mixE who es i).eraseIdx i), RowO (Kd.int .i64) 3 po co A, RowO Kd.e 79 pl cl B, pv t 29 [.slice q es.length c], RowO Kd.e 79 q c es]) (by repeat (first | exact Give.nil | (apply Give.perI; (repeat (first | exact List.Mem.head _ | apply List.Mem.tail))) | (apply Give.own; (repeat (first | exact Pick.here | apply Pick.there))))) (by repeat (first | exact Drop.refl | apply Drop.skip)))).fitD) (ih ⟨(i + 1, (po, co), (pl, cl)), by show i + 1 ≤ _; omega⟩ (by show es.length - (i + 1) < es.length - i; omega))
  · obtain rfl : i = es.length := by omega
    rw [mixE_end]
    rw [List.take_length] at hA hB
    clear ih
    obtain ⟨F, hF⟩ : ∃ F, F = es.map (drE who) := ⟨_, rfl⟩
    obtain ⟨h1, h2, h3⟩ := free_abs es n who
    rw [← hA] at h1
    have hB2 : B = F.filter (fun e => !noneK e.k) := by rw [hB, hF]; rfl
    rw [← hF, ← hB2] at h2
    rw [← hF, ← h1]
    refine K.exit rfl ?_
    refine K.seq ?_
    refine K.region ?_
    refine KO.q rfl (q_move rfl) ?_
    refine KO.q rfl (q_move rfl) ?_
    refine KO.q rfl (q_nilCheck rfl) ?_
    refine KO.q rfl (q_field fo_29_0 rfl) ?_
    refine KO.loudN rfl (l_store1 ck_27 rfl rfl rfl (by repeat (first | exact Pick.here | apply Pick.there)) (by repeat (first | exact SetAt.here | apply SetAt.there))) ?_
    rintro _ _ ⟨rfl, rfl⟩
    refine KO.done ?_
    refine K.seq ?_
    refine K.region ?_
    refine KO.q rfl (q_move rfl) ?_
    refine KO.q rfl (q_assign rfl) ?_
    refine KO.done ?_
    refine K.ret (fn := Tryz.f11) Tryz.func11 (fun a w hk hs => res1 Tryz.results11 hk rfl) (fun w hs => ?_)
    exact ⟨_, RowO (Kd.int .i64) 3 po co A :: (TrE t pl cl B ++ [AllO RkE B]), rfl, ⟨po, co, B, pl, cl, rfl, h2, rfl⟩, (show St _ (AllO RkE B :: _) w by rw [hB2]; exact allO_filter (fun e => !noneK e.k) (hs.fit (M := [AllO RkE F, RowO (Kd.int .i64) 3 po co A, pv t 29 [.slice pl B.length cl], RowO Kd.e 79 pl cl B]) (by repeat (first | exact Give.nil | (apply Give.perI; (repeat (first | exact List.Mem.head _ | apply List.Mem.tail))) | (apply Give.own; (repeat (first | exact Pick.here | apply Pick.there))))) (by repeat (first | exact Drop.refl | apply Drop.skip)))).fitD⟩
set_option maxHeartbeats 800000 in
theorem rf_SameEdges (A B : HP) (p q : Option Addr) (c d : Nat) (a b : List P2) (hA : IsRow A Kd.p2 p a) (hB : IsRow B Kd.p2 q b) (ha : a.length ≤ 1000000000000) (hb : b.length ≤ 1000000000000) : Fn Tryz.prog 18 [.slice p a.length c, .slice q b.length d].toArray [A, B] (fun r post => r = .bool (decide (a = b)) ∧ post = [A, B]) := by
  refine Fn.enter (N := 26) Tryz.func18 rfl Tryz.ntmps18 (by kernel_rfl) rfl (fun ρ L => ?_)
  refine K.seq ?_
  refine K.region ?_
  refine KO.q rfl (q_assign rfl) ?_
  refine KO.done ?_
  refine K.seq <| K.seq ?_
  refine K.region ?_
  refine KO.q rfl (q_move rfl) ?_
  refine KO.q rfl (q_len Tryz.underlying46 rfl) ?_
  refine KO.q rfl (q_move rfl) ?_
  refine KO.q rfl (q_len Tryz.underlying46 rfl) ?_
  refine KO.q rfl (q_ne rfl rfl) ?_
  refine KO.done ?_
  refine K.dcond (s := 10) rfl (fun g10 => ?_) (fun g10 => ?_)
  · have hr : decide (a = b) = false := decide_eq_false (fun e => g10 (by rw [e]))
    refine K.seq ?_
    refine K.region ?_
    refine KO.q rfl (q_assign rfl) ?_
    refine KO.done ?_
    refine K.ret (fn := Tryz.f18) Tryz.func18 (fun a w hk hs => res1 Tryz.results18 hk rfl) (fun w hs => ?_)
    rw [hr]
    exact ⟨_, [A, B], rfl, ⟨rfl, rfl⟩, hs.fitD⟩
  · have hlen : a.length = b.length := by omega
    refine K.skip <| K.seq <| K.seq ?_
    refine K.region ?_
    refine KO.q rfl (q_assign rfl) ?_
    refine KO.done ?_
    refine K.block ?_
    refine K.rloop (ι := { i : Nat // i ≤ a.length ∧ a.take i = b.take i }) (fun x => [(5, .int .i64 x.1), (0, .slice p a.length c), (1, .slice q b.length d)]) (fun x => a.length - x.1) ⟨0, Nat.zero_le _, rfl⟩ (by repeat (first | exact Env.sub_nil _ | refine Env.sub_cons rfl ?_)) (fun x ih => ?_)
    obtain ⟨i, hi, hz⟩ := x
    dsimp only at hi hz ⊢
    refine K.seq <| K.seq ?_
    refine K.region ?_
    refine KO.q rfl (q_move rfl) ?_
    refine KO.q rfl (q_move rfl) ?_
    refine KO.q rfl (q_len Tryz.underlying46 rfl) ?_
    refine KO.q rfl (q_lt rfl rfl) ?_
    refine KO.done ?_
    refine K.dcond (s := 14) rfl (fun g14 => ?_) (fun g14 => ?_)
    · obtain ⟨x, hx⟩ : ∃ x, a[i]? = some x := ⟨_, List.getElem?_eq_getElem (by omega)⟩
      obtain ⟨y, hy⟩ : ∃ y, b[i]? = some y := ⟨_, List.getElem?_eq_getElem (by omega)⟩
      refine K.skip <| K.seq <| K.block <| K.seq ?_
      refine K.drawS [A, B] (fun _ h => h.subD) mixed ?_
      refine D.q 0 rfl (by kernel_rfl) (by kernel_rfl) (q_move rfl) (fun _ h => h.subD) ?_
      refine D.q 1 rfl (by kernel_rfl) (by kernel_rfl) (q_move rfl) (fun _ h => h.subD) ?_
      refine D.q 2 rfl (by kernel_rfl) (by kernel_rfl) (q_ix (xs := a) i se_46 rfl rfl rfl hA (by repeat (first | exact List.Mem.head _ | apply List.Mem.tail)) rfl (by omega)) (fun _ h => h.subD) ?_
      refine D.q 3 rfl (by kernel_rfl) (by kernel_rfl) (q_ldEN (xs := a) (enc := P2.cells) ck_84 rfl hA (by repeat (first | exact List.Mem.head _ | apply List.Mem.tail)) hx) (fun _ h => h.subD) ?_
      refine D.q 4 rfl (by kernel_rfl) (by kernel_rfl) (q_move rfl) (fun _ h => h.subD) ?_
      refine D.q 5 rfl (by kernel_rfl) (by kernel_rfl) (q_move rfl) (fun _ h => h.subD) ?_
      refine D.q 6 rfl (by kernel_rfl) (by kernel_rfl) (q_ix (xs := b) i se_46 rfl rfl rfl hB (by repeat (first | exact List.Mem.head _ | apply List.Mem.tail)) rfl (by omega)) (fun _ h => h.subD) ?_
      refine D.q 7 rfl (by kernel_rfl) (by kernel_rfl) (q_ldEN (xs := b) (enc := P2.cells) ck_84 rfl hB (by repeat (first | exact List.Mem.head _ | apply List.Mem.tail)) hy) (fun _ h => h.subD) ?_
      refine D.q 8 rfl (by kernel_rfl) (by kernel_rfl) (q_p2N (p := x) (q := y) Tryz.underlying84 Tryz.underlying3 ck_3 (by kernel_rfl) rfl rfl) (fun _ h => h.subD) ?_
      refine D.done (by kernel_rfl) ?_
      refine K.dcond (s := 25) rfl (fun g25 => ?_) (fun g25 => ?_)
      · have hr : decide (a = b) = false := decide_eq_false (take_ne hx hy (by simpa using g25))
        refine K.seq ?_
        refine K.region ?_
        refine KO.q rfl (q_assign rfl) ?_
        refine KO.done ?_
        refine K.ret (fn := Tryz.f18) Tryz.func18 (fun a w hk hs => res1 Tryz.results18 hk rfl) (fun w hs => ?_)
        rw [hr]
        exact ⟨_, [A, B], rfl, ⟨rfl, rfl⟩, hs.fitD⟩
      · refine K.skip <| K.inBlock ?_
        refine K.region ?_
        refine KO.q rfl (q_move rfl) ?_
        refine KO.q rfl (q_add rfl rfl (by first | omega | (simp; omega)) (by first | omega | (simp; omega))) ?_
        refine KO.q rfl (q_assign rfl) ?_
        refine KO.done ?_
        exact K.subE (by repeat (first | exact Env.sub_nil _ | refine Env.sub_cons rfl ?_)) (ih ⟨i + 1, by omega, take_eq_succ hx hy hz (by simpa using g25)⟩ (by show a.length - (i + 1) < a.length - i; omega))
    · have hr : decide (a = b) = true := decide_eq_true (by rwa [List.take_of_length_le (by omega), List.take_of_length_le (by omega)] at hz)
      refine K.exit rfl ?_
      refine K.seq ?_
      refine K.region ?_
      refine KO.q rfl (q_assign rfl) ?_
      refine KO.done ?_
      refine K.ret (fn := Tryz.f18) Tryz.func18 (fun a w hk hs => res1 Tryz.results18 hk rfl) (fun w hs => ?_)
      rw [hr]
      exact ⟨_, [A, B], rfl, ⟨rfl, rfl⟩, hs.fitD⟩
end Go.Proofs.YtcpkcjabmookmaaGreat.L
