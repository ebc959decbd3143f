/- Walks: the document's lock: for whom somebody waits; lists compared; a lock that was made. -/
import Derived.Test.YtcpkcjabmookmaaGreatPG
namespace Go.Proofs.YtcpkcjabmookmaaGreat.L
open Go Go.Proofs
attribute [local irreducible] pv fv pt fz RowF RowO rowP old pure_ elA
set_option maxRecDepth 100000
set_option linter.unusedSimpArgs false
set_option linter.unusedVariables false

theorem foldl_insI_len (z : List Int) : ∀ l : List Int, (l.foldl insI z).length ≤ z.length + l.length := fun l => by
  induction l generalizing z with
  | nil => exact Nat.le_refl _
  | cons x l ih =>
    have h1 := ih (insI z x)
    have h2 := insI_len z x
    simp only [List.foldl_cons, List.length_cons]
    omega
set_option maxHeartbeats 1600000 in
theorem rf_Waits (b : Nat) (q1 : Option Addr) (c1 : Nat) (q2 : Option Addr) (c2 : Nat) (k : Lk) (who : Int) (hl : k.hold.length + k.line.length ≤ 100000000) : Fn Tryz.prog 48 [.pointer (some ⟨b, 0, none⟩), .int .i64 who].toArray (RkL b q1 c1 q2 c2 k) (fun r post => ∃ po co, r = .slice po (k.waits who).length co ∧ post = RowO (Kd.int .i64) 3 po co (k.waits who) :: RkL b q1 c1 q2 c2 k) := by
  refine Fn.enter (N := 82) Tryz.func48 rfl Tryz.ntmps48 (by kernel_rfl) rfl (fun ρ L => ?_)
  refine K.seq ?_
  rw [Lk.waits_eq]
  refine K.region ?_
  refine KO.q rfl (q_assign rfl) ?_
  refine KO.done ?_
  refine K.seq ?_
  refine K.region ?_
  refine KO.q rfl (q_move rfl) ?_
  refine KO.q rfl (q_nilCheck rfl) ?_
  refine KO.q rfl (q_field fo_76_1 rfl) ?_
  refine KO.q rfl (q_load1D ck_74 rfl) ?_
  refine KO.q rfl (q_move rfl) ?_
  refine KO.loud rfl (OpL.callD rfl (h := rf_findW 59 q2 c2 k.line who (by omega))) ?_
  rintro _ _ ⟨_, ⟨rfl, rfl⟩, rfl⟩
  refine KO.q rfl (q_assign rfl) ?_
  refine KO.done ?_
  refine K.seq <| K.seq ?_
  refine K.region ?_
  refine KO.q rfl (q_move rfl) ?_
  refine KO.q rfl (q_lt rfl rfl) ?_
  refine KO.done ?_
  refine K.dcond (s := 16) rfl (fun g16 => ?_) (fun g16 => ?_)
  · have hr : (k.waitsR who).foldl insI [] = [] := by unfold Lk.waitsR; rw [if_pos g16]; rfl
    refine K.seq ?_
    refine K.region ?_
    refine KO.q rfl (q_assign rfl) ?_
    refine KO.done ?_
    refine K.ret (fn := Tryz.f48) Tryz.func48 (fun a w hk hs => res1 Tryz.results48 hk rfl) (fun w hs => ?_)
    rw [hr]
    exact ⟨_, RowO (Kd.int .i64) 3 none 0 [] :: RkL b q1 c1 q2 c2 k, rfl, ⟨none, 0, rfl, rfl⟩, (rowO_nil (k := Kd.int .i64) 3 hs).fitD⟩
  · obtain ⟨j, el, hje, hj, hw⟩ := at1_some (l := k.line) (who := who) (by omega)
    have hjl := (List.getElem?_eq_some_iff.1 hje).1
    have hR : k.waitsR who = k.waitsH who el.mode k.hold ++ (k.line.take j).map One.who := by unfold Lk.waitsR; rw [if_neg g16, hj, Int.toNat_natCast, getD_at hje]
    rw [hj]
    refine K.skip <| K.seq ?_
    refine K.region ?_
    refine KO.q rfl (q_assign rfl) ?_
    refine KO.done ?_
    refine K.seq <| K.seq ?_
    refine K.region ?_
    refine KO.q rfl (q_assign rfl) ?_
    refine KO.done ?_
    refine K.block ?_
    refine K.rounds2 (ι := { s : Nat × Option Addr × Nat // s.1 ≤ k.hold.length }) (fun s => [(7, .int .i64 s.1.1), (6, .slice s.1.2.1 ((k.waitsH who el.mode (k.hold.take s.1.1)).foldl insI []).length s.1.2.2), (5, .int .i64 j), (0, .pointer (some ⟨b, 0, none⟩)), (1, .int .i64 who)]) (fun s => RowO (Kd.int .i64) 3 s.1.2.1 s.1.2.2 ((k.waitsH who el.mode (k.hold.take s.1.1)).foldl insI []) :: RkL b q1 c1 q2 c2 k ++ L) (fun s => k.hold.length - s.1.1) ⟨(0, none, 0), Nat.zero_le _⟩ (by repeat (first | exact Env.sub_nil _ | refine Env.sub_cons rfl ?_)) (fun w h => rowO_nil (k := Kd.int .i64) 3 (h.fit (M := RkL b q1 c1 q2 c2 k) (by repeat (first | exact Give.nil | (apply Give.perI; (repeat (first | exact List.Mem.head _ | apply List.Mem.tail))) | (apply Give.own; (repeat (first | exact Pick.here | apply Pick.there))))) (by repeat (first | exact Drop.refl | apply Drop.skip)))) (fun s ih => ?_)
    obtain ⟨⟨i, po, co⟩, hi⟩ := s
    dsimp only at hi ⊢
    obtain ⟨out, hout⟩ : ∃ out, out = (k.waitsH who el.mode (k.hold.take i)).foldl insI [] := ⟨_, rfl⟩
    have hol : out.length ≤ 100000000 := by
      rw [hout]
      have h1 := k.waitsH_len who el.mode (k.hold.take i)
      have h2 := foldl_insI_len [] (k.waitsH who el.mode (k.hold.take i))
      rw [List.length_take] at h1
      simp only [List.length_nil] at h2
      omega
    rw [← hout]
    refine K.seq <| K.seq ?_
    refine K.region ?_
    refine KO.q rfl (q_move rfl) ?_
    refine KO.q rfl (q_move rfl) ?_
    refine KO.q rfl (q_nilCheck rfl) ?_
    refine KO.q rfl (q_field fo_76_0 rfl) ?_
    refine KO.q rfl (q_load1D ck_74 rfl) ?_
    refine KO.q rfl (q_len Tryz.underlying74 rfl) ?_
    refine KO.q rfl (q_lt rfl rfl) ?_
    refine KO.done ?_
    refine K.dcond (s := 23) rfl (fun g23 => ?_) (fun g23 => ?_)
    · obtain ⟨e, he⟩ : ∃ e, k.hold[i]? = some e := ⟨_, List.getElem?_eq_getElem (by omega)⟩
      have hm := k.waitsH_succ who el.mode he
      refine K.skip <| K.seq <| K.block <| K.seq ?_
      refine K.drawS [pv b 76 [.slice q1 k.hold.length c1, .slice q2 k.line.length c2], RowO Kd.oneH 59 q1 c1 k.hold, RowO Kd.oneW 59 q2 c2 k.line] (fun _ h => h.subD) mixed ?_
      refine D.q 0 rfl (by kernel_rfl) (by kernel_rfl) (q_move rfl) (fun _ h => h.subD) ?_
      refine D.q 1 rfl (by kernel_rfl) (by kernel_rfl) (q_nilCheck rfl) (fun _ h => h.subD) ?_
      refine D.q 2 rfl (by kernel_rfl) (by kernel_rfl) (q_field fo_76_0 rfl) (fun _ h => h.subD) ?_
      refine D.q 3 rfl (by kernel_rfl) (by kernel_rfl) (q_load1D ck_74 rfl) (fun _ h => h.subD) ?_
      refine D.q 4 rfl (by kernel_rfl) (by kernel_rfl) (q_move rfl) (fun _ h => h.subD) ?_
      refine D.q 5 rfl (by kernel_rfl) (by kernel_rfl) (q_ix (xs := k.hold) i se_74 rfl rfl rfl isO (by repeat (first | exact List.Mem.head _ | apply List.Mem.tail)) rfl (by omega)) (fun _ h => h.subD) ?_
      refine D.q 6 rfl (by kernel_rfl) (by kernel_rfl) (q_fieldE fo_59_0 rfl) (fun _ h => h.subD) ?_
      refine D.q 7 rfl (by kernel_rfl) (by kernel_rfl) (q_ldE (xs := k.hold) (enc := One.heldC) ck_3 rfl isO (by repeat (first | exact List.Mem.head _ | apply List.Mem.tail)) he rfl) (fun _ h => h.subD) ?_
      refine D.q 8 rfl (by kernel_rfl) (by kernel_rfl) (q_move rfl) (fun _ h => h.subD) ?_
      refine D.q 9 rfl (by kernel_rfl) (by kernel_rfl) (q_ne rfl rfl) (fun _ h => h.subD) ?_
      refine D.q 10 rfl (by kernel_rfl) (by kernel_rfl) (q_move rfl) (fun _ h => h.subD) ?_
      refine D.dsplit 36 rfl (fun g36 => ?_) (fun g36 => ?_)
      · refine D.q 11 rfl (by kernel_rfl) (by kernel_rfl) (q_move rfl) (fun _ h => h.subD) ?_
        refine D.q 12 rfl (by kernel_rfl) (by kernel_rfl) (q_nilCheck rfl) (fun _ h => h.subD) ?_
        refine D.q 13 rfl (by kernel_rfl) (by kernel_rfl) (q_field fo_76_1 rfl) (fun _ h => h.subD) ?_
        refine D.q 14 rfl (by kernel_rfl) (by kernel_rfl) (q_load1D ck_74 rfl) (fun _ h => h.subD) ?_
        refine D.q 15 rfl (by kernel_rfl) (by kernel_rfl) (q_move rfl) (fun _ h => h.subD) ?_
        refine D.q 16 rfl (by kernel_rfl) (by kernel_rfl) (q_ix (xs := k.line) j se_74 rfl rfl rfl isO (by repeat (first | exact List.Mem.head _ | apply List.Mem.tail)) rfl hjl) (fun _ h => h.subD) ?_
        refine D.q 17 rfl (by kernel_rfl) (by kernel_rfl) (q_fieldE fo_59_2 rfl) (fun _ h => h.subD) ?_
        refine D.q 18 rfl (by kernel_rfl) (by kernel_rfl) (q_ldE (xs := k.line) (enc := One.lineC) ck_3 rfl isO (by repeat (first | exact List.Mem.head _ | apply List.Mem.tail)) hje rfl) (fun _ h => h.subD) ?_
        refine D.q 19 rfl (by kernel_rfl) (by kernel_rfl) (q_move rfl) (fun _ h => h.subD) ?_
        refine D.q 20 rfl (by kernel_rfl) (by kernel_rfl) (q_nilCheck rfl) (fun _ h => h.subD) ?_
        refine D.q 21 rfl (by kernel_rfl) (by kernel_rfl) (q_field fo_76_0 rfl) (fun _ h => h.subD) ?_
        refine D.q 22 rfl (by kernel_rfl) (by kernel_rfl) (q_load1D ck_74 rfl) (fun _ h => h.subD) ?_
        refine D.q 23 rfl (by kernel_rfl) (by kernel_rfl) (q_move rfl) (fun _ h => h.subD) ?_
        refine D.q 24 rfl (by kernel_rfl) (by kernel_rfl) (q_ix (xs := k.hold) i se_74 rfl rfl rfl isO (by repeat (first | exact List.Mem.head _ | apply List.Mem.tail)) rfl (by omega)) (fun _ h => h.subD) ?_
        refine D.q 25 rfl (by kernel_rfl) (by kernel_rfl) (q_fieldE fo_59_1 rfl) (fun _ h => h.subD) ?_
        refine D.q 26 rfl (by kernel_rfl) (by kernel_rfl) (q_ldE (xs := k.hold) (enc := One.heldC) ck_3 rfl isO (by repeat (first | exact List.Mem.head _ | apply List.Mem.tail)) he rfl) (fun _ h => h.subD) ?_
        refine D.all (rs := [27]) (by kernel_rfl) rfl (DAll.cons rfl (by kernel_rfl) (OpL.callD rfl (h := rm_Fits _ _)) (.inr (by rintro _ _ ⟨_, ⟨rfl, rfl⟩, rfl⟩ w h; exact h.subD)) rfl ?_ DAll.nil)
        rintro _ _ ⟨_, ⟨rfl, rfl⟩, rfl⟩
        refine D.q 28 rfl (by kernel_rfl) (by kernel_rfl) (q_not rfl) (fun _ h => h.subD) ?_
        refine D.q 29 rfl (by kernel_rfl) (by kernel_rfl) (q_pickT rfl rfl) (fun _ h => h.subD) ?_
        refine D.done (by kernel_rfl) ?_
        refine K.bcond (s := 55) rfl (fun g55 => ?_) (fun g55 => ?_)
        · have hz : (k.waitsH who el.mode (k.hold.take (i + 1))).foldl insI [] = insI out e.who := by rw [hm, if_pos (by rw [decide_eq_true (by assumption), Bool.true_and]; exact g55), List.foldl_append, ← hout]; rfl
          refine K.region ?_
          refine KO.q rfl (q_move rfl) ?_
          refine KO.q rfl (q_move rfl) ?_
          refine KO.q rfl (q_nilCheck rfl) ?_
          refine KO.q rfl (q_field fo_76_0 rfl) ?_
          refine KO.q rfl (q_load1D ck_74 rfl) ?_
          refine KO.q rfl (q_move rfl) ?_
          refine KO.q rfl (q_ix (xs := k.hold) i se_74 rfl rfl rfl isO (by repeat (first | exact List.Mem.head _ | apply List.Mem.tail)) rfl (by omega)) ?_
          refine KO.q rfl (q_fieldE fo_59_0 rfl) ?_
          refine KO.q rfl (q_ldE (xs := k.hold) (enc := One.heldC) ck_3 rfl isO (by repeat (first | exact List.Mem.head _ | apply List.Mem.tail)) he rfl) ?_
          refine KO.loud rfl (OpL.callD rfl (h := rf_insert po co out e.who (by omega))) ?_
          rintro _ _ ⟨_, ⟨pn, dn, rfl, rfl⟩, rfl⟩
          refine KO.q rfl (q_assign rfl) ?_
          refine KO.done ?_
          refine K.inBlock ?_
          refine K.region ?_
          refine KO.q rfl (q_move rfl) ?_
          refine KO.q rfl (q_add rfl rfl (by first | omega | (simp; omega)) (by first | omega | (simp; omega))) ?_
          refine KO.q rfl (q_assign rfl) ?_
          refine KO.done ?_
          exact K.weak (E' := [(7, .int .i64 ((i + 1 : Nat) : Int)), (6, .slice pn ((k.waitsH who el.mode (k.hold.take (i + 1))).foldl insI []).length dn), (5, .int .i64 j), (0, .pointer (some ⟨b, 0, none⟩)), (1, .int .i64 who)]) (by rw [hz]; exact (by repeat (first | exact Env.sub_nil _ | refine Env.sub_cons rfl ?_))) (fun w h => by rw [hz]; exact h.fitD) (ih ⟨(i + 1, pn, dn), by show i + 1 ≤ _; omega⟩ (by show k.hold.length - (i + 1) < k.hold.length - i; omega))
        · have hz : (k.waitsH who el.mode (k.hold.take (i + 1))).foldl insI [] = out := by rw [hm, if_neg (by rw [g55, Bool.and_false]; decide), List.append_nil, ← hout]
          refine K.skip <| K.inBlock ?_
          refine K.region ?_
          refine KO.q rfl (q_move rfl) ?_
          refine KO.q rfl (q_add rfl rfl (by first | omega | (simp; omega)) (by first | omega | (simp; omega))) ?_
          refine KO.q rfl (q_assign rfl) ?_
          refine KO.done ?_
          exact K.weak (E' := [(7, .int .i64 ((i + 1 : Nat) : Int)), (6, .slice po ((k.waitsH who el.mode (k.hold.take (i + 1))).foldl insI []).length co), (5, .int .i64 j), (0, .pointer (some ⟨b, 0, none⟩)), (1, .int .i64 who)]) (by rw [hz]; exact (by repeat (first | exact Env.sub_nil _ | refine Env.sub_cons rfl ?_))) (fun w h => by rw [hz]; exact h.fitD) (ih ⟨(i + 1, po, co), by show i + 1 ≤ _; omega⟩ (by show k.hold.length - (i + 1) < k.hold.length - i; omega))
      · have hz : (k.waitsH who el.mode (k.hold.take (i + 1))).foldl insI [] = out := by rw [hm, if_neg (by rw [decide_eq_false g36, Bool.false_and]; decide), List.append_nil, ← hout]
        refine D.skip 11 rfl (by kernel_rfl) (by kernel_rfl) (fun _ h => h.subD) ?_
        refine D.skip 12 rfl (by kernel_rfl) (by kernel_rfl) (fun _ h => h.subD) ?_
        refine D.skip 13 rfl (by kernel_rfl) (by kernel_rfl) (fun _ h => h.subD) ?_
        refine D.skip 14 rfl (by kernel_rfl) (by kernel_rfl) (fun _ h => h.subD) ?_
        refine D.skip 15 rfl (by kernel_rfl) (by kernel_rfl) (fun _ h => h.subD) ?_
        refine D.skip 16 rfl (by kernel_rfl) (by kernel_rfl) (fun _ h => h.subD) ?_
        refine D.skip 17 rfl (by kernel_rfl) (by kernel_rfl) (fun _ h => h.subD) ?_
        refine D.skip 18 rfl (by kernel_rfl) (by kernel_rfl) (fun _ h => h.subD) ?_
        refine D.skip 19 rfl (by kernel_rfl) (by kernel_rfl) (fun _ h => h.subD) ?_
        refine D.skip 20 rfl (by kernel_rfl) (by kernel_rfl) (fun _ h => h.subD) ?_
        refine D.skip 21 rfl (by kernel_rfl) (by kernel_rfl) (fun _ h => h.subD) ?_
        refine D.skip 22 rfl (by kernel_rfl) (by kernel_rfl) (fun _ h => h.subD) ?_
        refine D.skip 23 rfl (by kernel_rfl) (by kernel_rfl) (fun _ h => h.subD) ?_
        refine D.skip 24 rfl (by kernel_rfl) (by kernel_rfl) (fun _ h => h.subD) ?_
        refine D.skip 25 rfl (by kernel_rfl) (by kernel_rfl) (fun _ h => h.subD) ?_
        refine D.skip 26 rfl (by kernel_rfl) (by kernel_rfl) (fun _ h => h.subD) ?_
        refine D.skip 27 rfl (by kernel_rfl) (by kernel_rfl) (fun _ h => h.subD) ?_
        refine D.skip 28 rfl (by kernel_rfl) (by kernel_rfl) (fun _ h => h.subD) ?_
        refine D.q 29 rfl (by kernel_rfl) (by kernel_rfl) (q_pickF rfl rfl) (fun _ h => h.subD) ?_
        refine D.done (by kernel_rfl) ?_
        refine K.no rfl ?_
        refine K.skip <| K.inBlock ?_
        refine K.region ?_
        refine KO.q rfl (q_move rfl) ?_
        refine KO.q rfl (q_add rfl rfl (by first | omega | (simp; omega)) (by first | omega | (simp; omega))) ?_
        refine KO.q rfl (q_assign rfl) ?_
        refine KO.done ?_
        exact K.weak (E' := [(7, .int .i64 ((i + 1 : Nat) : Int)), (6, .slice po ((k.waitsH who el.mode (k.hold.take (i + 1))).foldl insI []).length co), (5, .int .i64 j), (0, .pointer (some ⟨b, 0, none⟩)), (1, .int .i64 who)]) (by rw [hz]; exact (by repeat (first | exact Env.sub_nil _ | refine Env.sub_cons rfl ?_))) (fun w h => by rw [hz]; exact h.fitD) (ih ⟨(i + 1, po, co), by show i + 1 ≤ _; omega⟩ (by show k.hold.length - (i + 1) < k.hold.length - i; omega))
    · obtain rfl : i = k.hold.length := by omega
      rw [List.take_length] at hout
      clear ih
      refine K.exit rfl ?_
      refine K.seq <| K.seq ?_
      refine K.region ?_
      refine KO.q rfl (q_assign rfl) ?_
      refine KO.done ?_
      refine K.block ?_
      refine K.rounds2 (ι := { s : Nat × Option Addr × Nat // s.1 ≤ j }) (fun s => [(8, .int .i64 s.1.1), (6, .slice s.1.2.1 (((k.line.take s.1.1).map One.who).foldl insI out).length s.1.2.2), (5, .int .i64 j), (0, .pointer (some ⟨b, 0, none⟩))]) (fun s => RowO (Kd.int .i64) 3 s.1.2.1 s.1.2.2 (((k.line.take s.1.1).map One.who).foldl insI out) :: RkL b q1 c1 q2 c2 k ++ L) (fun s => j - s.1.1) ⟨(0, po, co), Nat.zero_le _⟩ (by rw [List.take_zero, List.map_nil, List.foldl_nil]; exact (by repeat (first | exact Env.sub_nil _ | refine Env.sub_cons rfl ?_))) (fun w h => by rw [List.take_zero, List.map_nil, List.foldl_nil]; exact h.fitD) (fun s ih2 => ?_)
      obtain ⟨⟨i, po, co⟩, hi⟩ := s
      dsimp only at hi ⊢
      obtain ⟨out2, hout2⟩ : ∃ out2, out2 = ((k.line.take i).map One.who).foldl insI out := ⟨_, rfl⟩
      have hol2 : out2.length ≤ 200000000 := by
        rw [hout2]
        have h2 := foldl_insI_len out ((k.line.take i).map One.who)
        rw [List.length_map, List.length_take] at h2
        omega
      rw [← hout2]
      refine K.seq <| K.seq ?_
      refine K.region ?_
      refine KO.q rfl (q_move rfl) ?_
      refine KO.q rfl (q_move rfl) ?_
      refine KO.q rfl (q_lt rfl rfl) ?_
      refine KO.done ?_
      refine K.dcond (s := 68) rfl (fun g68 => ?_) (fun g68 => ?_)
      · obtain ⟨e, he⟩ : ∃ e, k.line[i]? = some e := ⟨_, List.getElem?_eq_getElem (by omega)⟩
        have hz : ((k.line.take (i + 1)).map One.who).foldl insI out = insI out2 e.who := by rw [map_take_succ _ he, List.foldl_append, ← hout2]; rfl
        refine K.skip <| K.seq <| K.block ?_
        refine K.region ?_
        refine KO.q rfl (q_move rfl) ?_
        refine KO.q rfl (q_move rfl) ?_
        refine KO.q rfl (q_nilCheck rfl) ?_
        refine KO.q rfl (q_field fo_76_1 rfl) ?_
        refine KO.q rfl (q_load1D ck_74 rfl) ?_
        refine KO.q rfl (q_move rfl) ?_
        refine KO.q rfl (q_ix (xs := k.line) i se_74 rfl rfl rfl isO (by repeat (first | exact List.Mem.head _ | apply List.Mem.tail)) rfl (by omega)) ?_
        refine KO.q rfl (q_fieldE fo_59_0 rfl) ?_
        refine KO.q rfl (q_ldE (xs := k.line) (enc := One.lineC) ck_3 rfl isO (by repeat (first | exact List.Mem.head _ | apply List.Mem.tail)) he rfl) ?_
        refine KO.loud rfl (OpL.callD rfl (h := rf_insert po co out2 e.who (by omega))) ?_
        rintro _ _ ⟨_, ⟨pn, dn, rfl, rfl⟩, rfl⟩
        refine KO.q rfl (q_assign rfl) ?_
        refine KO.done ?_
        refine K.inBlock ?_
        refine K.region ?_
        refine KO.q rfl (q_move rfl) ?_
        refine KO.q rfl (q_add rfl rfl (by first | omega | (simp; omega)) (by first | omega | (simp; omega))) ?_
        refine KO.q rfl (q_assign rfl) ?_
        refine KO.done ?_
        exact K.weak (E' := [(8, .int .i64 ((i + 1 : Nat) : Int)), (6, .slice pn (((k.line.take (i + 1)).map One.who).foldl insI out).length dn), (5, .int .i64 j), (0, .pointer (some ⟨b, 0, none⟩))]) (by rw [hz]; exact (by repeat (first | exact Env.sub_nil _ | refine Env.sub_cons rfl ?_))) (fun w h => by rw [hz]; exact h.fitD) (ih2 ⟨(i + 1, pn, dn), by show i + 1 ≤ _; omega⟩ (by show j - (i + 1) < j - i; omega))
      · obtain rfl : i = j := by omega
        have hR2 : (k.waitsR who).foldl insI [] = out2 := by rw [hR, List.foldl_append, ← hout, ← hout2]
        rw [hR2]
        refine K.exit rfl ?_
        refine K.seq ?_
        refine K.region ?_
        refine KO.q rfl (q_move rfl) ?_
        refine KO.q rfl (q_assign rfl) ?_
        refine KO.done ?_
        refine K.ret (fn := Tryz.f48) Tryz.func48 (fun a w hk hs => res1 Tryz.results48 hk rfl) (fun w hs => ?_)
        exact ⟨_, RowO (Kd.int .i64) 3 po co out2 :: RkL b q1 c1 q2 c2 k, rfl, ⟨po, co, rfl, rfl⟩, hs.fitD⟩
theorem take_eq_succ {α : Type} {a b : List α} {i : Nat} {x y : α} (hx : a[i]? = some x) (hy : b[i]? = some y) (ht : a.take i = b.take i) (h : x = y) : a.take (i + 1) = b.take (i + 1) := by
  rw [List.take_add_one, List.take_add_one, hx, hy, ht, h]
theorem take_ne {α : Type} {a b : List α} {i : Nat} {x y : α} (hx : a[i]? = some x) (hy : b[i]? = some y) (h : ¬ x = y) : ¬ a = b := fun e => by
  subst e
  rw [hx] at hy
  cases hy
  exact h rfl
set_option maxHeartbeats 800000 in
theorem rf_SameInts (A B : HP) (p q : Option Addr) (c d : Nat) (a b : List Int) (hA : IsRow A (Kd.int .i64) p a) (hB : IsRow B (Kd.int .i64) q b) (ha : a.length ≤ 1000000000000) (hb : b.length ≤ 1000000000000) : Fn Tryz.prog 9 [.slice p a.length c, .slice q b.length d].toArray [A, B] (fun r post => r = .bool (decide (a = b)) ∧ post = [A, B]) := by
  refine Fn.enter (N := 26) Tryz.func9 rfl Tryz.ntmps9 (by kernel_rfl) rfl (fun ρ L => ?_)
  refine K.seq ?_
  refine K.region ?_
  refine KO.q rfl (q_assign rfl) ?_
  refine KO.done ?_
  refine K.seq <| K.seq ?_
  refine K.region ?_
  refine KO.q rfl (q_move rfl) ?_
  refine KO.q rfl (q_len Tryz.underlying39 rfl) ?_
  refine KO.q rfl (q_move rfl) ?_
  refine KO.q rfl (q_len Tryz.underlying39 rfl) ?_
  refine KO.q rfl (q_ne rfl rfl) ?_
  refine KO.done ?_
  refine K.dcond (s := 10) rfl (fun g10 => ?_) (fun g10 => ?_)
  · have hr : decide (a = b) = false := decide_eq_false (fun e => g10 (by rw [e]))
    refine K.seq ?_
    refine K.region ?_
    refine KO.q rfl (q_assign rfl) ?_
    refine KO.done ?_
    refine K.ret (fn := Tryz.f9) Tryz.func9 (fun a w hk hs => res1 Tryz.results9 hk rfl) (fun w hs => ?_)
    rw [hr]
    exact ⟨_, [A, B], rfl, ⟨rfl, rfl⟩, hs.fitD⟩
  · have hlen : a.length = b.length := by omega
    refine K.skip <| K.seq <| K.seq ?_
    refine K.region ?_
    refine KO.q rfl (q_assign rfl) ?_
    refine KO.done ?_
    refine K.block ?_
    refine K.rloop (ι := { i : Nat // i ≤ a.length ∧ a.take i = b.take i }) (fun x => [(5, .int .i64 x.1), (0, .slice p a.length c), (1, .slice q b.length d)]) (fun x => a.length - x.1) ⟨0, Nat.zero_le _, rfl⟩ (by repeat (first | exact Env.sub_nil _ | refine Env.sub_cons rfl ?_)) (fun x ih => ?_)
    obtain ⟨i, hi, hz⟩ := x
    dsimp only at hi hz ⊢
    refine K.seq <| K.seq ?_
    refine K.region ?_
    refine KO.q rfl (q_move rfl) ?_
    refine KO.q rfl (q_move rfl) ?_
    refine KO.q rfl (q_len Tryz.underlying39 rfl) ?_
    refine KO.q rfl (q_lt rfl rfl) ?_
    refine KO.done ?_
    refine K.dcond (s := 14) rfl (fun g14 => ?_) (fun g14 => ?_)
    · obtain ⟨x, hx⟩ : ∃ x, a[i]? = some x := ⟨_, List.getElem?_eq_getElem (by omega)⟩
      obtain ⟨y, hy⟩ : ∃ y, b[i]? = some y := ⟨_, List.getElem?_eq_getElem (by omega)⟩
      refine K.skip <| K.seq <| K.block <| K.seq ?_
      refine K.drawS [A, B] (fun _ h => h.subD) mixed ?_
      refine D.q 0 rfl (by kernel_rfl) (by kernel_rfl) (q_move rfl) (fun _ h => h.subD) ?_
      refine D.q 1 rfl (by kernel_rfl) (by kernel_rfl) (q_move rfl) (fun _ h => h.subD) ?_
      refine D.q 2 rfl (by kernel_rfl) (by kernel_rfl) (q_ix (xs := a) i se_39 rfl rfl rfl hA (by repeat (first | exact List.Mem.head _ | apply List.Mem.tail)) rfl (by omega)) (fun _ h => h.subD) ?_
      refine D.q 3 rfl (by kernel_rfl) (by kernel_rfl) (q_ldE (xs := a) ck_3 rfl hA (by repeat (first | exact List.Mem.head _ | apply List.Mem.tail)) hx rfl) (fun _ h => h.subD) ?_
      refine D.q 4 rfl (by kernel_rfl) (by kernel_rfl) (q_move rfl) (fun _ h => h.subD) ?_
      refine D.q 5 rfl (by kernel_rfl) (by kernel_rfl) (q_move rfl) (fun _ h => h.subD) ?_
      refine D.q 6 rfl (by kernel_rfl) (by kernel_rfl) (q_ix (xs := b) i se_39 rfl rfl rfl hB (by repeat (first | exact List.Mem.head _ | apply List.Mem.tail)) rfl (by omega)) (fun _ h => h.subD) ?_
      refine D.q 7 rfl (by kernel_rfl) (by kernel_rfl) (q_ldE (xs := b) ck_3 rfl hB (by repeat (first | exact List.Mem.head _ | apply List.Mem.tail)) hy rfl) (fun _ h => h.subD) ?_
      refine D.q 8 rfl (by kernel_rfl) (by kernel_rfl) (q_ne rfl rfl) (fun _ h => h.subD) ?_
      refine D.done (by kernel_rfl) ?_
      refine K.dcond (s := 25) rfl (fun g25 => ?_) (fun g25 => ?_)
      · have hr : decide (a = b) = false := decide_eq_false (take_ne hx hy g25)
        refine K.seq ?_
        refine K.region ?_
        refine KO.q rfl (q_assign rfl) ?_
        refine KO.done ?_
        refine K.ret (fn := Tryz.f9) Tryz.func9 (fun a w hk hs => res1 Tryz.results9 hk rfl) (fun w hs => ?_)
        rw [hr]
        exact ⟨_, [A, B], rfl, ⟨rfl, rfl⟩, hs.fitD⟩
      · refine K.skip <| K.inBlock ?_
        refine K.region ?_
        refine KO.q rfl (q_move rfl) ?_
        refine KO.q rfl (q_add rfl rfl (by first | omega | (simp; omega)) (by first | omega | (simp; omega))) ?_
        refine KO.q rfl (q_assign rfl) ?_
        refine KO.done ?_
        exact K.subE (by repeat (first | exact Env.sub_nil _ | refine Env.sub_cons rfl ?_)) (ih ⟨i + 1, by omega, take_eq_succ hx hy hz (by omega)⟩ (by show a.length - (i + 1) < a.length - i; omega))
    · have hr : decide (a = b) = true := decide_eq_true (by rwa [List.take_of_length_le (by omega), List.take_of_length_le (by omega)] at hz)
      refine K.exit rfl ?_
      refine K.seq ?_
      refine K.region ?_
      refine KO.q rfl (q_assign rfl) ?_
      refine KO.done ?_
      refine K.ret (fn := Tryz.f9) Tryz.func9 (fun a w hk hs => res1 Tryz.results9 hk rfl) (fun w hs => ?_)
      rw [hr]
      exact ⟨_, [A, B], rfl, ⟨rfl, rfl⟩, hs.fitD⟩
theorem lk_new {ρ : World} {L : List HP} {w : World} {b : Nat} (h : St ρ (pv b 68 [.slice none 0 0, .slice none 0 0] :: L) w) : St ρ (LkL b none 0 none 0 ⟨[], []⟩ ++ L) w :=
  (rowO_nil (k := Kd.one1) 100 (rowO_nil (k := Kd.one1) 100 h)).fitD
theorem rk_new {ρ : World} {L : List HP} {w : World} {b : Nat} (h : St ρ (pv b 76 [.slice none 0 0, .slice none 0 0] :: L) w) : St ρ (RkL b none 0 none 0 ⟨[], []⟩ ++ L) w :=
  (rowO_nil (k := Kd.oneW) 59 (rowO_nil (k := Kd.oneH) 59 h)).fitD
end Go.Proofs.YtcpkcjabmookmaaGreat.L
