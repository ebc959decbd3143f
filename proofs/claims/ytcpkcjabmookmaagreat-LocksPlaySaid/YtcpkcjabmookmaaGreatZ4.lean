/- Walks: the document's table of locks: who waits for whom. -/
import Derived.Test.YtcpkcjabmookmaaGreatZ3
namespace Go.Proofs.YtcpkcjabmookmaaGreat.L
open Go Go.Proofs
attribute [local irreducible] pv fv pt fz RowF RowO rowP old pure_ elA
set_option maxRecDepth 100000
set_option linter.unusedSimpArgs false
set_option linter.unusedVariables false

theorem whoN_succ {es : List E} {i : Nat} {e : E} (h : es[i]? = some e) : whoN (es.take (i + 1)) = insL e.k.line (whoN (es.take i)) := foldl_take_succ (fun (w : List Int) (e : E) => insL e.k.line w) [] h
theorem insL_succ {l : List One} {j : Nat} {x : One} (z : List Int) (h : l[j]? = some x) : insL (l.take (j + 1)) z = insI (insL (l.take j) z) x.who := foldl_take_succ (fun (w : List Int) (x : One) => insI w x.who) z h
theorem toN_succ {es : List E} {i : Nat} {e : E} (w : Int) (h : es[i]? = some e) : toN (es.take (i + 1)) w = (e.k.waits w).foldl insI (toN (es.take i) w) := foldl_take_succ (fun (a : List Int) (e : E) => (e.k.waits w).foldl insI a) [] h
theorem insL_take_len (l : List One) (j : Nat) (z : List Int) : (insL (l.take j) z).length ≤ z.length + l.length := by
  have h1 := insL_len (l.take j) z
  rw [List.length_take] at h1
  omega
theorem foldI_take_len (l : List Int) (j : Nat) (z : List Int) : ((l.take j).foldl insI z).length ≤ z.length + l.length := by
  have h1 := foldI_len (l.take j) z
  rw [List.length_take] at h1
  omega
def edW (es : List E) (w : Int) : List P2 := prsW w (toN es w)
theorem edW_len (es : List E) (w : Int) : (edW es w).length ≤ szN es := by
  unfold edW prsW
  rw [List.length_map]
  exact toN_len es w
set_option maxHeartbeats 3200000 in
theorem tr_Edges (t : Nat) (q : Option Addr) (c : Nat) (es : List E) (hz : ∀ e ∈ es, e.k.size ≤ 1000000) (hl : es.length ≤ 1000000) (hS : szN es ≤ 10000) : Fn Tryz.prog 20 [.pointer (some ⟨t, 0, none⟩)].toArray (TrE t q c es ++ [AllO RkE es]) (fun r post => ∃ po co, r = .slice po (edN es).length co ∧ post = RowO Kd.p2 84 po co (edN es) :: (TrE t q c es ++ [AllO RkE es])) := by
  refine Fn.enter (N := 114) Tryz.func20 rfl Tryz.ntmps20 (by kernel_rfl) rfl (fun ρ L => ?_)
  refine K.seq ?_
  refine K.region ?_
  refine KO.q rfl (q_assign rfl) ?_
  refine KO.done ?_
  refine K.seq ?_
  refine K.region ?_
  refine KO.q rfl (q_assign rfl) ?_
  refine KO.done ?_
  refine K.seq <| K.seq ?_
  refine K.region ?_
  refine KO.q rfl (q_assign rfl) ?_
  refine KO.done ?_
  refine K.block ?_
  refine K.rounds2 (ι := { s : Nat × Option Addr × Nat // s.1 ≤ es.length }) (fun s => [(4, .int .i64 s.1.1), (3, .slice s.1.2.1 (whoN (es.take s.1.1)).length s.1.2.2), (0, .pointer (some ⟨t, 0, none⟩))]) (fun s => RowO (Kd.int .i64) 3 s.1.2.1 s.1.2.2 (whoN (es.take s.1.1)) :: (TrE t q c es ++ [AllO RkE es]) ++ L) (fun s => es.length - s.1.1) ⟨(0, none, 0), Nat.zero_le _⟩ (by repeat (first | exact Env.sub_nil _ | refine Env.sub_cons rfl ?_)) (fun w h => rowO_nil (k := Kd.int .i64) 3 (h.fit (M := TrE t q c es ++ [AllO RkE es]) (by repeat (first | exact Give.nil | (apply Give.perI; (repeat (first | exact List.Mem.head _ | apply List.Mem.tail))) | (apply Give.own; (repeat (first | exact Pick.here | apply Pick.there))))) (by repeat (first | exact Drop.refl | apply Drop.skip)))) (fun s ih => ?_)
  obtain ⟨⟨i, pw, cw⟩, hi⟩ := s
  dsimp only at hi ⊢
  have hwl := whoN_len (es.take i)
  have hsl := szN_le es i
  obtain ⟨A, hA⟩ : ∃ A, A = whoN (es.take i) := ⟨_, rfl⟩
  rw [← hA] at hwl ⊢
  refine K.seq <| K.seq ?_
  refine K.region ?_
  refine KO.q rfl (q_move rfl) ?_
  refine KO.q rfl (q_move rfl) ?_
  refine KO.q rfl (q_nilCheck rfl) ?_
  refine KO.q rfl (q_field fo_29_0 rfl) ?_
  refine KO.q rfl (q_load1D ck_27 rfl) ?_
  refine KO.q rfl (q_len Tryz.underlying27 rfl) ?_
  refine KO.q rfl (q_lt rfl rfl) ?_
  refine KO.done ?_
  refine K.dcond (s := 19) rfl (fun g19 => ?_) (fun g19 => ?_)
  · obtain ⟨e, he⟩ : ∃ e, es[i]? = some e := ⟨_, List.getElem?_eq_getElem (by omega)⟩
    have hez := hz e (List.mem_of_getElem? he)
    have hws := whoN_succ he
    rw [← hA] at hws
    refine K.ex (fun w h => tr_openL he (h.pick (by repeat (first | exact Pick.here | apply Pick.there)))) (fun a => ?_)
    obtain ⟨⟨bb, hbb⟩, ⟨⟨q1, c1⟩, ⟨q2, c2⟩⟩⟩ := a
    obtain ⟨nm', pp, k⟩ := e
    have hbb : pp = some bb := hbb
    subst hbb
    have hez : k.size ≤ 1000000 := hez
    have hez2 : k.hold.length + k.line.length ≤ 1000000 := hez
    have hws : whoN (es.take (i + 1)) = insL k.line A := hws
    refine K.skip <| K.seq <| K.block <| K.seq ?_
    refine K.region ?_
    refine KO.q rfl (q_assign rfl) ?_
    refine KO.done ?_
    refine K.block ?_
    refine K.rounds2 (ι := { s : Nat × Option Addr × Nat // s.1 ≤ k.line.length }) (fun s => [(5, .int .i64 s.1.1), (4, .int .i64 i), (3, .slice s.1.2.1 (insL (k.line.take s.1.1) A).length s.1.2.2), (0, .pointer (some ⟨t, 0, none⟩))]) (fun s => RowO (Kd.int .i64) 3 s.1.2.1 s.1.2.2 (insL (k.line.take s.1.1) A) :: (RkL bb q1 c1 q2 c2 k ++ [AllO RkE (es.eraseIdx i)] ++ TrE t q c es) ++ L) (fun s => k.line.length - s.1.1) ⟨(0, pw, cw), Nat.zero_le _⟩ (by repeat (first | exact Env.sub_nil _ | refine Env.sub_cons rfl ?_)) (fun w h => h.fitD) (fun s ih2 => ?_)
    obtain ⟨⟨j, px, cx⟩, hj⟩ := s
    dsimp only at hj ⊢
    have hil := insL_take_len k.line j A
    obtain ⟨B, hB⟩ : ∃ B, B = insL (k.line.take j) A := ⟨_, rfl⟩
    rw [← hB] at hil ⊢
    refine K.seq <| K.seq ?_
    refine K.region ?_
    refine KO.q rfl (q_move rfl) ?_
    refine KO.q rfl (q_move rfl) ?_
    refine KO.q rfl (q_nilCheck rfl) ?_
    refine KO.q rfl (q_field fo_29_0 rfl) ?_
    refine KO.q rfl (q_load1D ck_27 rfl) ?_
    refine KO.q rfl (q_move rfl) ?_
    refine KO.q rfl (q_ix (xs := es) i se_27 rfl rfl rfl isO (by repeat (first | exact List.Mem.head _ | apply List.Mem.tail)) rfl (by omega)) ?_
    refine KO.q rfl (q_fieldE fo_79_1 rfl) ?_
    refine KO.q rfl (q_ldE (xs := es) ck_77 rfl isO (by repeat (first | exact List.Mem.head _ | apply List.Mem.tail)) he rfl) ?_
    refine KO.q rfl (q_nilCheck rfl) ?_
    refine KO.q rfl (q_field fo_76_1 rfl) ?_
    refine KO.q rfl (q_load1D ck_74 rfl) ?_
    refine KO.q rfl (q_len Tryz.underlying74 rfl) ?_
    refine KO.q rfl (q_lt rfl rfl) ?_
    refine KO.done ?_
    refine K.dcond (s := 35) rfl (fun g35 => ?_) (fun g35 => ?_)
    · obtain ⟨x, hx⟩ : ∃ x, k.line[j]? = some x := ⟨_, List.getElem?_eq_getElem (by omega)⟩
      have hbs := insL_succ A hx
      rw [← hB] at hbs
      refine K.skip <| K.seq <| K.block ?_
      refine K.region ?_
      refine KO.q rfl (q_move rfl) ?_
      refine KO.q rfl (q_move rfl) ?_
      refine KO.q rfl (q_nilCheck rfl) ?_
      refine KO.q rfl (q_field fo_29_0 rfl) ?_
      refine KO.q rfl (q_load1D ck_27 rfl) ?_
      refine KO.q rfl (q_move rfl) ?_
      refine KO.q rfl (q_ix (xs := es) i se_27 rfl rfl rfl isO (by repeat (first | exact List.Mem.head _ | apply List.Mem.tail)) rfl (by omega)) ?_
      refine KO.q rfl (q_fieldE fo_79_1 rfl) ?_
      refine KO.q rfl (q_ldE (xs := es) ck_77 rfl isO (by repeat (first | exact List.Mem.head _ | apply List.Mem.tail)) he rfl) ?_
      refine KO.q rfl (q_nilCheck rfl) ?_
      refine KO.q rfl (q_field fo_76_1 rfl) ?_
      refine KO.q rfl (q_load1D ck_74 rfl) ?_
      refine KO.q rfl (q_move rfl) ?_
      refine KO.q rfl (q_ix (xs := k.line) j se_74 rfl rfl rfl isO (by repeat (first | exact List.Mem.head _ | apply List.Mem.tail)) rfl (by omega)) ?_
      refine KO.q rfl (q_fieldE fo_59_0 rfl) ?_
      refine KO.q rfl (q_ldE (xs := k.line) (enc := One.lineC) ck_3 rfl isO (by repeat (first | exact List.Mem.head _ | apply List.Mem.tail)) hx rfl) ?_
      refine KO.loud rfl (OpL.callD rfl (h := rf_insert px cx B x.who (by omega))) ?_
      rintro _ _ ⟨_, ⟨pn, dn, rfl, rfl⟩, rfl⟩
      refine KO.q rfl (q_assign rfl) ?_
      refine KO.done ?_
      refine K.inBlock ?_
      refine K.region ?_
      refine KO.q rfl (q_move rfl) ?_
      refine KO.q rfl (q_add rfl rfl (by first | omega | (simp; omega)) (by first | omega | (simp; omega))) ?_
      refine KO.q rfl (q_assign rfl) ?_
      refine KO.done ?_
      exact K.weak (E' := [(5, .int .i64 ((j + 1 : Nat) : Int)), (4, .int .i64 i), (3, .slice pn (insL (k.line.take (j + 1)) A).length dn), (0, .pointer (some ⟨t, 0, none⟩))]) (by rw [hbs]; exact (by repeat (first | exact Env.sub_nil _ | refine Env.sub_cons rfl ?_))) (fun w h => by rw [hbs]; exact h.fitD) (ih2 ⟨(j + 1, pn, dn), by show j + 1 ≤ _; omega⟩ (by show k.line.length - (j + 1) < k.line.length - j; omega))
    · obtain rfl : j = k.line.length := by omega
      have hBA : whoN (es.take (i + 1)) = B := by rw [hws, hB, List.take_length]
      clear ih2
      refine K.st (fun w h => tr_backL he rfl (h.fit (M := RkL bb q1 c1 q2 c2 k ++ [AllO RkE (es.eraseIdx i), RowO (Kd.int .i64) 3 px cx B, pv t 29 [.slice q es.length c], RowO Kd.e 79 q c es]) (by repeat (first | exact Give.nil | (apply Give.perI; (repeat (first | exact List.Mem.head _ | apply List.Mem.tail))) | (apply Give.own; (repeat (first | exact Pick.here | apply Pick.there))))) (by repeat (first | exact Drop.refl | apply Drop.skip)))) ?_
      refine K.exit rfl ?_
      refine K.inBlock ?_
      refine K.region ?_
      refine KO.q rfl (q_move rfl) ?_
      refine KO.q rfl (q_add rfl rfl (by first | omega | (simp; omega)) (by first | omega | (simp; omega))) ?_
      refine KO.q rfl (q_assign rfl) ?_
      refine KO.done ?_
      exact K.weak (E' := [(4, .int .i64 ((i + 1 : Nat) : Int)), (3, .slice px (whoN (es.take (i + 1))).length cx), (0, .pointer (some ⟨t, 0, none⟩))]) (by rw [hBA]; exact (by repeat (first | exact Env.sub_nil _ | refine Env.sub_cons rfl ?_))) (fun w h => by rw [hBA]; exact h.fitD) (ih ⟨(i + 1, px, cx), by show i + 1 ≤ _; omega⟩ (by show es.length - (i + 1) < es.length - i; omega))
  · obtain rfl : i = es.length := by omega
    rw [List.take_length] at hA
    clear ih
    have hed : edN es = A.flatMap (edW es) := by rw [hA]; rfl
    refine K.exit rfl ?_
    refine K.seq ?_
    refine K.region ?_
    refine KO.q rfl (q_assign rfl) ?_
    refine KO.done ?_
    refine K.seq <| K.seq ?_
    refine K.region ?_
    refine KO.q rfl (q_assign rfl) ?_
    refine KO.done ?_
    refine K.block ?_
    refine K.rounds2 (ι := { s : Nat × Option Addr × Nat // s.1 ≤ A.length }) (fun s => [(7, .int .i64 s.1.1), (6, .slice s.1.2.1 ((A.take s.1.1).flatMap (edW es)).length s.1.2.2), (3, .slice pw A.length cw), (0, .pointer (some ⟨t, 0, none⟩))]) (fun s => RowO Kd.p2 84 s.1.2.1 s.1.2.2 ((A.take s.1.1).flatMap (edW es)) :: RowO (Kd.int .i64) 3 pw cw A :: (TrE t q c es ++ [AllO RkE es]) ++ L) (fun s => A.length - s.1.1) ⟨(0, none, 0), Nat.zero_le _⟩ (by repeat (first | exact Env.sub_nil _ | refine Env.sub_cons rfl ?_)) (fun w h => rowO_nil (k := Kd.p2) 84 (h.fit (M := RowO (Kd.int .i64) 3 pw cw A :: (TrE t q c es ++ [AllO RkE es])) (by repeat (first | exact Give.nil | (apply Give.perI; (repeat (first | exact List.Mem.head _ | apply List.Mem.tail))) | (apply Give.own; (repeat (first | exact Pick.here | apply Pick.there))))) (by repeat (first | exact Drop.refl | apply Drop.skip)))) (fun s ih => ?_)
    obtain ⟨⟨x, po, co⟩, hx⟩ := s
    dsimp only at hx ⊢
    have hol : ((A.take x).flatMap (edW es)).length ≤ 100000000 := by
      have h1 := flatMap_len_le (f := edW es) (c := 10000) (l := A.take x) (fun w _ => Nat.le_trans (edW_len es w) hS)
      rw [List.length_take] at h1
      have h2 : min x A.length * 10000 ≤ 10000 * 10000 := Nat.mul_le_mul_right _ (by omega)
      omega
    obtain ⟨O, hO⟩ : ∃ O, O = (A.take x).flatMap (edW es) := ⟨_, rfl⟩
    rw [← hO] at hol ⊢
    refine K.seq <| K.seq ?_
    refine K.region ?_
    refine KO.q rfl (q_move rfl) ?_
    refine KO.q rfl (q_move rfl) ?_
    refine KO.q rfl (q_len Tryz.underlying39 rfl) ?_
    refine KO.q rfl (q_lt rfl rfl) ?_
    refine KO.done ?_
    refine K.dcond (s := 58) rfl (fun g58 => ?_) (fun g58 => ?_)
    · obtain ⟨wi, hwi⟩ : ∃ wi, A[x]? = some wi := ⟨_, List.getElem?_eq_getElem (by omega)⟩
      have hos := flatMap_take_succ (edW es) hwi
      rw [← hO] at hos
      refine K.skip <| K.seq <| K.block <| K.seq ?_
      refine K.region ?_
      refine KO.q rfl (q_assign rfl) ?_
      refine KO.done ?_
      refine K.seq <| K.seq ?_
      refine K.region ?_
      refine KO.q rfl (q_assign rfl) ?_
      refine KO.done ?_
      refine K.block ?_
      refine K.rounds2 (ι := { s : Nat × Option Addr × Nat // s.1 ≤ es.length }) (fun s => [(9, .int .i64 s.1.1), (8, .slice s.1.2.1 (toN (es.take s.1.1) wi).length s.1.2.2), (7, .int .i64 x), (6, .slice po O.length co), (3, .slice pw A.length cw), (0, .pointer (some ⟨t, 0, none⟩))]) (fun s => RowO (Kd.int .i64) 3 s.1.2.1 s.1.2.2 (toN (es.take s.1.1) wi) :: RowO Kd.p2 84 po co O :: RowO (Kd.int .i64) 3 pw cw A :: (TrE t q c es ++ [AllO RkE es]) ++ L) (fun s => es.length - s.1.1) ⟨(0, none, 0), Nat.zero_le _⟩ (by repeat (first | exact Env.sub_nil _ | refine Env.sub_cons rfl ?_)) (fun w h => rowO_nil (k := Kd.int .i64) 3 (h.fit (M := RowO Kd.p2 84 po co O :: RowO (Kd.int .i64) 3 pw cw A :: (TrE t q c es ++ [AllO RkE es])) (by repeat (first | exact Give.nil | (apply Give.perI; (repeat (first | exact List.Mem.head _ | apply List.Mem.tail))) | (apply Give.own; (repeat (first | exact Pick.here | apply Pick.there))))) (by repeat (first | exact Drop.refl | apply Drop.skip)))) (fun s ih2 => ?_)
      obtain ⟨⟨i, pt, ct⟩, hi⟩ := s
      dsimp only at hi ⊢
      have htl := toN_len (es.take i) wi
      have hsi := szN_le es i
      obtain ⟨DD, hD⟩ : ∃ DD, DD = toN (es.take i) wi := ⟨_, rfl⟩
      rw [← hD] at htl ⊢
      refine K.seq <| K.seq ?_
      refine K.region ?_
      refine KO.q rfl (q_move rfl) ?_
      refine KO.q rfl (q_move rfl) ?_
      refine KO.q rfl (q_nilCheck rfl) ?_
      refine KO.q rfl (q_field fo_29_0 rfl) ?_
      refine KO.q rfl (q_load1D ck_27 rfl) ?_
      refine KO.q rfl (q_len Tryz.underlying27 rfl) ?_
      refine KO.q rfl (q_lt rfl rfl) ?_
      refine KO.done ?_
      refine K.dcond (s := 67) rfl (fun g67 => ?_) (fun g67 => ?_)
      · obtain ⟨e, he⟩ : ∃ e, es[i]? = some e := ⟨_, List.getElem?_eq_getElem (by omega)⟩
        have hez := hz e (List.mem_of_getElem? he)
        have hts := toN_succ wi he
        rw [← hD] at hts
        refine K.ex (fun w h => tr_open he (h.pick (by repeat (first | exact Pick.here | apply Pick.there)))) (fun bb => ?_)
        obtain ⟨bb, hbb⟩ := bb
        obtain ⟨nm', pp, k⟩ := e
        have hbb : pp = some bb := hbb
        subst hbb
        have hez : k.size ≤ 1000000 := hez
        have hts : toN (es.take (i + 1)) wi = (k.waits wi).foldl insI DD := hts
        have hwk := k.waits_len wi
        have hez2 : k.hold.length + k.line.length ≤ 1000000 := hez
        refine K.skip <| K.seq <| K.block <| K.seq ?_
        refine K.drawS [pv t 29 [.slice q es.length c], RowO Kd.e 79 q c es, RowO (Kd.int .i64) 3 pw cw A] (fun _ h => h.subD) mixed ?_
        refine D.q 0 rfl (by kernel_rfl) (by kernel_rfl) (q_move rfl) (fun _ h => h.subD) ?_
        refine D.q 1 rfl (by kernel_rfl) (by kernel_rfl) (q_nilCheck rfl) (fun _ h => h.subD) ?_
        refine D.q 2 rfl (by kernel_rfl) (by kernel_rfl) (q_field fo_29_0 rfl) (fun _ h => h.subD) ?_
        refine D.q 3 rfl (by kernel_rfl) (by kernel_rfl) (q_load1D ck_27 rfl) (fun _ h => h.subD) ?_
        refine D.q 4 rfl (by kernel_rfl) (by kernel_rfl) (q_move rfl) (fun _ h => h.subD) ?_
        refine D.q 5 rfl (by kernel_rfl) (by kernel_rfl) (q_ix (xs := es) i se_27 rfl rfl rfl isO (by repeat (first | exact List.Mem.head _ | apply List.Mem.tail)) rfl (by omega)) (fun _ h => h.subD) ?_
        refine D.q 6 rfl (by kernel_rfl) (by kernel_rfl) (q_fieldE fo_79_1 rfl) (fun _ h => h.subD) ?_
        refine D.q 7 rfl (by kernel_rfl) (by kernel_rfl) (q_ldE (xs := es) ck_77 rfl isO (by repeat (first | exact List.Mem.head _ | apply List.Mem.tail)) he rfl) (fun _ h => h.subD) ?_
        refine D.q 8 rfl (by kernel_rfl) (by kernel_rfl) (q_move rfl) (fun _ h => h.subD) ?_
        refine D.q 9 rfl (by kernel_rfl) (by kernel_rfl) (q_move rfl) (fun _ h => h.subD) ?_
        refine D.q 10 rfl (by kernel_rfl) (by kernel_rfl) (q_ix (xs := A) x se_39 rfl rfl rfl isO (by repeat (first | exact List.Mem.head _ | apply List.Mem.tail)) rfl (by omega)) (fun _ h => h.subD) ?_
        refine D.q 11 rfl (by kernel_rfl) (by kernel_rfl) (q_ldE (xs := A) ck_3 rfl isO (by repeat (first | exact List.Mem.head _ | apply List.Mem.tail)) hwi rfl) (fun _ h => h.subD) ?_
        refine D.all (rs := [12]) (by kernel_rfl) rfl (DAll.cons rfl (by kernel_rfl) (OpL.callD rfl (h := rf_WaitsX bb k wi hez)) (.inr (by rintro _ _ ⟨_, ⟨pl, cl, rfl, rfl⟩, rfl⟩ w h; exact h.subD)) rfl ?_ DAll.nil)
        rintro _ _ ⟨_, ⟨pl, cl, rfl, rfl⟩, rfl⟩
        refine D.q 13 rfl (by kernel_rfl) (by kernel_rfl) (q_assign rfl) (fun _ h => h.subD) ?_
        refine D.done (by kernel_rfl) ?_
        refine K.st (fun w h => tr_back he rfl (h.fit (M := [RkX bb k, AllO RkE (es.eraseIdx i), RowO (Kd.int .i64) 3 pl cl (k.waits wi), RowO (Kd.int .i64) 3 pt ct DD, RowO Kd.p2 84 po co O, RowO (Kd.int .i64) 3 pw cw A, pv t 29 [.slice q es.length c], RowO Kd.e 79 q c es]) (by repeat (first | exact Give.nil | (apply Give.perI; (repeat (first | exact List.Mem.head _ | apply List.Mem.tail))) | (apply Give.own; (repeat (first | exact Pick.here | apply Pick.there))))) (by repeat (first | exact Drop.refl | apply Drop.skip)))) ?_
        refine K.seq ?_
        refine K.region ?_
        refine KO.q rfl (q_assign rfl) ?_
        refine KO.done ?_
        refine K.block ?_
        refine K.rounds2 (ι := { s : Nat × Option Addr × Nat // s.1 ≤ (k.waits wi).length }) (fun s => [(11, .int .i64 s.1.1), (10, .slice pl (k.waits wi).length cl), (9, .int .i64 i), (8, .slice s.1.2.1 (((k.waits wi).take s.1.1).foldl insI DD).length s.1.2.2), (7, .int .i64 x), (6, .slice po O.length co), (3, .slice pw A.length cw), (0, .pointer (some ⟨t, 0, none⟩))]) (fun s => RowO (Kd.int .i64) 3 s.1.2.1 s.1.2.2 (((k.waits wi).take s.1.1).foldl insI DD) :: RowO (Kd.int .i64) 3 pl cl (k.waits wi) :: RowO Kd.p2 84 po co O :: RowO (Kd.int .i64) 3 pw cw A :: (TrE t q c es ++ [AllO RkE es]) ++ L) (fun s => (k.waits wi).length - s.1.1) ⟨(0, pt, ct), Nat.zero_le _⟩ (by repeat (first | exact Env.sub_nil _ | refine Env.sub_cons rfl ?_)) (fun w h => h.fitD) (fun s ih3 => ?_)
        obtain ⟨⟨j, px, cx⟩, hj⟩ := s
        dsimp only at hj ⊢
        have hfl := foldI_take_len (k.waits wi) j DD
        obtain ⟨B, hB⟩ : ∃ B, B = ((k.waits wi).take j).foldl insI DD := ⟨_, rfl⟩
        rw [← hB] at hfl ⊢
        refine K.seq <| K.seq ?_
        refine K.region ?_
        refine KO.q rfl (q_move rfl) ?_
        refine KO.q rfl (q_move rfl) ?_
        refine KO.q rfl (q_len Tryz.underlying39 rfl) ?_
        refine KO.q rfl (q_lt rfl rfl) ?_
        refine KO.done ?_
        refine K.dcond (s := 86) rfl (fun g86 => ?_) (fun g86 => ?_)
        · obtain ⟨v, hv⟩ : ∃ v, (k.waits wi)[j]? = some v := ⟨_, List.getElem?_eq_getElem (by omega)⟩
          have hbs := foldl_take_succ insI DD hv
          rw [← hB] at hbs
          refine K.skip <| K.seq <| K.block ?_
          refine K.region ?_
          refine KO.q rfl (q_move rfl) ?_
          refine KO.q rfl (q_move rfl) ?_
          refine KO.q rfl (q_move rfl) ?_
          refine KO.q rfl (q_ix (xs := k.waits wi) j se_39 rfl rfl rfl isO (by repeat (first | exact List.Mem.head _ | apply List.Mem.tail)) rfl (by omega)) ?_
          refine KO.q rfl (q_ldE (xs := k.waits wi) ck_3 rfl isO (by repeat (first | exact List.Mem.head _ | apply List.Mem.tail)) hv rfl) ?_
          refine KO.loud rfl (OpL.callD rfl (h := rf_insert px cx B v (by omega))) ?_
          rintro _ _ ⟨_, ⟨pn, dn, rfl, rfl⟩, rfl⟩
          refine KO.q rfl (q_assign rfl) ?_
          refine KO.done ?_
          refine K.inBlock ?_
          refine K.region ?_
          refine KO.q rfl (q_move rfl) ?_
          refine KO.q rfl (q_add rfl rfl (by first | omega | (simp; omega)) (by first | omega | (simp; omega))) ?_
          refine KO.q rfl (q_assign rfl) ?_
          refine KO.done ?_
          exact K.weak (E' := [(11, .int .i64 ((j + 1 : Nat) : Int)), (10, .slice pl (k.waits wi).length cl), (9, .int .i64 i), (8, .slice pn (((k.waits wi).take (j + 1)).foldl insI DD).length dn), (7, .int .i64 x), (6, .slice po O.length co), (3, .slice pw A.length cw), (0, .pointer (some ⟨t, 0, none⟩))]) (by rw [hbs]; exact (by repeat (first | exact Env.sub_nil _ | refine Env.sub_cons rfl ?_))) (fun w h => by rw [hbs]; exact h.fitD) (ih3 ⟨(j + 1, pn, dn), by show j + 1 ≤ _; omega⟩ (by show (k.waits wi).length - (j + 1) < (k.waits wi).length - j; omega))
        · obtain rfl : j = (k.waits wi).length := by omega
          have hBD : toN (es.take (i + 1)) wi = B := by rw [hts, hB, List.take_length]
          clear ih3
          refine K.exit rfl ?_
          refine K.inBlock ?_
          refine K.region ?_
          refine KO.q rfl (q_move rfl) ?_
          refine KO.q rfl (q_add rfl rfl (by first | omega | (simp; omega)) (by first | omega | (simp; omega))) ?_
          refine KO.q rfl (q_assign rfl) ?_
          refine KO.done ?_
          exact K.weak (E' := [(9, .int .i64 ((i + 1 : Nat) : Int)), (8, .slice px (toN (es.take (i + 1)) wi).length cx), (7, .int .i64 x), (6, .slice po O.length co), (3, .slice pw A.length cw), (0, .pointer (some ⟨t, 0, none⟩))]) (by rw [hBD]; exact (by repeat (first | exact Env.sub_nil _ | refine Env.sub_cons rfl ?_))) (fun w h => by rw [hBD]; exact h.fitD) (ih2 ⟨(i + 1, px, cx), by show i + 1 ≤ _; omega⟩ (by show es.length - (i + 1) < es.length - i; omega))
      · obtain rfl : i = es.length := by omega
        rw [List.take_length] at hD
        clear ih2
        have hew : edW es wi = prsW wi DD := by rw [hD]; rfl
        rw [hew] at hos
        refine K.exit rfl ?_
        refine K.seq ?_
        refine K.region ?_
        refine KO.q rfl (q_assign rfl) ?_
        refine KO.done ?_
        refine K.block ?_
        refine K.rounds2 (ι := { s : Nat × Option Addr × Nat // s.1 ≤ DD.length }) (fun s => [(12, .int .i64 s.1.1), (8, .slice pt DD.length ct), (7, .int .i64 x), (6, .slice s.1.2.1 (O ++ prsW wi (DD.take s.1.1)).length s.1.2.2), (3, .slice pw A.length cw), (0, .pointer (some ⟨t, 0, none⟩))]) (fun s => RowO Kd.p2 84 s.1.2.1 s.1.2.2 (O ++ prsW wi (DD.take s.1.1)) :: RowO (Kd.int .i64) 3 pt ct DD :: RowO (Kd.int .i64) 3 pw cw A :: (TrE t q c es ++ [AllO RkE es]) ++ L) (fun s => DD.length - s.1.1) ⟨(0, po, co), Nat.zero_le _⟩ (by rw [show O ++ prsW wi (DD.take 0) = O from List.append_nil _]; exact (by repeat (first | exact Env.sub_nil _ | refine Env.sub_cons rfl ?_))) (fun w h => by rw [show O ++ prsW wi (DD.take 0) = O from List.append_nil _]; exact h.fitD) (fun s ih2 => ?_)
        obtain ⟨⟨j, px, cx⟩, hj⟩ := s
        dsimp only at hj ⊢
        have hpw := prsW_le wi DD j
        have hpd : (prsW wi DD).length = DD.length := List.length_map _
        obtain ⟨B, hB⟩ : ∃ B, B = O ++ prsW wi (DD.take j) := ⟨_, rfl⟩
        have hBl : B.length ≤ 1000000000 := by rw [hB, List.length_append]; omega
        rw [← hB]
        refine K.seq <| K.seq ?_
        refine K.region ?_
        refine KO.q rfl (q_move rfl) ?_
        refine KO.q rfl (q_move rfl) ?_
        refine KO.q rfl (q_len Tryz.underlying39 rfl) ?_
        refine KO.q rfl (q_lt rfl rfl) ?_
        refine KO.done ?_
        refine K.dcond (s := 98) rfl (fun g98 => ?_) (fun g98 => ?_)
        · obtain ⟨v, hv⟩ : ∃ v, DD[j]? = some v := ⟨_, List.getElem?_eq_getElem (by omega)⟩
          have hzz : O ++ prsW wi (DD.take (j + 1)) = B ++ [⟨wi, v⟩] := by rw [prsW_succ wi hv, ← List.append_assoc, ← hB]
          refine K.skip <| K.seq <| K.block ?_
          refine K.drawS [RowO (Kd.int .i64) 3 pt ct DD, RowO (Kd.int .i64) 3 pw cw A] (fun _ h => h.subD) mixed ?_
          refine D.q 0 rfl (by kernel_rfl) (by kernel_rfl) (q_move rfl) (fun _ h => h.subD) ?_
          refine D.q 1 rfl (by kernel_rfl) (by kernel_rfl) (q_move rfl) (fun _ h => h.subD) ?_
          refine D.q 2 rfl (by kernel_rfl) (by kernel_rfl) (q_move rfl) (fun _ h => h.subD) ?_
          refine D.q 3 rfl (by kernel_rfl) (by kernel_rfl) (q_ix (xs := A) x se_39 rfl rfl rfl isO (by repeat (first | exact List.Mem.head _ | apply List.Mem.tail)) rfl (by omega)) (fun _ h => h.subD) ?_
          refine D.q 4 rfl (by kernel_rfl) (by kernel_rfl) (q_ldE (xs := A) ck_3 rfl isO (by repeat (first | exact List.Mem.head _ | apply List.Mem.tail)) hwi rfl) (fun _ h => h.subD) ?_
          refine D.q 5 rfl (by kernel_rfl) (by kernel_rfl) (q_move rfl) (fun _ h => h.subD) ?_
          refine D.q 6 rfl (by kernel_rfl) (by kernel_rfl) (q_move rfl) (fun _ h => h.subD) ?_
          refine D.q 7 rfl (by kernel_rfl) (by kernel_rfl) (q_ix (xs := DD) j se_39 rfl rfl rfl isO (by repeat (first | exact List.Mem.head _ | apply List.Mem.tail)) rfl (by omega)) (fun _ h => h.subD) ?_
          refine D.q 8 rfl (by kernel_rfl) (by kernel_rfl) (q_ldE (xs := DD) ck_3 rfl isO (by repeat (first | exact List.Mem.head _ | apply List.Mem.tail)) hv rfl) (fun _ h => h.subD) ?_
          refine D.q 9 rfl (by kernel_rfl) (by kernel_rfl) (q_as (q_buildA ar_p2 (show zeroOf Tryz.prog 84 = some [(.int .i64 0), (.int .i64 0)] by kernel_rfl) rfl (by repeat (first | exact Fill.nil | (apply Fill.cons; rfl; rfl; rfl) | exact SetN.nil | apply SetN.cons | exact SetAt.here | apply SetAt.there))) (show _ = P2.cells ⟨wi, v⟩ from rfl)) (fun _ h => h.subD) ?_
          refine D.all (rs := [10]) (by kernel_rfl) rfl (DAll.cons rfl (by kernel_rfl) (l_slice1 sz_46_1 rfl rfl ⟨rfl, rfl, rfl⟩) (.inr (by rintro _ _ ⟨b111, rfl, rfl⟩ w h; exact h.subD)) rfl ?_ DAll.nil)
          rintro _ _ ⟨b111, rfl, rfl⟩
          refine D.all (rs := [11]) (by kernel_rfl) rfl (DAll.cons rfl (by kernel_rfl) (l_append Kd.p2 (ys := [⟨wi, v⟩]) se_46 Tryz.underlying46 ⟨_, ze_84, rfl⟩ (by decide) rfl rfl (by repeat (first | exact Pick.here | apply Pick.there)) isP (by repeat (first | exact List.Mem.head _ | apply List.Mem.tail)) rfl rfl (by show (2 * (B.length + 1) + 768) * 16 ≤ _; omega)) (.inr (by rintro _ _ ⟨pn, dn, rfl, rfl⟩ w h; exact h.subD)) rfl ?_ DAll.nil)
          rintro _ _ ⟨pn, dn, rfl, rfl⟩
          refine D.q 12 rfl (by kernel_rfl) (by kernel_rfl) (q_assign rfl) (fun _ h => h.subD) ?_
          refine D.done (by kernel_rfl) ?_
          refine K.inBlock ?_
          refine K.region ?_
          refine KO.q rfl (q_move rfl) ?_
          refine KO.q rfl (q_add rfl rfl (by first | omega | (simp; omega)) (by first | omega | (simp; omega))) ?_
          refine KO.q rfl (q_assign rfl) ?_
          refine KO.done ?_
          exact K.weak (E' := [(12, .int .i64 ((j + 1 : Nat) : Int)), (8, .slice pt DD.length ct), (7, .int .i64 x), (6, .slice pn (O ++ prsW wi (DD.take (j + 1))).length dn), (3, .slice pw A.length cw), (0, .pointer (some ⟨t, 0, none⟩))]) (by rw [hzz]; exact (by repeat (first | exact Env.sub_nil _ | refine Env.sub_cons rfl ?_))) (fun w h => by rw [hzz]; exact h.fitD) (ih2 ⟨(j + 1, pn, dn), by show j + 1 ≤ _; omega⟩ (by show DD.length - (j + 1) < DD.length - j; omega))
        · obtain rfl : j = DD.length := by omega
          have hBO : (A.take (x + 1)).flatMap (edW es) = B := by rw [hos, hB, List.take_length]
          clear ih2
          refine K.exit rfl ?_
          refine K.inBlock ?_
          refine K.region ?_
          refine KO.q rfl (q_move rfl) ?_
          refine KO.q rfl (q_add rfl rfl (by first | omega | (simp; omega)) (by first | omega | (simp; omega))) ?_
          refine KO.q rfl (q_assign rfl) ?_
          refine KO.done ?_
          exact K.weak (E' := [(7, .int .i64 ((x + 1 : Nat) : Int)), (6, .slice px ((A.take (x + 1)).flatMap (edW es)).length cx), (3, .slice pw A.length cw), (0, .pointer (some ⟨t, 0, none⟩))]) (by rw [hBO]; exact (by repeat (first | exact Env.sub_nil _ | refine Env.sub_cons rfl ?_))) (fun w h => by rw [hBO]; exact h.fitD) (ih ⟨(x + 1, px, cx), by show x + 1 ≤ _; omega⟩ (by show A.length - (x + 1) < A.length - x; omega))
    · obtain rfl : x = A.length := by omega
      have hfin : edN es = O := by rw [hed, hO, List.take_length]
      clear ih
      refine K.exit rfl ?_
      refine K.seq ?_
      refine K.region ?_
      refine KO.q rfl (q_move rfl) ?_
      refine KO.q rfl (q_assign rfl) ?_
      refine KO.done ?_
      refine K.ret (fn := Tryz.f20) Tryz.func20 (fun a w hk hs => res1 Tryz.results20 hk rfl) (fun w hs => ?_)
      rw [hfin]
      exact ⟨_, RowO Kd.p2 84 po co O :: (TrE t q c es ++ [AllO RkE es]), rfl, ⟨po, co, rfl, rfl⟩, hs.fitD⟩
end Go.Proofs.YtcpkcjabmookmaaGreat.L
