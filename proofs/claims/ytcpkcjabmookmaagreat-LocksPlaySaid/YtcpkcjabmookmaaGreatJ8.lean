/- Walks: the locks' table: who waits for whom. -/
import Derived.Test.YtcpkcjabmookmaaGreatJ6
import Derived.Test.YtcpkcjabmookmaaGreatS4
namespace Go.Proofs.YtcpkcjabmookmaaGreat.L
open Go Go.Proofs
attribute [local irreducible] pv fv pt fz RowF RowO rowP old pure_ elA
set_option maxRecDepth 100000
set_option linter.unusedSimpArgs false
set_option linter.unusedVariables false

def prsW (who : Int) (l : List Int) : List P2 := l.map fun o => ⟨who, o⟩
def prsH (k : Lk) (l : List Hold) : List P2 := l.flatMap fun h => prsW h.who (k.waits h.who)
def prsE (k : Lk) : List P2 := prsH k k.holds
def prsT (T : List Ent) : List P2 := T.flatMap fun e => prsE e.k
/-- Who waits for whom. -/
def edgesT (T : List Ent) : List P2 := compactL ((prsT T).mergeSort leP2)
theorem flatMap_take_succ {α β : Type} (f : α → List β) {l : List α} {i : Nat} {x : α} (h : l[i]? = some x) : (l.take (i + 1)).flatMap f = (l.take i).flatMap f ++ f x := by
  rw [List.take_add_one, h]; simp
theorem flatMap_take_le {α β : Type} (f : α → List β) (l : List α) (i : Nat) : ((l.take i).flatMap f).length ≤ (l.flatMap f).length := by
  have h : (l.flatMap f).length = ((l.take i ++ l.drop i).flatMap f).length := by rw [List.take_append_drop]
  rw [h, List.flatMap_append, List.length_append]; omega
def prsN (es : List E) : List P2 := es.flatMap fun e => prsE e.k
theorem prsN_abs (es : List E) : prsN es = prsT (es.map E.abs) := by
  unfold prsN prsT; rw [List.flatMap_map]; rfl
theorem prsN_succ {es : List E} {i : Nat} {e : E} (h : es[i]? = some e) : prsN (es.take (i + 1)) = prsN (es.take i) ++ prsE e.k := flatMap_take_succ _ h
theorem prsH_succ (k : Lk) {l : List Hold} {i : Nat} {x : Hold} (h : l[i]? = some x) : prsH k (l.take (i + 1)) = prsH k (l.take i) ++ prsW x.who (k.waits x.who) := flatMap_take_succ _ h
theorem prsW_succ (who : Int) {l : List Int} {i : Nat} {x : Int} (h : l[i]? = some x) : prsW who (l.take (i + 1)) = prsW who (l.take i) ++ [⟨who, x⟩] := map_take_succ _ h
theorem prsW_le (who : Int) (l : List Int) (i : Nat) : (prsW who (l.take i)).length ≤ (prsW who l).length := by
  unfold prsW; rw [List.length_map, List.length_map, List.length_take]; omega
theorem holds_len (k : Lk) : k.holds.length ≤ k.size := by
  unfold Lk.holds Lk.size
  have := List.length_filter_le (fun w => !k.has w.who) k.line
  rw [List.length_append, List.length_map, List.length_map]
  omega
set_option maxHeartbeats 6400000 in
theorem tb_Edges (t : Nat) (n : Int) (q : Option Addr) (c : Nat) (es : List E) (hz : ∀ e ∈ es, e.k.size ≤ 1000000) (hl : es.length ≤ 1000000) (hp : (prsN es).length ≤ 1000000000) : Fn Tryz.prog 19 [.pointer (some ⟨t, 0, none⟩)].toArray (TbE t n q c es ++ [AllO LkE es]) (fun r post => ∃ po co, r = .slice po (edgesT (es.map E.abs)).length co ∧ post = RowO Kd.p2 84 po co (edgesT (es.map E.abs)) :: (TbE t n q c es ++ [AllO LkE es])) := by
  refine Fn.enter (N := 53) Tryz.func19 rfl Tryz.ntmps19 (by kernel_rfl) rfl (fun ρ L => ?_)
  refine K.seq ?_
  refine K.region ?_
  refine KO.q rfl (q_assign rfl) ?_
  refine KO.done ?_
  refine K.seq <| K.seq ?_
  refine K.region ?_
  refine KO.q rfl (q_move rfl) ?_
  refine KO.q rfl (q_pnil Tryz.underlying24 rfl rfl) ?_
  refine KO.done ?_
  refine K.no rfl ?_
  refine K.skip <| K.seq ?_
  refine K.region ?_
  refine KO.q rfl (q_assign rfl) ?_
  refine KO.done ?_
  refine K.seq <| K.seq ?_
  refine K.region ?_
  refine KO.q rfl (q_move rfl) ?_
  refine KO.q rfl (q_nilCheck rfl) ?_
  refine KO.q rfl (q_field fo_53_1 rfl) ?_
  refine KO.q rfl (q_load1D ck_51 rfl) ?_
  refine KO.q rfl (q_len Tryz.underlying51 rfl) ?_
  refine KO.q rfl (q_move rfl) ?_
  refine KO.done ?_
  refine K.block ?_
  refine K.rounds2 (ι := { s : Nat × Option Addr × Nat // s.1 ≤ es.length }) (fun s => [(17, .int .i64 s.1.1), (16, .int .i64 es.length), (15, .slice q es.length c), (3, .slice s.1.2.1 (prsN (es.take s.1.1)).length s.1.2.2)]) (fun s => RowO Kd.p2 84 s.1.2.1 s.1.2.2 (prsN (es.take s.1.1)) :: (TbE t n q c es ++ [AllO LkE es]) ++ L) (fun s => es.length - s.1.1) ⟨(0, none, 0), Nat.zero_le _⟩ (by repeat (first | exact Env.sub_nil _ | refine Env.sub_cons rfl ?_)) (fun w h => rowO_nil (k := Kd.p2) 84 (h.fit (M := TbE t n q c es ++ [AllO LkE es]) (by repeat (first | exact Give.nil | (apply Give.perI; (repeat (first | exact List.Mem.head _ | apply List.Mem.tail))) | (apply Give.own; (repeat (first | exact Pick.here | apply Pick.there))))) (by repeat (first | exact Drop.refl | apply Drop.skip)))) (fun s ih => ?_)
  obtain ⟨⟨i, po, co⟩, hi⟩ := s
  dsimp only at hi ⊢
  have hol := flatMap_take_le (fun e : E => prsE e.k) es i
  have hol : (prsN (es.take i)).length ≤ 1000000000 := Nat.le_trans hol hp
  refine K.seq ?_
  refine K.region ?_
  refine KO.q rfl (q_lt rfl rfl) ?_
  refine KO.done ?_
  refine K.seq ?_
  refine K.dcond (s := 18) rfl (fun g18 => ?_) (fun g18 => ?_)
  · obtain ⟨e, he⟩ : ∃ e, es[i]? = some e := ⟨_, List.getElem?_eq_getElem (by omega)⟩
    have hez := hz e (List.mem_of_getElem? he)
    have hpe : (prsN (es.take i)).length + (prsE e.k).length ≤ 1000000000 := by
      have h1 := prsN_succ he
      have h2 := flatMap_take_le (fun e : E => prsE e.k) es (i + 1)
      have h3 := congrArg List.length h1
      rw [List.length_append] at h3
      have h4 : (prsN (es.take (i + 1))).length ≤ 1000000000 := Nat.le_trans h2 hp
      omega
    have hsu := prsN_succ he
    refine K.skip <| K.seq <| K.block <| K.seq ?_
    refine K.region ?_
    refine KO.q rfl (q_ix (xs := es) i se_51 rfl rfl rfl isO (by repeat (first | exact List.Mem.head _ | apply List.Mem.tail)) rfl (by omega)) ?_
    refine KO.q rfl (q_ldEN (xs := es) ck_63 rfl isO (by repeat (first | exact List.Mem.head _ | apply List.Mem.tail)) he) ?_
    refine KO.loud rfl (l_alloc zo_63) ?_
    rintro _ _ ⟨b5, rfl, rfl⟩
    refine KO.loudN rfl (l_storeAll ck_63 rfl rfl ⟨rfl, rfl⟩ (e_one _) (by repeat (first | exact Pick.here | apply Pick.there))) ?_
    rintro _ _ ⟨rfl, rfl⟩
    refine KO.done ?_
    refine K.seq ?_
    refine K.ex (fun w h => tb_open he (h.pick (by repeat (first | exact Pick.here | apply Pick.there)))) (fun bb => ?_)
    obtain ⟨bb, hbb⟩ := bb
    obtain ⟨nm, pp, k⟩ := e
    have hbb : pp = some bb := hbb
    subst hbb
    have hez : k.size ≤ 1000000 := hez
    have hpe : (prsN (es.take i)).length + (prsE k).length ≤ 1000000000 := hpe
    have hsu : prsN (es.take (i + 1)) = prsN (es.take i) ++ prsE k := hsu
    have hhl : k.holds.length ≤ k.size := holds_len k
    refine K.region ?_
    refine KO.q rfl (q_field fo_63_1 rfl) ?_
    refine KO.q rfl (q_load1D ck_61 rfl) ?_
    refine KO.loud rfl (OpL.callD rfl (h := lk_HoldsX bb k hez)) ?_
    rintro _ _ ⟨_, ⟨ph, ch, rfl, rfl⟩, rfl⟩
    refine KO.q rfl (q_len Tryz.underlying74 rfl) ?_
    refine KO.q rfl (q_move rfl) ?_
    refine KO.done ?_
    refine K.block ?_
    obtain ⟨A, hA⟩ : ∃ A, A = prsN (es.take i) := ⟨_, rfl⟩
    rw [← hA] at hsu hpe hol ⊢
    refine K.rounds2 (ι := { s : Nat × Option Addr × Nat // s.1 ≤ k.holds.length }) (fun s => [(25, .int .i64 s.1.1), (24, .int .i64 k.holds.length), (23, .slice ph k.holds.length ch), (3, .slice s.1.2.1 (A ++ prsH k (k.holds.take s.1.1)).length s.1.2.2), (17, .int .i64 i), (16, .int .i64 es.length), (15, .slice q es.length c), (5, .pointer (some ⟨b5, 0, none⟩))]) (fun s => [RowO Kd.p2 84 s.1.2.1 s.1.2.2 (A ++ prsH k (k.holds.take s.1.1)), RowO Kd.hold 59 ph ch k.holds, LkX bb k, AllO LkE (es.eraseIdx i), pv t 53 [.int .i64 n, .slice q es.length c], RowO Kd.e 63 q c es, pv b5 63 (E.cells ⟨nm, some bb, k⟩)] ++ L) (fun s => k.holds.length - s.1.1) ⟨(0, po, co), Nat.zero_le _⟩ (by rw [List.take_zero, show prsH k [] = [] from rfl, List.append_nil]; exact (by repeat (first | exact Env.sub_nil _ | refine Env.sub_cons rfl ?_))) (fun w h => by rw [List.take_zero, show prsH k [] = [] from rfl, List.append_nil]; exact h.fitD) (fun s ih2 => ?_)
    obtain ⟨⟨j, po, co⟩, hj⟩ := s
    dsimp only at hj ⊢
    have hoh := flatMap_take_le (fun h : Hold => prsW h.who (k.waits h.who)) k.holds j
    have hoh : (prsH k (k.holds.take j)).length ≤ (prsE k).length := hoh
    refine K.seq ?_
    refine K.region ?_
    refine KO.q rfl (q_lt rfl rfl) ?_
    refine KO.done ?_
    refine K.seq ?_
    refine K.dcond (s := 26) rfl (fun g26 => ?_) (fun g26 => ?_)
    · obtain ⟨x, hx⟩ : ∃ x, k.holds[j]? = some x := ⟨_, List.getElem?_eq_getElem (by omega)⟩
      have hsh := prsH_succ k hx
      have hwl := k.waits_len x.who
      have hwl : (k.waits x.who).length ≤ k.size := hwl
      have hph : (prsH k (k.holds.take j)).length + (prsW x.who (k.waits x.who)).length ≤ (prsE k).length := by
        have h2 := flatMap_take_le (fun h : Hold => prsW h.who (k.waits h.who)) k.holds (j + 1)
        have h3 := congrArg List.length hsh
        rw [List.length_append] at h3
        have h4 : (prsH k (k.holds.take (j + 1))).length ≤ (prsE k).length := h2
        omega
      refine K.skip <| K.seq <| K.block <| K.seq ?_
      refine K.region ?_
      refine KO.q rfl (q_ix (xs := k.holds) j se_74 rfl rfl rfl isO (by repeat (first | exact List.Mem.head _ | apply List.Mem.tail)) rfl (by omega)) ?_
      refine KO.q rfl (q_ldEN (xs := k.holds) ck_59 rfl isO (by repeat (first | exact List.Mem.head _ | apply List.Mem.tail)) hx) ?_
      refine KO.loud rfl (l_alloc zo_59) ?_
      rintro _ _ ⟨b7, rfl, rfl⟩
      refine KO.loudN rfl (l_storeAll ck_59 rfl rfl ⟨rfl, rfl⟩ (hold_one _) (by repeat (first | exact Pick.here | apply Pick.there))) ?_
      rintro _ _ ⟨rfl, rfl⟩
      refine KO.done ?_
      refine K.seq ?_
      refine K.region ?_
      refine KO.q rfl (q_field fo_63_1 rfl) ?_
      refine KO.q rfl (q_load1D ck_61 rfl) ?_
      refine KO.q rfl (q_field fo_59_0 rfl) ?_
      refine KO.q rfl (q_load1D ck_3 rfl) ?_
      refine KO.loud rfl (OpL.callD rfl (h := lk_WaitsX bb k x.who hez)) ?_
      rintro _ _ ⟨_, ⟨pw, cw, rfl, rfl⟩, rfl⟩
      refine KO.q rfl (q_len Tryz.underlying39 rfl) ?_
      refine KO.q rfl (q_move rfl) ?_
      refine KO.done ?_
      refine K.block ?_
      obtain ⟨B, hB⟩ : ∃ B, B = A ++ prsH k (k.holds.take j) := ⟨_, rfl⟩
      rw [← hB]
      have hBl : B.length + (prsW x.who (k.waits x.who)).length ≤ 1000000000 := by rw [hB, List.length_append]; omega
      refine K.rounds2 (ι := { s : Nat × Option Addr × Nat // s.1 ≤ (k.waits x.who).length }) (fun s => [(35, .int .i64 s.1.1), (34, .int .i64 (k.waits x.who).length), (33, .slice pw (k.waits x.who).length cw), (3, .slice s.1.2.1 (B ++ prsW x.who ((k.waits x.who).take s.1.1)).length s.1.2.2), (7, .pointer (some ⟨b7, 0, none⟩)), (25, .int .i64 j), (24, .int .i64 k.holds.length), (23, .slice ph k.holds.length ch), (17, .int .i64 i), (16, .int .i64 es.length), (15, .slice q es.length c), (5, .pointer (some ⟨b5, 0, none⟩))]) (fun s => [RowO Kd.p2 84 s.1.2.1 s.1.2.2 (B ++ prsW x.who ((k.waits x.who).take s.1.1)), RowO (Kd.int .i64) 3 pw cw (k.waits x.who), pv b7 59 x.cells, RowO Kd.hold 59 ph ch k.holds, LkX bb k, AllO LkE (es.eraseIdx i), pv t 53 [.int .i64 n, .slice q es.length c], RowO Kd.e 63 q c es, pv b5 63 (E.cells ⟨nm, some bb, k⟩)] ++ L) (fun s => (k.waits x.who).length - s.1.1) ⟨(0, po, co), Nat.zero_le _⟩ (by rw [List.take_zero, show prsW x.who [] = [] from rfl, List.append_nil]; exact (by repeat (first | exact Env.sub_nil _ | refine Env.sub_cons rfl ?_))) (fun w h => by rw [List.take_zero, show prsW x.who [] = [] from rfl, List.append_nil]; exact h.fitD) (fun s ih3 => ?_)
      obtain ⟨⟨m, po, co⟩, hm⟩ := s
      dsimp only at hm ⊢
      have how := prsW_le x.who (k.waits x.who) m
      obtain ⟨C, hC⟩ : ∃ C, C = B ++ prsW x.who ((k.waits x.who).take m) := ⟨_, rfl⟩
      have hCl : C.length ≤ 1000000000 := by rw [hC, List.length_append]; omega
      rw [← hC]
      refine K.seq ?_
      refine K.region ?_
      refine KO.q rfl (q_lt rfl rfl) ?_
      refine KO.done ?_
      refine K.seq ?_
      refine K.dcond (s := 36) rfl (fun g36 => ?_) (fun g36 => ?_)
      · obtain ⟨o, ho⟩ : ∃ o, (k.waits x.who)[m]? = some o := ⟨_, List.getElem?_eq_getElem (by omega)⟩
        have hzz : B ++ prsW x.who ((k.waits x.who).take (m + 1)) = C ++ [⟨x.who, o⟩] := by rw [prsW_succ x.who ho, ← List.append_assoc, ← hC]
        refine K.skip <| K.seq <| K.block <| K.seq ?_
        refine K.region ?_
        first | refine KO.q rfl (q_ix _ se_39 rfl rfl rfl isF (by repeat (first | exact List.Mem.head _ | apply List.Mem.tail)) rfl (by first | assumption | omega | exact (List.getElem?_eq_some_iff.1 (by assumption)).1 | (simp; omega))) ?_ | refine KO.q rfl (q_ix _ se_39 rfl rfl rfl isO (by repeat (first | exact List.Mem.head _ | apply List.Mem.tail)) rfl (by first | assumption | omega | exact (List.getElem?_eq_some_iff.1 (by assumption)).1 | (simp; omega))) ?_
        first | refine KO.q rfl (q_ldE ck_3 rfl isF (by repeat (first | exact List.Mem.head _ | apply List.Mem.tail)) (by first | assumption | exact List.getElem?_eq_getElem (by first | assumption | omega | (simp; omega))) rfl) ?_ | refine KO.q rfl (q_ldE ck_3 rfl isO (by repeat (first | exact List.Mem.head _ | apply List.Mem.tail)) (by first | assumption | exact List.getElem?_eq_getElem (by first | assumption | omega | (simp; omega))) rfl) ?_
        refine KO.q rfl (q_assign rfl) ?_
        refine KO.done ?_
        refine K.region ?_
        refine KO.q rfl (q_move rfl) ?_
        refine KO.q rfl (q_field fo_59_0 rfl) ?_
        refine KO.q rfl (q_load1D ck_3 rfl) ?_
        refine KO.q rfl (q_move rfl) ?_
        refine KO.q rfl (q_as (q_buildA ar_p2 (show zeroOf Tryz.prog 84 = some [(.int .i64 0), (.int .i64 0)] by kernel_rfl) rfl (by repeat (first | exact Fill.nil | (apply Fill.cons; rfl; rfl; rfl) | exact SetN.nil | apply SetN.cons | exact SetAt.here | apply SetAt.there))) (show _ = P2.cells ⟨x.who, o⟩ from rfl)) ?_
        refine KO.loud rfl (l_slice1 sz_46_1 rfl rfl ⟨rfl, rfl, rfl⟩) ?_
        rintro _ _ ⟨b44, rfl, rfl⟩
        refine KO.loud rfl (l_append Kd.p2 (ys := [⟨x.who, o⟩]) se_46 Tryz.underlying46 ⟨_, ze_84, rfl⟩ (by decide) rfl rfl (by repeat (first | exact Pick.here | apply Pick.there)) isP (by repeat (first | exact List.Mem.head _ | apply List.Mem.tail)) rfl rfl (by show (2 * (C.length + 1) + 768) * 16 ≤ _; omega)) ?_
        rintro _ _ ⟨pn, dn, rfl, rfl⟩
        refine KO.q rfl (q_assign rfl) ?_
        refine KO.done ?_
        refine K.inBlock ?_
        refine K.region ?_
        refine KO.q rfl (q_add rfl rfl (by first | omega | (simp; omega)) (by first | omega | (simp; omega))) ?_
        refine KO.q rfl (q_move rfl) ?_
        refine KO.done ?_
        exact K.weak (E' := [(35, .int .i64 ((m + 1 : Nat) : Int)), (34, .int .i64 (k.waits x.who).length), (33, .slice pw (k.waits x.who).length cw), (3, .slice pn (B ++ prsW x.who ((k.waits x.who).take (m + 1))).length dn), (7, .pointer (some ⟨b7, 0, none⟩)), (25, .int .i64 j), (24, .int .i64 k.holds.length), (23, .slice ph k.holds.length ch), (17, .int .i64 i), (16, .int .i64 es.length), (15, .slice q es.length c), (5, .pointer (some ⟨b5, 0, none⟩))]) (by rw [hzz]; exact (by repeat (first | exact Env.sub_nil _ | refine Env.sub_cons rfl ?_))) (fun w h => by rw [hzz]; exact h.fitD) (ih3 ⟨(m + 1, pn, dn), by show m + 1 ≤ _; omega⟩ (by show (k.waits x.who).length - (m + 1) < (k.waits x.who).length - m; omega))
      · obtain rfl : m = (k.waits x.who).length := by omega
        have hCB : A ++ prsH k (k.holds.take (j + 1)) = C := by rw [hsh, ← List.append_assoc, ← hB, hC, List.take_length]
        clear ih3
        refine K.exit rfl ?_
        refine K.inBlock ?_
        refine K.region ?_
        refine KO.q rfl (q_add rfl rfl (by first | omega | (simp; omega)) (by first | omega | (simp; omega))) ?_
        refine KO.q rfl (q_move rfl) ?_
        refine KO.done ?_
        exact K.weak (E' := [(25, .int .i64 ((j + 1 : Nat) : Int)), (24, .int .i64 k.holds.length), (23, .slice ph k.holds.length ch), (3, .slice po (A ++ prsH k (k.holds.take (j + 1))).length co), (17, .int .i64 i), (16, .int .i64 es.length), (15, .slice q es.length c), (5, .pointer (some ⟨b5, 0, none⟩))]) (by rw [hCB]; exact (by repeat (first | exact Env.sub_nil _ | refine Env.sub_cons rfl ?_))) (fun w h => by rw [hCB]; exact h.fitD) (ih2 ⟨(j + 1, po, co), by show j + 1 ≤ _; omega⟩ (by show k.holds.length - (j + 1) < k.holds.length - j; omega))
    · obtain rfl : j = k.holds.length := by omega
      have hAB : prsN (es.take (i + 1)) = A ++ prsH k (k.holds.take k.holds.length) := by rw [hsu, List.take_length]; rfl
      refine K.st (fun w h => tb_back he rfl (h.fit (M := [LkX bb k, AllO LkE (es.eraseIdx i), pv t 53 [.int .i64 n, .slice q es.length c], RowO Kd.e 63 q c es, RowO Kd.p2 84 po co (A ++ prsH k (k.holds.take k.holds.length))]) (by repeat (first | exact Give.nil | (apply Give.perI; (repeat (first | exact List.Mem.head _ | apply List.Mem.tail))) | (apply Give.own; (repeat (first | exact Pick.here | apply Pick.there))))) (by repeat (first | exact Drop.refl | apply Drop.skip)))) ?_
      clear ih2
      refine K.exit rfl ?_
      refine K.inBlock ?_
      refine K.region ?_
      refine KO.q rfl (q_add rfl rfl (by first | omega | (simp; omega)) (by first | omega | (simp; omega))) ?_
      refine KO.q rfl (q_move rfl) ?_
      refine KO.done ?_
      exact K.weak (E' := [(17, .int .i64 ((i + 1 : Nat) : Int)), (16, .int .i64 es.length), (15, .slice q es.length c), (3, .slice po (prsN (es.take (i + 1))).length co)]) (by rw [hAB]; exact (by repeat (first | exact Env.sub_nil _ | refine Env.sub_cons rfl ?_))) (fun w h => by rw [hAB]; exact h.fitD) (ih ⟨(i + 1, po, co), by show i + 1 ≤ _; omega⟩ (by show es.length - (i + 1) < es.length - i; omega))
  · obtain rfl : i = es.length := by omega
    obtain ⟨C, hC⟩ : ∃ C, C = prsN (es.take es.length) := ⟨_, rfl⟩
    rw [← hC] at hol ⊢
    have hC2 : prsT (es.map E.abs) = C := by rw [hC, List.take_length, prsN_abs]
    have hed : compactL (C.mergeSort leP2) = edgesT (es.map E.abs) := by unfold edgesT; rw [hC2]
    clear ih
    refine K.fact (fun w h => rowO_cap (e := 84) (k := Kd.p2) (p := po) (cap := co) (xs := C) (by repeat (first | exact List.Mem.head _ | apply List.Mem.tail)) w h) (fun hc3 => ?_)
    have hms : (C.mergeSort leP2).length = C.length := List.length_mergeSort _
    refine K.exit rfl ?_
    refine K.seq ?_
    refine K.region ?_
    refine KO.q rfl (q_move rfl) ?_
    refine KO.loud rfl (OpL.callD rfl (h := so_SortP 84 po co C (by omega))) ?_
    rintro _ _ ⟨_, ⟨rfl, rfl⟩, rfl⟩
    rw [← hms] at hc3
    rw [← hms]
    refine KO.done ?_
    refine K.seq ?_
    refine K.region ?_
    refine KO.q rfl (q_move rfl) ?_
    refine KO.loud rfl (OpL.callD rfl (h := cpt_p2 po co (C.mergeSort leP2) hc3 (by omega))) ?_
    rintro _ _ ⟨_, ⟨rfl, rfl⟩, rfl⟩
    refine KO.q rfl (q_assign rfl) ?_
    refine KO.done ?_
    refine K.ret (fn := Tryz.f19) Tryz.func19 (fun a w hk hs => res1 Tryz.results19 hk rfl) (fun w hs => ?_)
    rw [← hed]
    exact ⟨_, RowO Kd.p2 84 po co (compactL (C.mergeSort leP2)) :: (TbE t n q c es ++ [AllO LkE es]), rfl, ⟨po, co, rfl, rfl⟩, hs.fitD⟩
end Go.Proofs.YtcpkcjabmookmaaGreat.L
