/- What is left to be done, of puts in places of which no two are one. -/
import Derived.Test.YthnmoiilaaoooaaGreatM3
namespace Go.Proofs.YthnmoiilaaoooaaGreat.L
open Go Go.Proofs
attribute [local irreducible] pv fv pt fz RowF RowO rowP old pure_ elA
set_option maxRecDepth 100000
set_option linter.unusedSimpArgs false
set_option linter.unusedVariables false

section
variable {X : Fx} {E : Env} {L : List HP} {d : Option Tmp} {ty : TypeId} {pos : String} {af : Array Edge} {gd : Option (Nat × Bool)}
theorem q_fieldV {s : TypeId} {x : Operand} {f : Nat} {fs : Array Field} {fd : Field} {cs : List Value} {v : Value} (hu : X.P.underlying s = some (.struct fs)) (hf : fs[f]? = some fd) (hk : cellK X.P fd.type = some (false, 1)) (hx : Env.ev E x = some (.agg cs.toArray)) (hv : cs[fd.offset]? = some v) :
    OpQ X ⟨d, .field s x f, ty, pos, af, gd⟩ E L v := fun a w hk' _ => by
  simp [execOp, hk'.ev hx, Instr.field, underlying, hu, hf, asAgg, run_part1 hk hv]
end
def plOf (e : Eff) : Pl := ⟨e.object, e.key⟩
def mapE (f : Eff → Value) (l : List Eff) : List (Pl × Value) := l.map (fun e => (plOf e, f e))
theorem mapE_none {f : Eff → Value} : ∀ {l : List Eff} {k : Pl}, k ∉ l.map plOf → mapGet (mapE f l) k = none
  | [], _, _ => rfl
  | e :: l, k, h => by
    simp only [List.map_cons, List.mem_cons, not_or] at h
    show (if k = plOf e then _ else mapGet (mapE f l) k) = none
    rw [if_neg h.1]
    exact mapE_none h.2
theorem mapE_at {f : Eff → Value} : ∀ {l : List Eff} {e : Eff}, (l.map plOf).Nodup → e ∈ l → mapGet (mapE f l) (plOf e) = some (f e)
  | [], _, _, h => by cases h
  | a :: l, e, hn, h => by
    rw [List.map_cons, List.nodup_cons] at hn
    show (if plOf e = plOf a then _ else mapGet (mapE f l) (plOf e)) = _
    rcases List.mem_cons.1 h with rfl | h
    · rw [if_pos rfl]
    · rw [if_neg (fun e2 => hn.1 (by rw [← e2]; exact List.mem_map_of_mem h))]
      exact mapE_at hn.2 h
theorem mapPut_new {es : List (Pl × Value)} {k : Pl} {v : Value} (h : mapGet es k = none) : mapPut es k v = es ++ [(k, v)] := by
  refine put_none es 0 v ?_
  have := lookIx_get es k 0
  rw [h] at this
  cases hl : lookIx es k 0 with
  | none => rfl
  | some p => rw [hl] at this; cases this
theorem place_new {l : List Eff} {i : Nat} {e : Eff} (hn : (l.map plOf).Nodup) (h : l[i]? = some e) : plOf e ∉ (l.take i).map plOf := fun hm => by
  obtain ⟨h1, h2⟩ := List.getElem?_eq_some_iff.1 h
  rw [← List.take_append_drop i l, List.map_append, List.nodup_append] at hn
  refine hn.2.2 _ hm _ ?_ rfl
  rw [List.drop_eq_getElem_cons h1, h2]
  exact List.mem_cons_self ..
theorem mapE_put {f : Eff → Value} {l : List Eff} {i : Nat} {e : Eff} {v : Value} (hn : (l.map plOf).Nodup) (h : l[i]? = some e) (hv : f e = v) : mapPut (mapE f (l.take i)) (plOf e) v = mapE f (l.take (i + 1)) := by
  rw [mapPut_new (mapE_none (place_new hn h)), List.take_add_one, h]
  unfold mapE
  rw [List.map_append, ← hv]
  rfl
theorem pl_hp : Tryz.prog.stoodInHeld 95 = false := by kernel_rfl
theorem mk_pl : MKey Tryz.prog 95 plV := mkey_pl Tryz.underlying95 ck_9 ck_9 Tryz.underlying9 Tryz.underlying9 rfl rfl pl_hp (fun p q => by
  have e : ((p.a == q.a) && ((p.b == q.b) && true)) = decide (p = q) := by rw [Bool.eq_iff_iff, decide_eq_true_iff, pl_ext]; simp [bbeq]
  rw [← e]
  exact (.cons rfl ck_9 rfl rfl (.str Tryz.underlying9) (.cons rfl ck_9 rfl rfl (.str Tryz.underlying9) .nil)))
theorem zv_eff : zeroV Tryz.prog 80 = some (.agg Eff.zero.cells.toArray) := by kernel_rfl
def effV (e : Eff) : Value := .agg e.cells.toArray
def truV (_ : Eff) : Value := .bool true
theorem q_plb {X : Fx} {o : Oper} {E : Env} {L : List HP} {cs : List Value} {e : Eff} (h : OpQ X o E L (.agg cs.toArray)) (hc : cs = (plOf e).cells) : OpQ X o E L (.agg (plOf e).cells.toArray) := q_as h hc
set_option maxHeartbeats 3200000 in
theorem tx_Settle (A : HP) (s : Sz) (n : Nat) (q : Option Addr) (c : Nat) (ef : List Eff) (hA : IsRow A Kd.eff q ef) (hs : s.st.small n) (hn : n + ef.length ≤ 1000000) (hw : ∀ e ∈ ef, e.kind = 2) (hp : (ef.map plOf).Nodup) : Fn Tryz.prog 32 [.agg s.cells.toArray, .slice q ef.length c].toArray (A :: StL s)
    (fun r post => ∃ q' c', r = .slice q' ef.length c' ∧ post = RowO Kd.eff 80 q' c' ef :: A :: StL s) := by
  refine Fn.enter (N := 92) Tryz.func32 rfl Tryz.ntmps32 (by kernel_rfl) rfl (fun ρ L => ?_)
  refine K.seq ?_
  refine K.region ?_
  refine KO.loud rfl (l_box rfl rfl) ?_
  rintro _ _ ⟨b2, rfl, rfl⟩
  refine KO.q rfl (q_assign rfl) ?_
  refine KO.done ?_
  refine K.seq ?_
  refine K.region ?_
  refine KO.loud rfl (l_makeMap plV) ?_
  rintro _ _ ⟨b15, rfl, rfl⟩
  refine KO.loud rfl (l_makeMap plV) ?_
  rintro _ _ ⟨b16, rfl, rfl⟩
  refine KO.q rfl (q_assign rfl) ?_
  refine KO.q rfl (q_assign rfl) ?_
  refine KO.done ?_
  refine K.seq <| K.seq ?_
  refine K.region ?_
  refine KO.q rfl (q_move rfl) ?_
  refine KO.q rfl (q_len Tryz.underlying81 rfl) ?_
  refine KO.q rfl (q_move rfl) ?_
  refine KO.done ?_
  refine K.block ?_
  refine K.rounds2 (ι := { x : Nat // x ≤ ef.length }) (fun x => [(19, .int .i64 x.1), (18, .int .i64 ef.length), (17, .slice q ef.length c), (1, .slice q ef.length c), (2, .pointer (some ⟨b2, 0, none⟩)), (5, .map (some b15)), (6, .map (some b16))]) (fun x => [mpO plV b15 (mapE effV (ef.take x.1)), mpO plV b16 [], A, pv b2 24 s.cells] ++ StL s ++ L) (fun x => ef.length - x.1) ⟨0, Nat.zero_le _⟩ (by repeat (first | exact Env.sub_nil _ | refine Env.sub_cons rfl ?_)) (fun w h => h.fitD) (fun x ih => ?_)
  obtain ⟨i, hi⟩ := x
  dsimp only at hi ⊢
  refine K.seq ?_
  refine K.region ?_
  refine KO.q rfl (q_lt rfl rfl) ?_
  refine KO.done ?_
  refine K.seq ?_
  refine K.dcond (s := 20) rfl (fun g20 => ?_) (fun g20 => ?_)
  · obtain ⟨e, he⟩ : ∃ e, ef[i]? = some e := ⟨_, List.getElem?_eq_getElem (by omega)⟩
    have hek := hw e (List.mem_of_getElem? he)
    have hmp := mapE_put (f := effV) hp he rfl
    refine K.skip <| K.seq <| K.block <| K.seq ?_
    refine K.region ?_
    refine KO.q rfl (q_ix (xs := ef) i se_81 rfl rfl rfl hA (by repeat (first | exact List.Mem.head _ | apply List.Mem.tail)) rfl (by omega)) ?_
    refine KO.q rfl (q_ldEN (xs := ef) (enc := Eff.cells) ck_80 rfl hA (by repeat (first | exact List.Mem.head _ | apply List.Mem.tail)) he) ?_
    refine KO.loud rfl (l_alloc zo_80) ?_
    rintro _ _ ⟨b8, rfl, rfl⟩
    refine KO.loudN rfl (l_storeAll ck_80 rfl rfl ⟨rfl, rfl⟩ (eff_one _) (by repeat (first | exact Pick.here | apply Pick.there))) ?_
    rintro _ _ ⟨rfl, rfl⟩
    refine KO.done ?_
    refine K.seq ?_
    refine K.region ?_
    refine KO.q rfl (q_field fo_80_0 rfl) ?_
    refine KO.q rfl (q_load1D ck_3 rfl) ?_
    refine KO.q rfl (q_eqT rfl rfl (hek)) ?_
    refine KO.q rfl (q_move rfl) ?_
    refine KO.skip rfl ?_
    refine KO.skip rfl ?_
    refine KO.skip rfl ?_
    refine KO.q rfl (q_pickT rfl rfl) ?_
    refine KO.done ?_
    refine K.yes rfl ?_
    refine K.region ?_
    refine KO.q rfl (q_move rfl) ?_
    refine KO.q rfl (q_field fo_80_1 rfl) ?_
    refine KO.q rfl (q_load1D ck_9 rfl) ?_
    refine KO.q rfl (q_field fo_80_2 rfl) ?_
    refine KO.q rfl (q_load1D ck_9 rfl) ?_
    refine KO.q rfl (q_plb (e := e) (q_build st_95 rfl (by repeat (first | exact Fill.nil | (apply Fill.cons; rfl; rfl; rfl) | exact SetN.nil | apply SetN.cons | exact SetAt.here | apply SetAt.there))) rfl) ?_
    refine KO.q rfl (q_loadN ck_80 rfl rfl (by first | (apply cells_pv; (repeat (first | exact List.Mem.head _ | apply List.Mem.tail))) | (apply cells_fv; (repeat (first | exact List.Mem.head _ | apply List.Mem.tail))))) ?_
    refine KO.loudN rfl (l_mapUpdate (enc := plV) (es := mapE effV (ef.take i)) (n := plOf e) (v := effV e) Tryz.underlying92 mk_pl rfl rfl rfl (by repeat (first | exact Pick.here | apply Pick.there))) ?_
    rintro _ _ ⟨rfl, rfl⟩
    refine KO.done ?_
    refine K.inBlock ?_
    refine K.region ?_
    refine KO.q rfl (q_add rfl rfl (by first | omega | (simp; omega)) (by first | omega | (simp; omega))) ?_
    refine KO.q rfl (q_move rfl) ?_
    refine KO.done ?_
    exact K.weak (by repeat (first | exact Env.sub_nil _ | refine Env.sub_cons rfl ?_)) (fun w h => by rw [hmp] at h; exact h.fitD) (ih ⟨i + 1, by omega⟩ (by show ef.length - (i + 1) < ef.length - i; omega))
  · obtain rfl : i = ef.length := by omega
    rw [List.take_length] at *
    clear ih
    refine K.exit rfl ?_
    refine K.seq ?_
    refine K.region ?_
    refine KO.q rfl (q_assign rfl) ?_
    refine KO.done ?_
    refine K.seq <| K.seq ?_
    refine K.region ?_
    refine KO.q rfl (q_move rfl) ?_
    refine KO.q rfl (q_len Tryz.underlying81 rfl) ?_
    refine KO.q rfl (q_move rfl) ?_
    refine KO.done ?_
    refine K.block ?_
    refine K.rounds2 (ι := { x : Nat × Option Addr × Nat // x.1 ≤ ef.length }) (fun x => [(41, .int .i64 x.1.1), (40, .int .i64 ef.length), (39, .slice q ef.length c), (9, .slice x.1.2.1 (ef.take x.1.1).length x.1.2.2), (2, .pointer (some ⟨b2, 0, none⟩)), (5, .map (some b15)), (6, .map (some b16))]) (fun x => RowO Kd.eff 80 x.1.2.1 x.1.2.2 (ef.take x.1.1) :: mpO plV b15 (mapE effV ef) :: mpO plV b16 (mapE truV (ef.take x.1.1)) :: A :: pv b2 24 s.cells :: StL s ++ L) (fun x => ef.length - x.1.1) ⟨(0, none, 0), Nat.zero_le _⟩ (by repeat (first | exact Env.sub_nil _ | refine Env.sub_cons rfl ?_)) (fun w h => rowO_nil (k := Kd.eff) 80 (h.fit (M := mpO plV b15 (mapE effV ef) :: mpO plV b16 (mapE truV (ef.take 0)) :: A :: pv b2 24 s.cells :: StL s) (by repeat (first | exact Give.nil | (apply Give.perI; (repeat (first | exact List.Mem.head _ | apply List.Mem.tail))) | (apply Give.own; (repeat (first | exact Pick.here | apply Pick.there))))) (by repeat (first | exact Drop.refl | apply Drop.skip)))) (fun x ih => ?_)
    obtain ⟨⟨i, po, co⟩, hi⟩ := x
    dsimp only at hi ⊢
    have hil := List.length_take_le i ef
    refine K.seq ?_
    refine K.region ?_
    refine KO.q rfl (q_lt rfl rfl) ?_
    refine KO.done ?_
    refine K.seq ?_
    refine K.dcond (s := 42) rfl (fun g42 => ?_) (fun g42 => ?_)
    · obtain ⟨e, he⟩ : ∃ e, ef[i]? = some e := ⟨_, List.getElem?_eq_getElem (by omega)⟩
      have hek := hw e (List.mem_of_getElem? he)
      have hmp := mapE_put (f := truV) (v := Value.bool true) hp he rfl
      have hg1 : mapGet (mapE truV (ef.take i)) (plOf e) = none := mapE_none (place_new hp he)
      have hg2 : mapGet (mapE effV ef) (plOf e) = some (effV e) := mapE_at hp (List.mem_of_getElem? he)
      have htk : ef.take (i + 1) = ef.take i ++ [e] := by rw [List.take_add_one, he]; rfl
      refine K.skip <| K.seq <| K.block <| K.seq ?_
      refine K.region ?_
      refine KO.q rfl (q_ix (xs := ef) i se_81 rfl rfl rfl hA (by repeat (first | exact List.Mem.head _ | apply List.Mem.tail)) rfl (by omega)) ?_
      refine KO.q rfl (q_ldEN (xs := ef) (enc := Eff.cells) ck_80 rfl hA (by repeat (first | exact List.Mem.head _ | apply List.Mem.tail)) he) ?_
      refine KO.loud rfl (l_alloc zo_80) ?_
      rintro _ _ ⟨b11, rfl, rfl⟩
      refine KO.loudN rfl (l_storeAll ck_80 rfl rfl ⟨rfl, rfl⟩ (eff_one _) (by repeat (first | exact Pick.here | apply Pick.there))) ?_
      rintro _ _ ⟨rfl, rfl⟩
      refine KO.done ?_
      refine K.seq ?_
      refine K.region ?_
      refine KO.q rfl (q_field fo_80_0 rfl) ?_
      refine KO.q rfl (q_load1D ck_3 rfl) ?_
      refine KO.done ?_
      refine K.block <| K.seq <| K.seq ?_
      refine K.region ?_
      refine KO.q rfl (q_eqF rfl rfl (by rw [hek]; decide)) ?_
      refine KO.q rfl (q_assign rfl) ?_
      refine KO.done ?_
      refine K.no rfl ?_
      refine K.region ?_
      refine KO.q rfl (q_eqF rfl rfl (by rw [hek]; decide)) ?_
      refine KO.q rfl (q_assign rfl) ?_
      refine KO.done ?_
      refine K.no rfl ?_
      refine K.seq <| K.seq ?_
      refine K.region ?_
      refine KO.q rfl (q_eqT rfl rfl (hek)) ?_
      refine KO.q rfl (q_assign rfl) ?_
      refine KO.done ?_
      refine K.yes rfl ?_
      refine K.skip ?_
      refine K.yes rfl ?_
      refine K.seq ?_
      refine K.region ?_
      refine KO.q rfl (q_field fo_80_1 rfl) ?_
      refine KO.q rfl (q_load1D ck_9 rfl) ?_
      refine KO.q rfl (q_field fo_80_2 rfl) ?_
      refine KO.q rfl (q_load1D ck_9 rfl) ?_
      refine KO.q rfl (q_plb (e := e) (q_build st_95 rfl (by repeat (first | exact Fill.nil | (apply Fill.cons; rfl; rfl; rfl) | exact SetN.nil | apply SetN.cons | exact SetAt.here | apply SetAt.there))) rfl) ?_
      refine KO.loud rfl (l_alloc zo_95) ?_
      rintro _ _ ⟨b12, rfl, rfl⟩
      refine KO.loudN rfl (l_storeAll ck_95 rfl rfl ⟨rfl, rfl⟩ (fun v h => by simp [plOf, Pl.cells] at h; rcases h with rfl | rfl <;> rfl) (by repeat (first | exact Pick.here | apply Pick.there))) ?_
      rintro _ _ ⟨rfl, rfl⟩
      refine KO.done ?_
      refine K.seq <| K.seq ?_
      refine K.region ?_
      refine KO.q rfl (q_move rfl) ?_
      refine KO.q rfl (q_loadN ck_95 rfl rfl (by first | (apply cells_pv; (repeat (first | exact List.Mem.head _ | apply List.Mem.tail))) | (apply cells_fv; (repeat (first | exact List.Mem.head _ | apply List.Mem.tail))))) ?_
      refine KO.q rfl (q_is (q_lookup (enc := plV) (n := plOf e) Tryz.underlying93 mk_pl zv_bool rfl rfl (by repeat (first | exact List.Mem.head _ | apply List.Mem.tail))) (show _ = Value.bool false by rw [hg1] <;> rfl)) ?_
      refine KO.done ?_
      refine K.no rfl ?_
      refine K.skip <| K.seq ?_
      refine K.region ?_
      refine KO.q rfl (q_move rfl) ?_
      refine KO.q rfl (q_loadN ck_95 rfl rfl (by first | (apply cells_pv; (repeat (first | exact List.Mem.head _ | apply List.Mem.tail))) | (apply cells_fv; (repeat (first | exact List.Mem.head _ | apply List.Mem.tail))))) ?_
      refine KO.loudN rfl (l_mapUpdate (enc := plV) (es := mapE truV (ef.take i)) (n := plOf e) (v := .bool true) Tryz.underlying93 mk_pl rfl rfl rfl (by repeat (first | exact Pick.here | apply Pick.there))) ?_
      rintro _ _ ⟨rfl, rfl⟩
      refine KO.done ?_
      refine K.seq ?_
      rw [hmp]
      refine K.st (fun w h => rowF_nilA (k := Kd.eff) h) ?_
      refine K.region ?_
      refine KO.q rfl (q_loadN ck_24 rfl rfl (by first | (apply cells_pv; (repeat (first | exact List.Mem.head _ | apply List.Mem.tail))) | (apply cells_fv; (repeat (first | exact List.Mem.head _ | apply List.Mem.tail))))) ?_
      refine KO.q rfl (q_field fo_80_1 rfl) ?_
      refine KO.q rfl (q_load1D ck_9 rfl) ?_
      refine KO.q rfl (q_field fo_80_2 rfl) ?_
      refine KO.q rfl (q_load1D ck_9 rfl) ?_
      refine KO.loud rfl (OpL.callD rfl (h := tx_Get (RowF Kd.eff none []) s n none 0 [] e.object e.key isF hs (by simpa using (show n ≤ 100000000 by omega)) (fun e he => by cases he))) ?_
      rintro _ _ ⟨_, ⟨rfl, rfl⟩, rfl⟩
      refine KO.q rfl (q_move rfl) ?_
      refine KO.q rfl (q_extract rfl rfl) ?_
      refine KO.q rfl (q_extract rfl rfl) ?_
      refine KO.q rfl (q_assign rfl) ?_
      refine KO.q rfl (q_assign rfl) ?_
      refine KO.done ?_
      refine K.seq ?_
      refine K.region ?_
      refine KO.q rfl (q_move rfl) ?_
      refine KO.q rfl (q_loadN ck_95 rfl rfl (by first | (apply cells_pv; (repeat (first | exact List.Mem.head _ | apply List.Mem.tail))) | (apply cells_fv; (repeat (first | exact List.Mem.head _ | apply List.Mem.tail))))) ?_
      refine KO.q rfl (q_is (q_lookup (enc := plV) (n := plOf e) Tryz.underlying92 mk_pl zv_eff rfl rfl (by repeat (first | exact List.Mem.head _ | apply List.Mem.tail))) (show _ = Value.agg e.cells.toArray by rw [hg2] <;> rfl)) ?_
      refine KO.q rfl (q_fieldV Tryz.underlying80 rfl ck_3 rfl rfl) ?_
      refine KO.q rfl (q_eqT rfl rfl (hek)) ?_
      refine KO.q rfl (q_move rfl) ?_
      refine KO.skip rfl ?_
      refine KO.q rfl (q_pickT rfl rfl) ?_
      refine KO.done ?_
      refine K.yes rfl ?_
      refine K.region ?_
      refine KO.q rfl (q_move rfl) ?_
      refine KO.q rfl (q_move rfl) ?_
      refine KO.q rfl (q_loadN ck_95 rfl rfl (by first | (apply cells_pv; (repeat (first | exact List.Mem.head _ | apply List.Mem.tail))) | (apply cells_fv; (repeat (first | exact List.Mem.head _ | apply List.Mem.tail))))) ?_
      refine KO.q rfl (q_is (q_lookup (enc := plV) (n := plOf e) Tryz.underlying92 mk_pl zv_eff rfl rfl (by repeat (first | exact List.Mem.head _ | apply List.Mem.tail))) (show _ = Value.agg e.cells.toArray by rw [hg2] <;> rfl)) ?_
      refine KO.loud rfl (l_slice1 sz_81_1 rfl rfl ⟨rfl, rfl, rfl⟩) ?_
      rintro _ _ ⟨b88, rfl, rfl⟩
      refine KO.loud rfl (l_append Kd.eff (ys := [e]) se_81 Tryz.underlying81 ⟨_, ze_80, rfl⟩ (by decide) rfl rfl (by repeat (first | exact Pick.here | apply Pick.there)) isP (by repeat (first | exact List.Mem.head _ | apply List.Mem.tail)) rfl rfl (by show (2 * ((ef.take i).length + 1) + 768) * _ ≤ _; omega)) ?_
      rintro _ _ ⟨pn, dn, rfl, rfl⟩
      refine KO.q rfl (q_assign rfl) ?_
      refine KO.done ?_
      refine K.inBlock <| K.inBlock ?_
      refine K.region ?_
      refine KO.q rfl (q_add rfl rfl (by first | omega | (simp; omega)) (by first | omega | (simp; omega))) ?_
      refine KO.q rfl (q_move rfl) ?_
      refine KO.done ?_
      exact K.weak (E' := [(41, .int .i64 ((i + 1 : Nat) : Int)), (40, .int .i64 ef.length), (39, .slice q ef.length c), (9, .slice pn (ef.take (i + 1)).length dn), (2, .pointer (some ⟨b2, 0, none⟩)), (5, .map (some b15)), (6, .map (some b16))]) (by rw [htk]; exact (by repeat (first | exact Env.sub_nil _ | refine Env.sub_cons rfl ?_))) (fun w h => by dsimp only; rw [htk] at h ⊢; exact h.fitD) (ih ⟨(i + 1, pn, dn), by show i + 1 ≤ _; omega⟩ (by show ef.length - (i + 1) < ef.length - i; omega))
    · obtain rfl : i = ef.length := by omega
      rw [List.take_length] at *
      clear ih
      refine K.exit rfl ?_
      refine K.seq ?_
      refine K.region ?_
      refine KO.q rfl (q_move rfl) ?_
      refine KO.q rfl (q_assign rfl) ?_
      refine KO.done ?_
      refine K.ret (fn := Tryz.f32) Tryz.func32 (fun a w hk hs => res1 Tryz.results32 hk rfl) (fun w hs => ?_)
      exact ⟨_, RowO Kd.eff 80 po co ef :: A :: StL s, rfl, ⟨po, co, rfl, rfl⟩, hs.fitD⟩
end Go.Proofs.YthnmoiilaaoooaaGreat.L
