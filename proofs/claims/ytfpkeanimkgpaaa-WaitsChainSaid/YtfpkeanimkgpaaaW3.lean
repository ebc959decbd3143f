/- Walks: rings of those that wait for each other. -/
import Derived.Test.YtfpkeanimkgpaaaW2
import Derived.Test.YtfpkeanimkgpaaaPG
namespace Go.Proofs.Ytfpkeanimkgpaaa.L
open Go Go.Proofs
attribute [local irreducible] pv fv pt fz RowF RowO rowP old pure_ elA
set_option maxRecDepth 100000
set_option linter.unusedSimpArgs false
set_option linter.unusedVariables false

def P2.swp (e : P2) : P2 := ⟨e.b, e.a⟩
theorem addL_app (f : Int → List Int) (l m : List P2) : addL (addL f l) m = addL f (l ++ m) := by
  funext x
  unfold addL
  rw [List.filter_append, List.map_append, List.append_assoc]
def adjF (l : List P2) : Int → List Int := addL (fun _ => []) l
theorem adjF_mem {l : List P2} {x y : Int} : y ∈ adjF l x ↔ ⟨x, y⟩ ∈ l := by
  unfold adjF addL
  rw [List.nil_append]
  constructor
  · intro h
    obtain ⟨e, he, rfl⟩ := List.mem_map.1 h
    obtain ⟨h1, h2⟩ := List.mem_filter.1 he
    have : e.a = x := of_decide_eq_true h2
    subst this
    exact h1
  · intro h
    exact List.mem_map.2 ⟨⟨x, y⟩, List.mem_filter.2 ⟨h, decide_eq_true rfl⟩, rfl⟩
theorem adjF_len (l : List P2) (x : Int) : (adjF l x).length ≤ l.length := by
  have := addL_len (fun _ => []) l x
  unfold adjF
  simpa using this
/-- The ring of somebody: those that one reaches and that reach one, in order. -/
structure RingOf (l : List P2) (who : Int) (R : List Int) : Prop where
  up : R.Pairwise (· < ·)
  mem : ∀ x, x ∈ R ↔ Reach (adjF l) who x ∧ Reach (adjF (l.map P2.swp)) who x
theorem RingOf.uniq {l : List P2} {who : Int} {R R' : List Int} (h : RingOf l who R) (h' : RingOf l who R') : R = R' := up_unique h.up h'.up fun x => by rw [h.mem, h'.mem]
theorem up_strict {l : List Int} (h : l.Pairwise (· ≤ ·)) (hn : l.Nodup) : l.Pairwise (· < ·) := by
  refine (h.and hn).imp ?_
  intro a b ⟨h1, h2⟩
  have h2 : a ≠ b := h2
  omega
/-- On the way through one's own: T still to come, O those that are in both. -/
structure Met (S1 S2 T O : List Int) : Prop where
  tn : T.Nodup
  on : O.Nodup
  ts : ∀ x ∈ T, x ∈ S1
  om : ∀ x, x ∈ O ↔ x ∈ S1 ∧ x ∈ S2 ∧ x ∉ T
theorem Met.start {S1 S2 : List Int} (h : S1.Nodup) : Met S1 S2 S1 [] := ⟨h, List.nodup_nil, fun x h => h, fun x => ⟨fun h => (by cases h), fun h => absurd h.1 h.2.2⟩⟩
theorem Met.step {S1 S2 T O : List Int} (h : Met S1 S2 T O) {i : Nat} {x : Int} (hx : T[i]? = some x) : Met S1 S2 (T.eraseIdx i) (if x ∈ S2 then O ++ [x] else O) := by
  have hm : ∀ y, y ∈ T.eraseIdx i ↔ y ∈ T ∧ y ≠ x := fun y => by
    obtain ⟨hi, he⟩ := List.getElem?_eq_some_iff.1 hx
    have h1 : T = T.take i ++ x :: T.drop (i + 1) := by
      conv => lhs; rw [← List.take_append_drop i T, List.drop_eq_getElem_cons hi, he]
    have h2 := h.tn
    rw [h1, List.nodup_append] at h2
    obtain ⟨_, h3, h4⟩ := h2
    have h5 := (List.nodup_cons.1 h3).1
    have h6 : y ∈ T ↔ y ∈ T.take i ∨ y = x ∨ y ∈ T.drop (i + 1) := by
      conv => lhs; rw [h1]
      rw [List.mem_append, List.mem_cons]
    rw [List.eraseIdx_eq_take_drop_succ, List.mem_append, h6]
    constructor
    · rintro (h7 | h7)
      · exact ⟨.inl h7, fun e => h4 y h7 x List.mem_cons_self e⟩
      · exact ⟨.inr (.inr h7), fun e => h5 (e ▸ h7)⟩
    · rintro ⟨h7 | h7 | h7, h8⟩
      · exact .inl h7
      · exact absurd h7 h8
      · exact .inr h7
  have hxT := List.mem_of_getElem? hx
  refine ⟨h.tn.sublist (List.eraseIdx_sublist _ _), ?_, fun y hy => h.ts y ((hm y).1 hy).1, fun y => ?_⟩
  · split
    · rw [List.nodup_append]
      exact ⟨h.on, by simp, fun a ha b hb hab => by rw [List.mem_singleton.1 hb] at hab; exact ((h.om a).1 ha).2.2 (hab ▸ hxT)⟩
    · exact h.on
  · rw [hm]
    by_cases hxS : x ∈ S2
    · rw [if_pos hxS, List.mem_append, List.mem_singleton, h.om]
      constructor
      · rintro (⟨h1, h2, h3⟩ | rfl)
        · exact ⟨h1, h2, fun h4 => h3 h4.1⟩
        · exact ⟨h.ts y hxT, hxS, fun h4 => h4.2 rfl⟩
      · intro ⟨h1, h2, h3⟩
        by_cases hyx : y = x
        · exact .inr hyx
        · exact .inl ⟨h1, h2, fun h4 => h3 ⟨h4, hyx⟩⟩
    · rw [if_neg hxS, h.om]
      constructor
      · intro ⟨h1, h2, h3⟩
        exact ⟨h1, h2, fun h4 => h3 h4.1⟩
      · intro ⟨h1, h2, h3⟩
        exact ⟨h1, h2, fun h4 => h3 ⟨h4, fun e => hxS (e ▸ h2)⟩⟩
def prB (n : Int) : Int × Value := (n, .bool true)
theorem nextCur_map {T : List Int} {i : Nat} {x : Int} (h : T[i]? = some x) : nextCur (T.map prB) (some i) = some (x, .bool true) := by
  show (T.map prB)[i]? = _
  rw [List.getElem?_map, h]; rfl
theorem nextTodo_map (T : List Int) (i : Nat) : nextTodo (T.map prB) (some i) = (T.eraseIdx i).map prB := (Go.ChangeMaps.map_eraseIdx prB T i).symm
set_option maxHeartbeats 3200000 in
theorem wt_Ring (A : HP) (q : Option Addr) (cap : Nat) (l : List P2) (who : Int) (hA : IsRow A Kd.p2 q l) (hl : l.length ≤ 1000) : Fn Try.prog 24 [.slice q l.length cap, .int .i64 who].toArray [A] (fun r post => ∃ R po co, r = .slice po R.length co ∧ RingOf l who R ∧ post = [RowO (Kd.int .i64) 3 po co R, A]) := by
  have hF : ∀ x y, y ∈ adjF l x → y ∈ l.map P2.b := fun x y h => List.mem_map.2 ⟨_, adjF_mem.1 h, rfl⟩
  have hB : ∀ x y, y ∈ adjF (l.map P2.swp) x → y ∈ (l.map P2.swp).map P2.b := fun x y h => List.mem_map.2 ⟨_, adjF_mem.1 h, rfl⟩
  refine Fn.enter (N := 55) Try.func24 rfl Try.ntmps24 (by kernel_rfl) rfl (fun ρ L => ?_)
  refine K.seq ?_
  refine K.region ?_
  refine KO.q rfl (q_assign rfl) ?_
  refine KO.done ?_
  refine K.seq ?_
  refine K.region ?_
  refine KO.loud rfl (l_makeMap encI) ?_
  rintro _ _ ⟨b13, rfl, rfl⟩
  refine KO.loud rfl (l_makeMap encI) ?_
  rintro _ _ ⟨b14, rfl, rfl⟩
  refine KO.q rfl (q_assign rfl) ?_
  refine KO.q rfl (q_assign rfl) ?_
  refine KO.done ?_
  refine K.st (fun w h => gx_new (b := b13) (h.pick (by repeat (first | exact Pick.here | apply Pick.there)))) ?_
  refine K.st (fun w h => gx_new (b := b14) (h.pick (by repeat (first | exact Pick.here | apply Pick.there)))) ?_
  refine K.seq ?_
  refine K.region ?_
  refine KO.q rfl (q_move rfl) ?_
  refine KO.q rfl (q_move rfl) ?_
  refine KO.loud rfl (OpL.callD rfl (h := gr_add b13 (fun _ => []) A q cap l hA (fun x => by show 0 + l.length ≤ _; omega) (by omega))) ?_
  rintro _ _ ⟨_, ⟨rfl, rfl⟩, rfl⟩
  refine KO.done ?_
  refine K.seq <| K.seq ?_
  refine K.region ?_
  refine KO.q rfl (q_move rfl) ?_
  refine KO.q rfl (q_len Try.underlying32 rfl) ?_
  refine KO.q rfl (q_move rfl) ?_
  refine KO.done ?_
  refine K.block ?_
  refine K.rounds2 (ι := { i : Nat // i ≤ l.length }) (fun s => [(20, .int .i64 s.1), (19, .int .i64 l.length), (18, .slice q l.length cap), (5, .map (some b13)), (6, .map (some b14)), (1, .int .i64 who)]) (fun s => [GX b13 (adjF l), GX b14 (adjF ((l.take s.1).map P2.swp)), A] ++ L) (fun s => l.length - s.1) ⟨0, Nat.zero_le _⟩ (by repeat (first | exact Env.sub_nil _ | refine Env.sub_cons rfl ?_)) (fun w h => by rw [List.take_zero, List.map_nil, show adjF [] = fun _ => [] from addL_nil _]; exact h.fitD) (fun s ih => ?_)
  obtain ⟨i, hi⟩ := s
  dsimp only at hi ⊢
  refine K.seq ?_
  refine K.region ?_
  refine KO.q rfl (q_lt rfl rfl) ?_
  refine KO.done ?_
  refine K.seq ?_
  refine K.dcond (s := 21) rfl (fun g21 => ?_) (fun g21 => ?_)
  · obtain ⟨e, he⟩ : ∃ e, l[i]? = some e := ⟨_, List.getElem?_eq_getElem (by omega)⟩
    have hsu : addL (adjF ((l.take i).map P2.swp)) [e.swp] = adjF ((l.take (i + 1)).map P2.swp) := by
      unfold adjF
      rw [addL_app, map_take_succ _ he]
    have hal : ∀ x, (adjF ((l.take i).map P2.swp) x).length + [e.swp].length ≤ 1000000000 := fun x => by
      have := adjF_len ((l.take i).map P2.swp) x
      rw [List.length_map, List.length_take] at this
      show _ + 1 ≤ _
      omega
    refine K.skip <| K.seq <| K.block <| K.seq ?_
    refine K.region ?_
    refine KO.q rfl (q_ix (xs := l) i se_32 rfl rfl rfl hA (by repeat (first | exact List.Mem.head _ | apply List.Mem.tail)) rfl (by omega)) ?_
    refine KO.q rfl (q_ldEN (xs := l) ck_39 rfl hA (by repeat (first | exact List.Mem.head _ | apply List.Mem.tail)) he) ?_
    refine KO.loud rfl (l_alloc zo_39) ?_
    rintro _ _ ⟨b8, rfl, rfl⟩
    refine KO.loudN rfl (l_storeAll ck_39 rfl rfl ⟨rfl, rfl⟩ (p2_one e) (by repeat (first | exact Pick.here | apply Pick.there))) ?_
    rintro _ _ ⟨rfl, rfl⟩
    refine KO.done ?_
    refine K.region ?_
    refine KO.q rfl (q_move rfl) ?_
    refine KO.q rfl (q_ixA ar_p2 rfl rfl (by decide) (by decide)) ?_
    refine KO.q rfl (q_load1D ck_3 rfl) ?_
    refine KO.q rfl (q_ixA ar_p2 rfl rfl (by decide) (by decide)) ?_
    refine KO.q rfl (q_load1D ck_3 rfl) ?_
    refine KO.q rfl (q_as (q_buildA ar_p2 zo_39 rfl (by repeat (first | exact Fill.nil | (apply Fill.cons; rfl; rfl; rfl) | exact SetN.nil | apply SetN.cons | exact SetAt.here | apply SetAt.there))) (show _ = P2.cells e.swp from rfl)) ?_
    refine KO.loud rfl (l_slice1 sz_32_1 rfl rfl ⟨rfl, rfl, rfl⟩) ?_
    rintro _ _ ⟨b30, rfl, rfl⟩
    refine KO.loud rfl (OpL.callD rfl (h := gr_add b14 (adjF ((l.take i).map P2.swp)) (pv b30 39 (P2.cells e.swp)) (some ⟨b30, 0, none⟩) 1 [e.swp] isP hal (by show 1 ≤ _; omega))) ?_
    rintro _ _ ⟨_, ⟨rfl, rfl⟩, rfl⟩
    refine KO.done ?_
    refine K.inBlock ?_
    refine K.region ?_
    refine KO.q rfl (q_add rfl rfl (by first | omega | (simp; omega)) (by first | omega | (simp; omega))) ?_
    refine KO.q rfl (q_move rfl) ?_
    refine KO.done ?_
    exact K.weak (by repeat (first | exact Env.sub_nil _ | refine Env.sub_cons rfl ?_)) (fun w h => by rw [← hsu]; exact h.fitD) (ih ⟨i + 1, by omega⟩ (by show l.length - (i + 1) < l.length - i; omega))
  · obtain rfl : i = l.length := by omega
    rw [List.take_length]
    clear ih
    refine K.exit rfl ?_
    refine K.seq ?_
    refine K.region ?_
    refine KO.q rfl (q_move rfl) ?_
    refine KO.q rfl (q_move rfl) ?_
    refine KO.loud rfl (OpL.callD rfl (h := gr_from b13 (adjF l) who (l.map P2.b) hF (by rw [List.length_map]; omega) (fun x => Nat.le_trans (adjF_len l x) (by omega)))) ?_
    rintro _ _ ⟨_, ⟨m1, S1, rfl, hS1, rfl⟩, rfl⟩
    refine KO.q rfl (q_move rfl) ?_
    refine KO.q rfl (q_move rfl) ?_
    refine KO.loud rfl (OpL.callD rfl (h := gr_from b14 (adjF (l.map P2.swp)) who ((l.map P2.swp).map P2.b) hB (by rw [List.length_map, List.length_map]; omega) (fun x => Nat.le_trans (adjF_len _ x) (by rw [List.length_map]; omega)))) ?_
    rintro _ _ ⟨_, ⟨m2, S2, rfl, hS2, rfl⟩, rfl⟩
    refine KO.q rfl (q_assign rfl) ?_
    refine KO.q rfl (q_assign rfl) ?_
    refine KO.done ?_
    refine K.seq ?_
    refine K.region ?_
    refine KO.q rfl (q_assign rfl) ?_
    refine KO.done ?_
    refine K.seq <| K.seq ?_
    refine K.region ?_
    refine KO.q rfl (q_move rfl) ?_
    refine KO.loud rfl (l_rangeM (enc := encI) (b := m1) (es := S1.map prB) Try.underlying89 rfl (by repeat (first | exact Pick.here | apply Pick.there))) ?_
    rintro _ _ ⟨rr, rfl, rfl⟩
    refine KO.done ?_
    refine K.st (fun w h => rowO_nil (k := Kd.int .i64) 3 h) ?_
    refine K.block ?_
    refine K.rounds2 (ι := { s : (List Int × List Int) × Option (Int × Value) × Option Addr × Nat // Met S1 S2 s.1.1 s.1.2 }) (fun s => [(11, .slice s.1.2.2.1 s.1.1.2.length s.1.2.2.2), (40, .pointer (some ⟨rr, 0, none⟩)), (10, .map (some m2))]) (fun s => [itO encI m1 rr (S1.map prB) s.1.2.1 (s.1.1.1.map prB), setO m2 S2, RowO (Kd.int .i64) 3 s.1.2.2.1 s.1.2.2.2 s.1.1.2, A] ++ L) (fun s => s.1.1.1.length) ⟨((S1, []), none, none, 0), Met.start hS1.1⟩ (by repeat (first | exact Env.sub_nil _ | refine Env.sub_cons rfl ?_)) (fun w h => h.fitD) (fun s ih => ?_)
    obtain ⟨⟨⟨T, O⟩, cur, po, co⟩, hm⟩ := s
    dsimp only at hm ⊢
    have hSl : S1.length ≤ 1000 := by
      have := nodup_len (m := l.map P2.b) hS1.1 (fun y hy => by
        have h := (hS1.2 y).1 hy
        cases h with
        | one h3 => exact hF _ _ h3
        | more _ h3 => exact hF _ _ h3)
      rw [List.length_map] at this
      omega
    have hOl : O.length ≤ 1000 := Nat.le_trans (nodup_len hm.on (fun x hx => ((hm.om x).1 hx).1)) hSl
    refine K.seq ?_
    refine K.region ?_
    refine KO.loud rfl (l_nextM rfl (by repeat (first | exact Pick.here | apply Pick.there))) ?_
    rintro _ _ ⟨o, ho, rfl, rfl⟩
    refine KO.q rfl (q_extract rfl (nextL_0 ho)) ?_
    refine KO.done ?_
    refine K.seq ?_
    first | refine K.dcond (s := 42) rfl (fun g42 => ?_) (fun g42 => ?_) | refine K.bcond (s := 42) rfl (fun g42 => ?_) (fun g42 => ?_)
    · obtain ⟨i, rfl⟩ := Option.isSome_iff_exists.1 g42
      have hil := ho.some i rfl
      rw [List.length_map] at hil
      obtain ⟨x, hx⟩ : ∃ x, T[i]? = some x := ⟨_, List.getElem?_eq_getElem hil⟩
      have hst := hm.step hx
      have hlt : (T.eraseIdx i).length < T.length := by rw [List.length_eraseIdx_of_lt hil]; omega
      rw [nextCur_map hx, nextTodo_map]
      refine K.skip <| K.block <| K.seq ?_
      refine K.region ?_
      refine KO.q rfl (q_entryM (p := (x, .bool true)) rfl (by repeat (first | exact List.Mem.head _ | apply List.Mem.tail))) ?_
      refine KO.q rfl (q_extract (v := .int .i64 x) rfl rfl) ?_
      refine KO.q rfl (q_assign rfl) ?_
      refine KO.done ?_
      refine K.seq ?_
      refine K.region ?_
      refine KO.q rfl (q_move rfl) ?_
      refine KO.q rfl (q_move rfl) ?_
      refine KO.q rfl (q_lookupS rfl Try.underlying89 rfl rfl (by repeat (first | exact List.Mem.head _ | apply List.Mem.tail))) ?_
      refine KO.done ?_
      first | refine K.dcond (s := 47) rfl (fun g47 => ?_) (fun g47 => ?_) | refine K.bcond (s := 47) rfl (fun g47 => ?_) (fun g47 => ?_)
      · rw [if_pos (by simpa using g47)] at hst
        refine K.region ?_
        refine KO.q rfl (q_move rfl) ?_
        refine KO.q rfl (q_move rfl) ?_
        refine KO.loud rfl (l_slice sz_36_1 rfl (by repeat (first | exact Fill.nil | (apply Fill.cons; rfl; rfl; rfl) | exact SetN.nil | apply SetN.cons | exact SetAt.here | apply SetAt.there))) ?_
        rintro _ _ ⟨b50, rfl, rfl⟩
        refine KO.loud rfl (l_append (Kd.int .i64) (ys := [x]) se_36 Try.underlying36 ⟨_, ze_3, rfl⟩ (by decide) rfl rfl (by repeat (first | exact Pick.here | apply Pick.there)) isP (by repeat (first | exact List.Mem.head _ | apply List.Mem.tail)) rfl rfl (by show (2 * (O.length + 1) + 768) * 8 ≤ _; omega)) ?_
        rintro _ _ ⟨pn, dn, rfl, rfl⟩
        refine KO.q rfl (q_assign rfl) ?_
        refine KO.done ?_
        refine K.inBlock ?_
        exact K.weak (by repeat (first | exact Env.sub_nil _ | refine Env.sub_cons rfl ?_)) (fun w h => h.fitD) (ih ⟨((T.eraseIdx i, O ++ [x]), some (x, .bool true), pn, dn), hst⟩ hlt)
      · rw [if_neg (by simpa using g47)] at hst
        refine K.skip <| K.inBlock ?_
        exact K.weak (by repeat (first | exact Env.sub_nil _ | refine Env.sub_cons rfl ?_)) (fun w h => h.fitD) (ih ⟨((T.eraseIdx i, O), some (x, .bool true), po, co), hst⟩ hlt)
    · have hT := ho.none (by simpa using g42)
      have hT : T = [] := List.map_eq_nil_iff.1 hT
      subst hT
      clear ih
      refine K.exit rfl ?_
      refine K.seq ?_
      refine K.region ?_
      refine KO.q rfl (q_move rfl) ?_
      refine KO.loud rfl (OpL.callD rfl (h := so_Sort 3 po co O (by omega))) ?_
      rintro _ _ ⟨_, ⟨rfl, rfl⟩, rfl⟩
      refine KO.done ?_
      refine K.seq ?_
      refine K.region ?_
      refine KO.q rfl (q_move rfl) ?_
      refine KO.q rfl (q_assign rfl) ?_
      refine KO.done ?_
      refine K.ret (fn := Try.f24) Try.func24 (fun a w hk hs => res1 Try.results24 hk rfl) (fun w hs => ?_)
      have hms : (O.mergeSort fun x y => decide (x ≤ y)).length = O.length := List.length_mergeSort _
      refine ⟨_, [RowO (Kd.int .i64) 3 po co (O.mergeSort fun x y => decide (x ≤ y)), A], rfl, ⟨O.mergeSort fun x y => decide (x ≤ y), po, co, by rw [hms], ⟨up_strict (sort_up O) (by rw [(List.mergeSort_perm O _).nodup_iff]; exact hm.on), fun x => ?_⟩, rfl⟩, hs.fitD⟩
      rw [List.mem_mergeSort, hm.om, hS1.2, hS2.2]
      exact ⟨fun h => ⟨h.1, h.2.1⟩, fun h => ⟨h.1, h.2, List.not_mem_nil⟩⟩
end Go.Proofs.Ytfpkeanimkgpaaa.L
