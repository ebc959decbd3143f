/- Walks: whether no message was lost. -/
import Derived.Test.YthnmoiilaaoooaaGreatN4
namespace Go.Proofs.YthnmoiilaaoooaaGreat.L
open Go Go.Proofs
attribute [local irreducible] pv fv pt fz RowF RowO rowP old pure_ elA
set_option maxRecDepth 100000
set_option linter.unusedSimpArgs false
set_option linter.unusedVariables false

/-- No message was lost, of those that were there A, that are there B, that were taken T, where none was brought. -/
def keptP (A B T : List Int) : Prop := (∀ n ∈ A, (n ∈ B ↔ ¬ T.count n = 1) ∧ ¬ 1 < T.count n) ∧ ∀ n ∈ B, n ∈ A
instance (A B T : List Int) : Decidable (keptP A B T) := by unfold keptP; infer_instance
theorem Seen.mem {ids : List Int} {es : List (Int × Value)} (h : Seen ids es) {p : Int × Value} (hp : p ∈ es) : p.1 ∈ ids := by
  obtain ⟨u, hu⟩ := mapGet_mem (k := p.1) (v := p.2) hp
  rw [h p.1] at hu
  by_cases hn : p.1 ∈ ids
  · exact hn
  · rw [if_neg hn] at hu; cases hu
theorem Seen.key {ids : List Int} {es : List (Int × Value)} (h : Seen ids es) {n : Int} (hn : n ∈ ids) : ∃ v, (n, v) ∈ es := ⟨.bool true, mapGet_some (by rw [h n, if_pos hn])⟩
def okA (B T : List Int) (n : Int) : Prop := (n ∈ B ↔ ¬ T.count n = 1) ∧ ¬ 1 < T.count n
theorem erase_ok {α : Type} {P : α → Prop} {es todo : List α} {i : Nat} {p : α} (h : ∀ x ∈ es, x ∈ todo ∨ P x) (hi : todo[i]? = some p) (hp : P p) : ∀ x ∈ es, x ∈ todo.eraseIdx i ∨ P x := fun x hx => by
  rcases h x hx with h1 | h1
  · by_cases e : x = p
    · exact .inr (e ▸ hp)
    · obtain ⟨j, hj⟩ := List.mem_iff_getElem?.1 h1
      have hne : j ≠ i := fun e2 => e (by rw [e2, hi] at hj; exact (Option.some.inj hj).symm)
      exact .inl (List.mem_eraseIdx_iff_getElem?.2 ⟨j, hne, hj⟩)
  · exact .inr h1
theorem kept_bad {A B T : List Int} {n : Int} (hn : n ∈ A) (h : ¬ okA B T n) : ¬ keptP A B T := fun hk => h (hk.1 n hn)
theorem okA_no1 {B T : List Int} {n : Int} (g : (decide (n ∈ B) == decide (((T.count n : Nat) : Int) = 1)) = true) : ¬ okA B T n := fun h => by
  have h1 : (n ∈ B) ↔ (((T.count n : Nat) : Int) = 1) := by simpa using g
  have h2 := h.1
  have h3 : (((T.count n : Nat) : Int) = 1) ↔ T.count n = 1 := by omega
  rw [h1, h3] at h2
  by_cases e : T.count n = 1
  · exact (h2.1 e) e
  · exact e (h2.2 e)
theorem okA_no2 {B T : List Int} {n : Int} (g : (1 : Int) < ((T.count n : Nat) : Int)) : ¬ okA B T n := fun h => h.2 (by omega)
theorem okA_yes {B T : List Int} {n : Int} (g : ¬ (decide (n ∈ B) == decide (((T.count n : Nat) : Int) = 1)) = true) (g2 : ¬ (1 : Int) < ((T.count n : Nat) : Int)) : okA B T n := by
  refine ⟨?_, fun h => g2 (by omega)⟩
  have h1 : ¬ ((n ∈ B) ↔ (((T.count n : Nat) : Int) = 1)) := by simpa using g
  have h3 : (((T.count n : Nat) : Int) = 1) ↔ T.count n = 1 := by omega
  rw [h3] at h1
  by_cases e : T.count n = 1
  · exact ⟨fun hb => absurd ⟨fun _ => e, fun _ => hb⟩ h1, fun h => absurd e h⟩
  · refine ⟨fun _ => e, fun _ => ?_⟩
    by_cases hb : n ∈ B
    · exact hb
    · exact absurd ⟨fun h => absurd h hb, fun h => absurd h e⟩ h1
theorem brought_no {A : List Int} {n : Int} (g : (decide (n ∈ A) == decide ((0 : Int) = 1)) = true) : n ∉ A := by
  have h1 : (n ∈ A) ↔ ((0 : Int) = 1) := by simpa using g
  exact fun h => absurd (h1.1 h) (by decide)
theorem brought_yes {A : List Int} {n : Int} (g : ¬ (decide (n ∈ A) == decide ((0 : Int) = 1)) = true) : n ∈ A := by
  by_cases h : n ∈ A
  · exact h
  · exfalso; apply g; rw [decide_eq_false h]; rfl
set_option maxHeartbeats 3200000 in
theorem mo_Kept (a b : Sz) (q : Option Addr) (c : Nat) (ls : List (Sl Deed)) (ha : a.l.length ≤ 1000000000) (hae : ∀ o ∈ a.l, o.le 1000000) (hb : b.l.length ≤ 1000000000) (hbe : ∀ o ∈ b.l, o.le 1000000) (hll : ls.length ≤ 1000) (htot : totL ls ≤ 1000) (hok : ∀ x ∈ ls, ∀ d ∈ x.l, d.err = 0 ∧ d.req.kind = 12) : Fn Tryz.prog 11 [.agg a.cells.toArray, .agg b.cells.toArray, .slice q ls.length c].toArray (RowF Kd.sl q ls :: NestSl Kd.deed ls :: (StL a ++ StL b))
    (fun r post => r = .bool (decide (keptP a.st.ids b.st.ids (takes ls))) ∧ post = []) := by
  refine Fn.enter (N := 62) Tryz.func11 rfl Tryz.ntmps11 (by kernel_rfl) rfl (fun ρ L => ?_)
  refine K.seq ?_
  refine K.region ?_
  refine KO.loud rfl (l_box rfl rfl) ?_
  rintro _ _ ⟨b3, rfl, rfl⟩
  refine KO.loud rfl (l_box rfl rfl) ?_
  rintro _ _ ⟨b4, rfl, rfl⟩
  refine KO.q rfl (q_assign rfl) ?_
  refine KO.done ?_
  refine K.seq ?_
  refine K.drawS [pv b3 24 a.cells, pv b4 24 b.cells] (fun _ h => h.subD) mixed ?_
  refine D.q 0 rfl (by kernel_rfl) (by kernel_rfl) (q_loadN ck_24 rfl rfl (by first | (apply cells_pv; (repeat (first | exact List.Mem.head _ | apply List.Mem.tail))) | (apply cells_fv; (repeat (first | exact List.Mem.head _ | apply List.Mem.tail))))) (fun _ h => h.subD) ?_
  refine D.q 2 rfl (by kernel_rfl) (by kernel_rfl) (q_loadN ck_24 rfl rfl (by first | (apply cells_pv; (repeat (first | exact List.Mem.head _ | apply List.Mem.tail))) | (apply cells_fv; (repeat (first | exact List.Mem.head _ | apply List.Mem.tail))))) (fun _ h => h.subD) ?_
  refine D.all (rs := [1]) (by kernel_rfl) rfl (DAll.cons rfl (by kernel_rfl) (OpL.callD rfl (h := mo_ids a ha hae)) (.inr (by rintro _ _ ⟨_, ⟨mA, eA, rfl, hA, rfl⟩, rfl⟩ w h; exact h.subD)) rfl ?_ DAll.nil)
  rintro _ _ ⟨_, ⟨mA, eA, rfl, hA, rfl⟩, rfl⟩
  refine D.all (rs := [3]) (by kernel_rfl) rfl (DAll.cons rfl (by kernel_rfl) (OpL.callD rfl (h := mo_ids b hb hbe)) (.inl (by kernel_rfl)) rfl ?_ DAll.nil)
  rintro _ _ ⟨_, ⟨mB, eB, rfl, hB, rfl⟩, rfl⟩
  refine D.q 4 rfl (by kernel_rfl) (by kernel_rfl) (q_assign rfl) (fun _ h => h.subD) ?_
  refine D.q 5 rfl (by kernel_rfl) (by kernel_rfl) (q_assign rfl) (fun _ h => h.subD) ?_
  refine D.done (by kernel_rfl) ?_
  refine K.seq ?_
  refine K.region ?_
  refine KO.q rfl (q_move rfl) ?_
  refine KO.loud rfl (OpL.callD rfl (h := mo_moves q c ls hll htot hok)) ?_
  rintro _ _ ⟨_, ⟨mT, mR, eT, rfl, hT, rfl⟩, rfl⟩
  refine KO.q rfl (q_move rfl) ?_
  refine KO.q rfl (q_extract rfl rfl) ?_
  refine KO.q rfl (q_extract rfl rfl) ?_
  refine KO.q rfl (q_assign rfl) ?_
  refine KO.q rfl (q_assign rfl) ?_
  refine KO.done ?_
  refine K.seq <| K.seq ?_
  refine K.region ?_
  refine KO.q rfl (q_move rfl) ?_
  refine KO.loud rfl (l_rangeM (enc := encN) (b := mA) (es := eA) Tryz.underlying60 rfl (by repeat (first | exact Pick.here | apply Pick.there))) ?_
  rintro _ _ ⟨rr, rfl, rfl⟩
  refine KO.done ?_
  refine K.block ?_
  refine K.rounds2 (ι := { x : List (Int × Value) × Option (Int × Value) // (∀ p ∈ x.1, p ∈ eA) ∧ ∀ p ∈ eA, p ∈ x.1 ∨ okA b.st.ids (takes ls) p.1 }) (fun x => [(23, .pointer (some ⟨rr, 0, none⟩)), (7, .map (some mA)), (8, .map (some mB)), (9, .map (some mT)), (10, .map (some mR))]) (fun x => [itO encN mA rr eA x.1.2 x.1.1, mpO encN mB eB, mpO encN mT eT, mpO encN mR []] ++ L) (fun x => x.1.1.length) ⟨(eA, none), fun p hp => hp, fun p hp => .inl hp⟩ (by repeat (first | exact Env.sub_nil _ | refine Env.sub_cons rfl ?_)) (fun w h => h.fitD) (fun x ih => ?_)
  obtain ⟨⟨todo, cur⟩, hsub, hgood⟩ := x
  dsimp only at hsub hgood ⊢
  refine K.seq ?_
  refine K.region ?_
  refine KO.loud rfl (l_nextM rfl (by repeat (first | exact Pick.here | apply Pick.there))) ?_
  rintro _ _ ⟨o, ho, rfl, rfl⟩
  refine KO.q rfl (q_extract rfl (nextL_0 ho)) ?_
  refine KO.done ?_
  refine K.seq ?_
  first | refine K.dcond (s := 25) rfl (fun g25 => ?_) (fun g25 => ?_) | refine K.bcond (s := 25) rfl (fun g25 => ?_) (fun g25 => ?_)
  · obtain ⟨i, rfl⟩ := Option.isSome_iff_exists.1 g25
    have hil := ho.some i rfl
    obtain ⟨p, hp⟩ : ∃ p, todo[i]? = some p := ⟨_, List.getElem?_eq_getElem hil⟩
    have hpm := hsub p (List.mem_of_getElem? hp)
    have hpA := hA.mem hpm
    have hlt : (todo.eraseIdx i).length < todo.length := by rw [List.length_eraseIdx_of_lt hil]; omega
    rw [show nextCur todo (some i) = some p from hp, show nextTodo todo (some i) = todo.eraseIdx i from rfl]
    refine K.skip <| K.block <| K.seq ?_
    refine K.region ?_
    refine KO.q rfl (q_entryM (p := p) rfl (by repeat (first | exact List.Mem.head _ | apply List.Mem.tail))) ?_
    refine KO.q rfl (q_extract (v := .int .i64 p.1) rfl rfl) ?_
    refine KO.q rfl (q_assign rfl) ?_
    refine KO.done ?_
    refine K.seq ?_
    refine K.region ?_
    refine KO.q rfl (q_move rfl) ?_
    refine KO.q rfl (q_move rfl) ?_
    refine KO.q rfl (q_is (q_lookup (n := p.1) Tryz.underlying60 (mkey_int Tryz.underlying3) zv_bool rfl rfl (by repeat (first | exact List.Mem.head _ | apply List.Mem.tail))) (hB.get p.1)) ?_
    refine KO.q rfl (q_move rfl) ?_
    refine KO.q rfl (q_move rfl) ?_
    refine KO.q rfl (q_is (q_lookup (n := p.1) Tryz.underlying62 (mkey_int Tryz.underlying3) zv_int rfl rfl (by repeat (first | exact List.Mem.head _ | apply List.Mem.tail))) (hT p.1)) ?_
    refine KO.q rfl (q_eq rfl rfl) ?_
    refine KO.q rfl (q_beq Tryz.underlying4 rfl rfl) ?_
    refine KO.q rfl (q_move rfl) ?_
    refine KO.split 36 rfl (fun g36 => ?_) (fun g36 => ?_)
    · have hr : decide (keptP a.st.ids b.st.ids (takes ls)) = false := decide_eq_false (kept_bad hpA (okA_no1 g36))
      refine KO.skip rfl ?_
      refine KO.skip rfl ?_
      refine KO.skip rfl ?_
      refine KO.skip rfl ?_
      refine KO.q rfl (q_pickT rfl rfl) ?_
      refine KO.done ?_
      refine K.yes rfl ?_
      refine K.seq ?_
      refine K.region ?_
      refine KO.q rfl (q_assign rfl) ?_
      refine KO.done ?_
      refine K.ret (fn := Tryz.f11) Tryz.func11 (fun a w hk hs => res1 Tryz.results11 hk rfl) (fun w hs => ?_)
      rw [hr]
      exact ⟨_, [], rfl, ⟨rfl, rfl⟩, hs.fitD⟩
    · refine KO.q rfl (q_move rfl) ?_
      refine KO.q rfl (q_move rfl) ?_
      refine KO.q rfl (q_is (q_lookup (n := p.1) Tryz.underlying62 (mkey_int Tryz.underlying3) zv_int rfl rfl (by repeat (first | exact List.Mem.head _ | apply List.Mem.tail))) (hT p.1)) ?_
      refine KO.q rfl (q_gt rfl rfl) ?_
      refine KO.q rfl (q_pickF rfl rfl) ?_
      refine KO.done ?_
      refine K.dcond (s := 41) rfl (fun g41 => ?_) (fun g41 => ?_)
      · have hr : decide (keptP a.st.ids b.st.ids (takes ls)) = false := decide_eq_false (kept_bad hpA (okA_no2 g41))
        refine K.seq ?_
        refine K.region ?_
        refine KO.q rfl (q_assign rfl) ?_
        refine KO.done ?_
        refine K.ret (fn := Tryz.f11) Tryz.func11 (fun a w hk hs => res1 Tryz.results11 hk rfl) (fun w hs => ?_)
        rw [hr]
        exact ⟨_, [], rfl, ⟨rfl, rfl⟩, hs.fitD⟩
      · have hyes : okA b.st.ids (takes ls) p.1 := okA_yes (by simpa using g36) g41
        refine K.skip <| K.inBlock ?_
        exact K.weak (by repeat (first | exact Env.sub_nil _ | refine Env.sub_cons rfl ?_)) (fun w h => h.fitD) (ih ⟨(todo.eraseIdx i, some p), fun x hx => hsub x (List.mem_of_mem_eraseIdx hx), erase_ok (P := fun p : Int × Value => okA b.st.ids (takes ls) p.1) hgood hp hyes⟩ hlt)
  · have htd := ho.none (by simpa using g25)
    subst htd
    have hallA : ∀ n ∈ a.st.ids, okA b.st.ids (takes ls) n := fun n hn => by
      obtain ⟨v, hv⟩ := hA.key hn
      rcases hgood _ hv with h | h
      · cases h
      · exact h
    clear ih
    refine K.st (fun w h => itO_back (h.pick (by repeat (first | exact Pick.here | apply Pick.there)))) ?_
    refine K.exit rfl ?_
    refine K.seq <| K.seq ?_
    refine K.region ?_
    refine KO.q rfl (q_move rfl) ?_
    refine KO.loud rfl (l_rangeM (enc := encN) (b := mB) (es := eB) Tryz.underlying60 rfl (by repeat (first | exact Pick.here | apply Pick.there))) ?_
    rintro _ _ ⟨rs, rfl, rfl⟩
    refine KO.done ?_
    refine K.block ?_
    refine K.rounds2 (ι := { x : List (Int × Value) × Option (Int × Value) // (∀ p ∈ x.1, p ∈ eB) ∧ ∀ p ∈ eB, p ∈ x.1 ∨ p.1 ∈ a.st.ids }) (fun x => [(43, .pointer (some ⟨rs, 0, none⟩)), (7, .map (some mA)), (8, .map (some mB)), (9, .map (some mT)), (10, .map (some mR))]) (fun x => [itO encN mB rs eB x.1.2 x.1.1, mpO encN mA eA, mpO encN mT eT, mpO encN mR []] ++ L) (fun x => x.1.1.length) ⟨(eB, none), fun p hp => hp, fun p hp => .inl hp⟩ (by repeat (first | exact Env.sub_nil _ | refine Env.sub_cons rfl ?_)) (fun w h => h.fitD) (fun x ih => ?_)
    obtain ⟨⟨todo, cur2⟩, hsub2, hgood2⟩ := x
    dsimp only at hsub2 hgood2 ⊢
    refine K.seq ?_
    refine K.region ?_
    refine KO.loud rfl (l_nextM rfl (by repeat (first | exact Pick.here | apply Pick.there))) ?_
    rintro _ _ ⟨o2, ho2, rfl, rfl⟩
    refine KO.q rfl (q_extract rfl (nextL_0 ho2)) ?_
    refine KO.done ?_
    refine K.seq ?_
    first | refine K.dcond (s := 45) rfl (fun g45 => ?_) (fun g45 => ?_) | refine K.bcond (s := 45) rfl (fun g45 => ?_) (fun g45 => ?_)
    · obtain ⟨i, rfl⟩ := Option.isSome_iff_exists.1 g45
      have hil := ho2.some i rfl
      obtain ⟨p, hp⟩ : ∃ p, todo[i]? = some p := ⟨_, List.getElem?_eq_getElem hil⟩
      have hpm := hsub2 p (List.mem_of_getElem? hp)
      have hpB := hB.mem hpm
      have hlt : (todo.eraseIdx i).length < todo.length := by rw [List.length_eraseIdx_of_lt hil]; omega
      rw [show nextCur todo (some i) = some p from hp, show nextTodo todo (some i) = todo.eraseIdx i from rfl]
      refine K.skip <| K.block <| K.seq ?_
      refine K.region ?_
      refine KO.q rfl (q_entryM (p := p) rfl (by repeat (first | exact List.Mem.head _ | apply List.Mem.tail))) ?_
      refine KO.q rfl (q_extract (v := .int .i64 p.1) rfl rfl) ?_
      refine KO.q rfl (q_assign rfl) ?_
      refine KO.done ?_
      refine K.seq ?_
      refine K.region ?_
      refine KO.q rfl (q_move rfl) ?_
      refine KO.q rfl (q_move rfl) ?_
      refine KO.q rfl (q_is (q_lookup (n := p.1) Tryz.underlying60 (mkey_int Tryz.underlying3) zv_bool rfl rfl (by repeat (first | exact List.Mem.head _ | apply List.Mem.tail))) (hA.get p.1)) ?_
      refine KO.q rfl (q_move rfl) ?_
      refine KO.q rfl (q_move rfl) ?_
      refine KO.q rfl (q_is (q_lookup (n := p.1) (es := []) Tryz.underlying62 (mkey_int Tryz.underlying3) zv_int rfl rfl (by repeat (first | exact List.Mem.head _ | apply List.Mem.tail))) (show _ = Value.int .i64 0 from rfl)) ?_
      refine KO.q rfl (q_eq rfl rfl) ?_
      refine KO.q rfl (q_beq Tryz.underlying4 rfl rfl) ?_
      refine KO.q rfl (q_move rfl) ?_
      refine KO.split 56 rfl (fun g56 => ?_) (fun g56 => ?_)
      · have hr : decide (keptP a.st.ids b.st.ids (takes ls)) = false := decide_eq_false (fun h => brought_no g56 (h.2 p.1 hpB))
        refine KO.skip rfl ?_
        refine KO.skip rfl ?_
        refine KO.skip rfl ?_
        refine KO.skip rfl ?_
        refine KO.q rfl (q_pickT rfl rfl) ?_
        refine KO.done ?_
        refine K.yes rfl ?_
        refine K.seq ?_
        refine K.region ?_
        refine KO.q rfl (q_assign rfl) ?_
        refine KO.done ?_
        refine K.ret (fn := Tryz.f11) Tryz.func11 (fun a w hk hs => res1 Tryz.results11 hk rfl) (fun w hs => ?_)
        rw [hr]
        exact ⟨_, [], rfl, ⟨rfl, rfl⟩, hs.fitD⟩
      · have hin : p.1 ∈ a.st.ids := brought_yes (by simpa using g56)
        refine KO.q rfl (q_move rfl) ?_
        refine KO.q rfl (q_move rfl) ?_
        refine KO.q rfl (q_is (q_lookup (n := p.1) (es := []) Tryz.underlying62 (mkey_int Tryz.underlying3) zv_int rfl rfl (by repeat (first | exact List.Mem.head _ | apply List.Mem.tail))) (show _ = Value.int .i64 0 from rfl)) ?_
        refine KO.q rfl (q_gt rfl rfl) ?_
        refine KO.q rfl (q_pickF rfl rfl) ?_
        refine KO.done ?_
        refine K.dcond (s := 61) rfl (fun g61 => ?_) (fun g61 => ?_)
        · exact absurd g61 (by decide)
        · refine K.skip <| K.inBlock ?_
          exact K.weak (by repeat (first | exact Env.sub_nil _ | refine Env.sub_cons rfl ?_)) (fun w h => h.fitD) (ih ⟨(todo.eraseIdx i, some p), fun x hx => hsub2 x (List.mem_of_mem_eraseIdx hx), erase_ok (P := fun p : Int × Value => p.1 ∈ a.st.ids) hgood2 hp hin⟩ hlt)
    · have htd := ho2.none (by simpa using g45)
      subst htd
      have hr : decide (keptP a.st.ids b.st.ids (takes ls)) = true := decide_eq_true ⟨hallA, fun n hn => by
        obtain ⟨v, hv⟩ := hB.key hn
        rcases hgood2 _ hv with h | h
        · cases h
        · exact h⟩
      clear ih
      refine K.exit rfl ?_
      refine K.seq ?_
      refine K.region ?_
      refine KO.q rfl (q_assign rfl) ?_
      refine KO.done ?_
      refine K.ret (fn := Tryz.f11) Tryz.func11 (fun a w hk hs => res1 Tryz.results11 hk rfl) (fun w hs => ?_)
      rw [hr]
      exact ⟨_, [], rfl, ⟨rfl, rfl⟩, hs.fitD⟩
end Go.Proofs.YthnmoiilaaoooaaGreat.L
