/- Walks: which objects and states may be. -/
import Derived.Test.YthnmoiilaaoooaaGreatC2
namespace Go.Proofs.YthnmoiilaaoooaaGreat.L
open Go Go.Proofs
attribute [local irreducible] pv fv pt fz RowF RowO rowP old pure_ elA
set_option maxRecDepth 100000
set_option linter.unusedSimpArgs false
set_option linter.unusedVariables false

theorem gr_msg (n : Nat) (hn : n ≤ 1099511627776) : Fn Tryz.prog 42 [.slice none 0 0, .int .i64 n].toArray [] (fun r post => ∃ p cap, r = .slice p 0 cap ∧ post = [RowO Kd.msg 39 p cap []]) := by
  refine Fn.enter (N := 27) Tryz.func42 rfl Tryz.ntmps42 (by kernel_rfl) rfl (fun ρ L => ?_)
  refine K.seq ?_
  refine K.region ?_
  refine KO.q rfl (q_assign rfl) ?_
  refine KO.done ?_
  refine K.seq <| K.seq ?_
  refine K.region ?_
  refine KO.q rfl (q_move rfl) ?_
  refine KO.q rfl (q_lt rfl rfl) ?_
  refine KO.done ?_
  refine K.dcond (s := 6) rfl (fun g6 => ?_) (fun g6 => ?_)
  · exact absurd g6 (by omega)
  · refine K.skip <| K.seq <| K.seq ?_
    refine K.region ?_
    refine KO.q rfl (q_move rfl) ?_
    refine KO.q rfl (q_move rfl) ?_
    refine KO.q rfl (q_cap Tryz.underlying31 rfl) ?_
    refine KO.q rfl (q_move rfl) ?_
    refine KO.q rfl (q_len Tryz.underlying31 rfl) ?_
    refine KO.q rfl (q_sub rfl rfl (by first | omega | (simp; omega)) (by first | omega | (simp; omega))) ?_
    refine KO.q rfl (q_is (q_sub rfl rfl (by first | omega | (simp; omega)) (by first | omega | (simp; omega))) (show Value.int .i64 ((n : Int) - (((0 : Nat) : Int) - ((0 : Nat) : Int))) = .int .i64 (n : Int) by simp)) ?_
    refine KO.q rfl (q_assign rfl) ?_
    refine KO.done ?_
    refine K.seq ?_
    refine K.region ?_
    refine KO.q rfl (q_move rfl) ?_
    refine KO.q rfl (q_gt rfl rfl) ?_
    refine KO.done ?_
    refine K.dcond (s := 16) rfl (fun g16 => ?_) (fun g16 => ?_)
    · refine K.region ?_
      refine KO.q rfl (q_move rfl) ?_
      refine KO.q rfl (q_move rfl) ?_
      refine KO.q rfl (q_cap Tryz.underlying31 rfl) ?_
      refine KO.q rfl (q_cutH se_31 rfl rfl (by first | omega | (simp; omega)) (by first | omega | (simp; omega))) ?_
      refine KO.q rfl (q_move rfl) ?_
      refine KO.loud rfl (l_growNil Kd.msg se_31 Tryz.underlying3 ⟨_, ze_39, rfl⟩ rfl rfl (by omega) (by omega) (by omega)) ?_
      rintro _ _ ⟨b22, cap22, rfl, rfl⟩
      refine KO.q rfl (q_move rfl) ?_
      refine KO.q rfl (q_len Tryz.underlying31 rfl) ?_
      refine KO.q rfl (q_cutH se_31 rfl rfl (by first | omega | (simp; omega)) (by first | omega | (simp; omega))) ?_
      refine KO.q rfl (q_assign rfl) ?_
      refine KO.done ?_
      refine K.seq ?_
      refine K.region ?_
      refine KO.q rfl (q_move rfl) ?_
      refine KO.q rfl (q_assign rfl) ?_
      refine KO.done ?_
      refine K.ret (fn := Tryz.f42) Tryz.func42 (fun a w hk hs => res1 Tryz.results42 hk rfl) (fun w hs => ?_)
      first
        | exact ⟨_, [RowO Kd.msg 39 (some ⟨b22, 0, none⟩) cap22 []], rfl, ⟨some ⟨b22, 0, none⟩, cap22, rfl, rfl⟩, hs.fitD⟩
        | exact ⟨_, [RowO Kd.msg 39 none 0 []], rfl, ⟨none, 0, rfl, rfl⟩, hs.fitD⟩
    · refine K.st (fun w h => rowO_nil (k := Kd.msg) 39 h) ?_
      refine K.skip <| K.seq ?_
      refine K.region ?_
      refine KO.q rfl (q_move rfl) ?_
      refine KO.q rfl (q_assign rfl) ?_
      refine KO.done ?_
      refine K.ret (fn := Tryz.f42) Tryz.func42 (fun a w hk hs => res1 Tryz.results42 hk rfl) (fun w hs => ?_)
      first
        | exact ⟨_, [RowO Kd.msg 39 (some ⟨b22, 0, none⟩) cap22 []], rfl, ⟨some ⟨b22, 0, none⟩, cap22, rfl, rfl⟩, hs.fitD⟩
        | exact ⟨_, [RowO Kd.msg 39 none 0 []], rfl, ⟨none, 0, rfl, rfl⟩, hs.fitD⟩
theorem flat_take_succ {l : List (Sl Msg)} {i : Nat} {e : Sl Msg} (h : l[i]? = some e) : (l.take (i + 1)).flatMap (·.l) = (l.take i).flatMap (·.l) ++ e.l := by
  rw [List.take_add_one, h]; simp
theorem flat_le {l : List (Sl Msg)} (i : Nat) : ((l.take i).flatMap (·.l)).length ≤ (l.flatMap (·.l)).length := by
  have : l.flatMap (·.l) = (l.take i).flatMap (·.l) ++ (l.drop i).flatMap (·.l) := by rw [← List.flatMap_append, List.take_append_drop]
  rw [this, List.length_append]; omega
set_option maxHeartbeats 800000 in
theorem cc_msg (q : Option Addr) (cap : Nat) (l : List (Sl Msg)) (hl : l.length ≤ 1000) (hb : (l.flatMap (·.l)).length ≤ 1099511627776) : Fn Tryz.prog 34 [.slice q l.length cap].toArray [RowF Kd.sl q l, NestSl Kd.msg l] (fun r post => ∃ q' c', r = .slice q' (l.flatMap (·.l)).length c' ∧ post = [RowF Kd.msg q' (l.flatMap (·.l))]) := by
  refine Fn.enter (N := 36) Tryz.func34 rfl Tryz.ntmps34 (by kernel_rfl) rfl (fun ρ L => ?_)
  refine K.seq ?_
  refine K.region ?_
  refine KO.q rfl (q_assign rfl) ?_
  refine KO.done ?_
  refine K.seq ?_
  refine K.region ?_
  refine KO.q rfl (q_assign rfl) ?_
  refine KO.done ?_
  refine K.seq <| K.seq ?_
  refine K.region ?_
  refine KO.q rfl (q_move rfl) ?_
  refine KO.q rfl (q_len Tryz.underlying98 rfl) ?_
  refine KO.q rfl (q_move rfl) ?_
  refine KO.done ?_
  refine K.block ?_
  refine K.rloop (ι := { i : Nat // i ≤ l.length }) (fun x => [(11, .int .i64 x.1), (10, .int .i64 l.length), (9, .slice q l.length cap), (3, .int .i64 ((l.take x.1).flatMap (·.l)).length), (0, .slice q l.length cap)]) (fun x => l.length - x.1) ⟨0, Nat.zero_le _⟩ (by repeat (first | exact Env.sub_nil _ | refine Env.sub_cons rfl ?_)) (fun x ih => ?_)
  obtain ⟨i, hi⟩ := x
  have hfl := flat_le (l := l) i
  dsimp only at hi ⊢
  refine K.seq ?_
  refine K.region ?_
  refine KO.q rfl (q_lt rfl rfl) ?_
  refine KO.done ?_
  refine K.seq ?_
  refine K.dcond (s := 12) rfl (fun g12 => ?_) (fun g12 => ?_)
  · obtain ⟨e, he⟩ : ∃ e, l[i]? = some e := ⟨_, List.getElem?_eq_getElem (by omega)⟩
    have hf2 := flat_le (l := l) (i + 1)
    have hs2 := congrArg List.length (flat_take_succ he)
    rw [List.length_append] at hs2
    refine K.skip <| K.seq <| K.block <| K.seq ?_
    refine K.region ?_
    first | refine KO.q rfl (q_ix _ se_98 rfl rfl rfl isF (by repeat (first | exact List.Mem.head _ | apply List.Mem.tail)) rfl (by first | assumption | omega | exact (List.getElem?_eq_some_iff.1 (by assumption)).1 | (simp; omega))) ?_ | refine KO.q rfl (q_ix _ se_98 rfl rfl rfl isO (by repeat (first | exact List.Mem.head _ | apply List.Mem.tail)) rfl (by first | assumption | omega | exact (List.getElem?_eq_some_iff.1 (by assumption)).1 | (simp; omega))) ?_
    first | refine KO.q rfl (q_ldE ck_31 rfl isF (by repeat (first | exact List.Mem.head _ | apply List.Mem.tail)) (by first | assumption | exact List.getElem?_eq_getElem (by first | assumption | omega | (simp; omega))) rfl) ?_ | refine KO.q rfl (q_ldE ck_31 rfl isO (by repeat (first | exact List.Mem.head _ | apply List.Mem.tail)) (by first | assumption | exact List.getElem?_eq_getElem (by first | assumption | omega | (simp; omega))) rfl) ?_
    refine KO.q rfl (q_assign rfl) ?_
    refine KO.done ?_
    refine K.seq ?_
    refine K.region ?_
    refine KO.q rfl (q_move rfl) ?_
    refine KO.q rfl (q_move rfl) ?_
    refine KO.q rfl (q_len Tryz.underlying31 rfl) ?_
    refine KO.q rfl (q_add rfl rfl (by first | omega | (simp; omega)) (by first | omega | (simp; omega))) ?_
    refine KO.q rfl (q_assign rfl) ?_
    refine KO.done ?_
    refine K.seq ?_
    refine K.region ?_
    refine KO.q rfl (q_move rfl) ?_
    refine KO.q rfl (q_lt rfl rfl) ?_
    refine KO.done ?_
    refine K.dcond (s := 20) rfl (fun g20 => ?_) (fun g20 => ?_)
    · exact absurd g20 (by omega)
    · refine K.skip <| K.inBlock ?_
      refine K.region ?_
      refine KO.q rfl (q_add rfl rfl (by first | omega | (simp; omega)) (by first | omega | (simp; omega))) ?_
      refine KO.q rfl (q_move rfl) ?_
      refine KO.done ?_
      refine K.subE (Env.sub_cons rfl (Env.sub_cons rfl (Env.sub_cons rfl (Env.sub_cons ?_ (Env.sub_cons rfl (Env.sub_nil _)))))) (ih ⟨i + 1, by omega⟩ (by show l.length - (i + 1) < l.length - i; omega))
      show _ = some (Value.int .i64 (((l.take (i + 1)).flatMap (·.l)).length : Int))
      rw [hs2]
      rfl
  · obtain rfl : i = l.length := by omega
    rw [List.take_length]
    refine K.exit rfl ?_
    refine K.seq ?_
    refine K.region ?_
    refine KO.q rfl (q_move rfl) ?_
    refine KO.loud rfl (OpL.callE rfl (gr_msg _ hb)) ?_
    rintro _ _ ⟨_, ⟨p1, cap1, rfl, rfl⟩, rfl⟩
    refine KO.q rfl (q_assign rfl) ?_
    refine KO.done ?_
    refine K.seq <| K.seq ?_
    refine K.region ?_
    refine KO.q rfl (q_move rfl) ?_
    refine KO.q rfl (q_len Tryz.underlying98 rfl) ?_
    refine KO.q rfl (q_move rfl) ?_
    refine KO.done ?_
    refine K.block ?_
    refine K.rounds2 (ι := { x : Nat × Option Addr × Nat // x.1 ≤ l.length }) (fun x => [(27, .int .i64 x.1.1), (26, .int .i64 l.length), (25, .slice q l.length cap), (6, .slice x.1.2.1 ((l.take x.1.1).flatMap (·.l)).length x.1.2.2)]) (fun x => [RowO Kd.msg 39 x.1.2.1 x.1.2.2 ((l.take x.1.1).flatMap (·.l)), RowF Kd.sl q l, NestSl Kd.msg l] ++ L) (fun x => l.length - x.1.1) ⟨(0, p1, cap1), Nat.zero_le _⟩ (by repeat (first | exact Env.sub_nil _ | refine Env.sub_cons rfl ?_)) (fun w h => h.fitD) (fun x ih => ?_)
    obtain ⟨⟨i, p', cap'⟩, hi⟩ := x
    have hfl := flat_le (l := l) i
    dsimp only at hi ⊢
    refine K.seq ?_
    refine K.region ?_
    refine KO.q rfl (q_lt rfl rfl) ?_
    refine KO.done ?_
    refine K.seq ?_
    refine K.dcond (s := 28) rfl (fun g28 => ?_) (fun g28 => ?_)
    · obtain ⟨e, he⟩ : ∃ e, l[i]? = some e := ⟨_, List.getElem?_eq_getElem (by omega)⟩
      have hf2 := flat_le (l := l) (i + 1)
      have hs2 := congrArg List.length (flat_take_succ he)
      rw [List.length_append] at hs2
      refine K.st (fun w h => nestSl_at (k := Kd.msg) (l := l) (by repeat (first | exact List.Mem.head _ | apply List.Mem.tail)) (List.mem_of_getElem? he) h) ?_
      refine K.skip <| K.seq <| K.block <| K.seq ?_
      refine K.region ?_
      first | refine KO.q rfl (q_ix _ se_98 rfl rfl rfl isF (by repeat (first | exact List.Mem.head _ | apply List.Mem.tail)) rfl (by first | assumption | omega | exact (List.getElem?_eq_some_iff.1 (by assumption)).1 | (simp; omega))) ?_ | refine KO.q rfl (q_ix _ se_98 rfl rfl rfl isO (by repeat (first | exact List.Mem.head _ | apply List.Mem.tail)) rfl (by first | assumption | omega | exact (List.getElem?_eq_some_iff.1 (by assumption)).1 | (simp; omega))) ?_
      first | refine KO.q rfl (q_ldE ck_31 rfl isF (by repeat (first | exact List.Mem.head _ | apply List.Mem.tail)) (by first | assumption | exact List.getElem?_eq_getElem (by first | assumption | omega | (simp; omega))) rfl) ?_ | refine KO.q rfl (q_ldE ck_31 rfl isO (by repeat (first | exact List.Mem.head _ | apply List.Mem.tail)) (by first | assumption | exact List.getElem?_eq_getElem (by first | assumption | omega | (simp; omega))) rfl) ?_
      refine KO.q rfl (q_assign rfl) ?_
      refine KO.done ?_
      refine K.region ?_
      refine KO.q rfl (q_move rfl) ?_
      refine KO.q rfl (q_move rfl) ?_
      refine KO.loud rfl (l_append Kd.msg se_31 Tryz.underlying31 ⟨_, ze_39, rfl⟩ (by decide) rfl rfl (by repeat (first | exact Pick.here | apply Pick.there)) (isF (p := e.q) (xs := e.l)) (by repeat (first | exact List.Mem.head _ | apply List.Mem.tail)) rfl rfl (by omega)) ?_
      rintro _ _ ⟨p2, cap2, rfl, rfl⟩
      refine KO.q rfl (q_assign rfl) ?_
      refine KO.done ?_
      refine K.inBlock ?_
      refine K.region ?_
      refine KO.q rfl (q_add rfl rfl (by first | omega | (simp; omega)) (by first | omega | (simp; omega))) ?_
      refine KO.q rfl (q_move rfl) ?_
      refine KO.done ?_
      rw [← flat_take_succ he]
      refine K.weak (by repeat (first | exact Env.sub_nil _ | refine Env.sub_cons rfl ?_)) (fun w h => ?_) (ih ⟨(i + 1, p2, cap2), by show i + 1 ≤ l.length; omega⟩ (by show l.length - (i + 1) < l.length - i; omega))
      dsimp only
      exact h.fitD
    · obtain rfl : i = l.length := by omega
      rw [List.take_length]
      refine K.st (fun w h => rowO_freeze (h.pick (by repeat (first | exact Pick.here | apply Pick.there)))) ?_
      refine K.exit rfl ?_
      refine K.seq ?_
      refine K.region ?_
      refine KO.q rfl (q_move rfl) ?_
      refine KO.q rfl (q_assign rfl) ?_
      refine KO.done ?_
      refine K.ret (fn := Tryz.f34) Tryz.func34 (fun a w hk hs => res1 Tryz.results34 hk rfl) (fun w hs => ?_)
      exact ⟨_, [RowF Kd.msg p' (l.flatMap (·.l))], rfl, ⟨p', cap', rfl, rfl⟩, hs.fitD⟩
theorem all_any {α : Type} (l : List α) (p : α → Bool) : l.all p = !(l.any (fun x => !p x)) := by rw [List.not_any_eq_all_not]; simp
theorem so1 (r : Rw) : Fn Tryz.prog 64 [.agg r.cells.toArray].toArray [] (fun v post => v = .bool (!r.right) ∧ post = []) := by
  refine Fn.enter (N := 6) Tryz.func64 rfl Tryz.ntmps64 (by kernel_rfl) rfl (fun ρ L => ?_)
  refine K.seq ?_
  refine K.region ?_
  refine KO.loud rfl (l_box rfl rfl) ?_
  rintro _ _ ⟨b1, rfl, rfl⟩
  refine KO.q rfl (q_assign rfl) ?_
  refine KO.done ?_
  refine K.seq ?_
  refine K.region ?_
  refine KO.q rfl (q_loadN ck_29 rfl rfl (by first | (apply cells_pv; (repeat (first | exact List.Mem.head _ | apply List.Mem.tail))) | (apply cells_fv; (repeat (first | exact List.Mem.head _ | apply List.Mem.tail))))) ?_
  refine KO.loud rfl (OpL.callD rfl (h := rw_Right _)) ?_
  rintro _ _ ⟨_, ⟨rfl, rfl⟩, rfl⟩
  refine KO.q rfl (q_not rfl) ?_
  refine KO.q rfl (q_assign rfl) ?_
  refine KO.done ?_
  refine K.ret (fn := Tryz.f64) Tryz.func64 (fun a w hk hs => res1 Tryz.results64 hk rfl) (fun w hs => ?_)
  exact ⟨_, [], rfl, ⟨rfl, rfl⟩, hs.fitD⟩
theorem so2 (m : Msg) : Fn Tryz.prog 66 [.agg m.cells.toArray].toArray [] (fun v post => v = .bool (!m.right) ∧ post = []) := by
  refine Fn.enter (N := 6) Tryz.func66 rfl Tryz.ntmps66 (by kernel_rfl) rfl (fun ρ L => ?_)
  refine K.seq ?_
  refine K.region ?_
  refine KO.loud rfl (l_box rfl rfl) ?_
  rintro _ _ ⟨b1, rfl, rfl⟩
  refine KO.q rfl (q_assign rfl) ?_
  refine KO.done ?_
  refine K.seq ?_
  refine K.region ?_
  refine KO.q rfl (q_loadN ck_39 rfl rfl (by first | (apply cells_pv; (repeat (first | exact List.Mem.head _ | apply List.Mem.tail))) | (apply cells_fv; (repeat (first | exact List.Mem.head _ | apply List.Mem.tail))))) ?_
  refine KO.loud rfl (OpL.callD rfl (h := msg_Right _)) ?_
  rintro _ _ ⟨_, ⟨rfl, rfl⟩, rfl⟩
  refine KO.q rfl (q_not rfl) ?_
  refine KO.q rfl (q_assign rfl) ?_
  refine KO.done ?_
  refine K.ret (fn := Tryz.f66) Tryz.func66 (fun a w hk hs => res1 Tryz.results66 hk rfl) (fun w hs => ?_)
  exact ⟨_, [], rfl, ⟨rfl, rfl⟩, hs.fitD⟩
abbrev wrongV : Value := .func (.func 66) #[] #[]
theorem so3 (b : Nat) (m : Msg) : Fn Tryz.prog 70 [.agg m.cells.toArray, .pointer (some ⟨b, 0, none⟩)].toArray [pv b 67 [wrongV]] (fun v post => v = .bool (m.claimed || !m.right) ∧ post = [pv b 67 [wrongV]]) := by
  refine Fn.enter (N := 11) Tryz.func70 rfl Tryz.ntmps70 (by kernel_rfl) rfl (fun ρ L => ?_)
  refine K.seq ?_
  refine K.region ?_
  refine KO.loud rfl (l_box rfl rfl) ?_
  rintro _ _ ⟨b2, rfl, rfl⟩
  refine KO.q rfl (q_assign rfl) ?_
  refine KO.done ?_
  refine K.seq ?_
  refine K.region ?_
  refine KO.q rfl (q_field fo_39_3 rfl) ?_
  refine KO.q rfl (q_load1D ck_4 rfl) ?_
  refine KO.q rfl (q_move rfl) ?_
  first | refine KO.dsplit 6 rfl (fun g6 => ?_) (fun g6 => ?_) | refine KO.split 6 rfl (fun g6 => ?_) (fun g6 => ?_)
  · refine KO.skip rfl ?_
    refine KO.skip rfl ?_
    refine KO.skip rfl ?_
    refine KO.q rfl (q_pickT rfl rfl) ?_
    refine KO.q rfl (q_assign rfl) ?_
    refine KO.done ?_
    refine K.ret (fn := Tryz.f70) Tryz.func70 (fun a w hk hs => res1 Tryz.results70 hk rfl) (fun w hs => ?_)
    exact ⟨_, [pv b 67 [wrongV]], rfl, ⟨by rw [g6]; rfl, rfl⟩, hs.fitD⟩
  · refine KO.q rfl (q_load1D ck_67 rfl) ?_
    refine KO.q rfl (q_loadN ck_39 rfl rfl (by first | (apply cells_pv; (repeat (first | exact List.Mem.head _ | apply List.Mem.tail))) | (apply cells_fv; (repeat (first | exact List.Mem.head _ | apply List.Mem.tail))))) ?_
    refine KO.loud rfl (OpL.callCG (first := []) (captured := []) rfl rfl (by repeat (first | exact Give.nil | (apply Give.perI; (repeat (first | exact List.Mem.head _ | apply List.Mem.tail))) | (apply Give.own; (repeat (first | exact Pick.here | apply Pick.there))))) (so2 m)) ?_
    rintro _ _ ⟨_, ⟨rfl, rfl⟩, rfl⟩
    refine KO.q rfl (q_pickF rfl rfl) ?_
    refine KO.q rfl (q_assign rfl) ?_
    refine KO.done ?_
    refine K.ret (fn := Tryz.f70) Tryz.func70 (fun a w hk hs => res1 Tryz.results70 hk rfl) (fun w hs => ?_)
    exact ⟨_, [pv b 67 [wrongV]], rfl, ⟨by rw [g6]; rfl, rfl⟩, hs.fitD⟩
--%call poste/state.object := st_object _ (by assumption)
set_option maxHeartbeats 1600000 in
theorem st_object (o : Oz) (hok : o.ok) : Fn Tryz.prog 47 [.agg o.cells.toArray].toArray (ObL o) (fun v post => v = .bool o.x.right ∧ post = []) := by
  obtain ⟨⟨hs1, hs2, hs3, hs4, hs5, hs6, hs7, hs8, hs9⟩, hc1, hc2, hc3⟩ := hok
  have hz : ∀ r ∈ o.x.rows, (r.key.size : Int) ≤ 9223372036854775807 := fun r hr => by have := (hs4 r hr).1; omega
  refine Fn.enter (N := 59) Tryz.func47 rfl Tryz.ntmps47 (by kernel_rfl) rfl (fun ρ L => ?_)
  refine K.seq ?_
  refine K.region ?_
  refine KO.loud rfl (l_box rfl rfl) ?_
  rintro _ _ ⟨b1, rfl, rfl⟩
  refine KO.q rfl (q_assign rfl) ?_
  refine KO.done ?_
  refine K.seq <| K.seq ?_
  refine K.region ?_
  refine KO.q rfl (q_field fo_33_0 rfl) ?_
  refine KO.q rfl (q_load1D ck_9 rfl) ?_
  refine KO.q rfl (q_field fo_33_1 rfl) ?_
  refine KO.q rfl (q_load1D ck_3 rfl) ?_
  refine KO.q rfl (q_field fo_33_2 rfl) ?_
  refine KO.q rfl (q_load1D ck_3 rfl) ?_
  refine KO.loud rfl (OpL.callD rfl (h := eff_Object _ _ _)) ?_
  rintro _ _ ⟨_, ⟨rfl, rfl⟩, rfl⟩
  refine KO.q rfl (q_not rfl) ?_
  refine KO.done ?_
  refine K.bcond (s := 11) rfl (fun g11 => ?_) (fun g11 => ?_)
  · have hr : o.x.right = false := by
      unfold Ob.right
      rw [show (effName o.x.name && effKind o.x.kind o.x.limit) = false by simpa only [Bool.not_eq_true'] using g11]
      exact Bool.false_and _
    refine K.seq ?_
    refine K.region ?_
    refine KO.q rfl (q_assign rfl) ?_
    refine KO.done ?_
    refine K.ret (fn := Tryz.f47) Tryz.func47 (fun a w hk hs => res1 Tryz.results47 hk rfl) (fun w hs => ?_)
    exact ⟨_, [], rfl, ⟨by
      refine congrArg Value.bool (Eq.trans ?_ hr.symm)
      clear hr hs hs1 hs2 hs3 hs4 hs5 hs6 hs7 hs8 hs9 hc1 hc2 hc3 hz
      generalize o.x.rows.any (fun r => !r.right) = A1 at *
      generalize o.x.msgs.any (fun m => !m.right) = A2 at *
      generalize o.x.dead.any (fun m => m.claimed || !m.right) = A3 at *
      clear g11
      simp_all, rfl⟩, hs.fitD⟩
  · have hr : o.x.right = (if o.x.kind = 1 then decide ((o.x.msgs.length : Int) = 0) && decide ((o.x.dead.length : Int) = 0) && risesR o.x.rows && !(o.x.rows.any (fun r => !r.right)) else decide ((o.x.rows.length : Int) = 0) && risesM o.x.msgs && !(o.x.msgs.any (fun m => !m.right)) && !(o.x.dead.any (fun m => m.claimed || !m.right))) := by
      unfold Ob.right
      rw [show (effName o.x.name && effKind o.x.kind o.x.limit) = true by simpa only [Bool.not_eq_false'] using g11, all_any o.x.rows, all_any o.x.msgs, all_any o.x.dead, Bool.true_and]
      simp only [Bool.not_and, Bool.not_not]
    refine K.skip <| K.seq <| K.seq ?_
    refine K.region ?_
    refine KO.q rfl (q_field fo_33_1 rfl) ?_
    refine KO.q rfl (q_load1D ck_3 rfl) ?_
    refine KO.q rfl (q_eq rfl rfl) ?_
    refine KO.done ?_
    refine K.dcond (s := 14) rfl (fun g14 => ?_) (fun g14 => ?_)
    · refine K.seq ?_
      refine K.region ?_
      refine KO.q rfl (q_field fo_33_4 rfl) ?_
      refine KO.q rfl (q_load1D ck_31 rfl) ?_
      refine KO.q rfl (q_len Tryz.underlying31 rfl) ?_
      refine KO.q rfl (q_eq rfl rfl) ?_
      refine KO.q rfl (q_move rfl) ?_
      refine KO.dsplit 19 rfl (fun g19 => ?_) (fun g19 => ?_)
      · refine KO.q rfl (q_field fo_33_5 rfl) ?_
        refine KO.q rfl (q_load1D ck_31 rfl) ?_
        refine KO.q rfl (q_len Tryz.underlying31 rfl) ?_
        refine KO.q rfl (q_eq rfl rfl) ?_
        refine KO.q rfl (q_pickT rfl rfl) ?_
        refine KO.q rfl (q_move rfl) ?_
        refine KO.dsplit 25 rfl (fun g25 => ?_) (fun g25 => ?_)
        · refine KO.q rfl (q_field fo_33_3 rfl) ?_
          refine KO.q rfl (q_load1D ck_30 rfl) ?_
          refine KO.loud rfl (OpL.callD rfl (h := nd_Rises _ _ _ (by first | omega | (simp; omega)) (by assumption))) ?_
          rintro _ _ ⟨_, ⟨rfl, rfl⟩, rfl⟩
          refine KO.q rfl (q_pickT rfl rfl) ?_
          refine KO.q rfl (q_move rfl) ?_
          refine KO.split 30 rfl (fun g30 => ?_) (fun g30 => ?_)
          · refine KO.q rfl (q_field fo_33_3 rfl) ?_
            refine KO.q rfl (q_load1D ck_30 rfl) ?_
            refine KO.st (fun w h => St.emp h) ?_
            refine KO.loud rfl (OpL.callD rfl (h := cof_rw emp o.z.q1 o.z.c1 o.x.rows 64 [] (fun r => !r.right) (by omega) (fun x _ => (so1 x).frame1 emp))) ?_
            rintro _ _ ⟨_, ⟨rfl, rfl⟩, rfl⟩
            refine KO.q rfl (q_not rfl) ?_
            refine KO.q rfl (q_pickT rfl rfl) ?_
            refine KO.q rfl (q_assign rfl) ?_
            refine KO.done ?_
            refine K.ret (fn := Tryz.f47) Tryz.func47 (fun a w hk hs => res1 Tryz.results47 hk rfl) (fun w hs => ?_)
            exact ⟨_, [], rfl, ⟨by
              refine congrArg Value.bool (Eq.trans ?_ hr.symm)
              clear hr hs hs1 hs2 hs3 hs4 hs5 hs6 hs7 hs8 hs9 hc1 hc2 hc3 hz
              generalize o.x.rows.any (fun r => !r.right) = A1 at *
              generalize o.x.msgs.any (fun m => !m.right) = A2 at *
              generalize o.x.dead.any (fun m => m.claimed || !m.right) = A3 at *
              clear g11
              simp_all, rfl⟩, hs.fitD⟩
          · refine KO.skip rfl ?_
            refine KO.skip rfl ?_
            refine KO.skip rfl ?_
            refine KO.skip rfl ?_
            refine KO.q rfl (q_pickF rfl rfl) ?_
            refine KO.q rfl (q_assign rfl) ?_
            refine KO.done ?_
            refine K.ret (fn := Tryz.f47) Tryz.func47 (fun a w hk hs => res1 Tryz.results47 hk rfl) (fun w hs => ?_)
            exact ⟨_, [], rfl, ⟨by
              refine congrArg Value.bool (Eq.trans ?_ hr.symm)
              clear hr hs hs1 hs2 hs3 hs4 hs5 hs6 hs7 hs8 hs9 hc1 hc2 hc3 hz
              generalize o.x.rows.any (fun r => !r.right) = A1 at *
              generalize o.x.msgs.any (fun m => !m.right) = A2 at *
              generalize o.x.dead.any (fun m => m.claimed || !m.right) = A3 at *
              clear g11
              simp_all, rfl⟩, hs.fitD⟩
        · refine KO.skip rfl ?_
          refine KO.skip rfl ?_
          refine KO.skip rfl ?_
          refine KO.q rfl (q_pickF rfl rfl) ?_
          refine KO.q rfl (q_move rfl) ?_
          refine KO.skip rfl ?_
          refine KO.skip rfl ?_
          refine KO.skip rfl ?_
          refine KO.skip rfl ?_
          refine KO.q rfl (q_pickF rfl rfl) ?_
          refine KO.q rfl (q_assign rfl) ?_
          refine KO.done ?_
          refine K.ret (fn := Tryz.f47) Tryz.func47 (fun a w hk hs => res1 Tryz.results47 hk rfl) (fun w hs => ?_)
          exact ⟨_, [], rfl, ⟨by
            refine congrArg Value.bool (Eq.trans ?_ hr.symm)
            clear hr hs hs1 hs2 hs3 hs4 hs5 hs6 hs7 hs8 hs9 hc1 hc2 hc3 hz
            generalize o.x.rows.any (fun r => !r.right) = A1 at *
            generalize o.x.msgs.any (fun m => !m.right) = A2 at *
            generalize o.x.dead.any (fun m => m.claimed || !m.right) = A3 at *
            clear g11
            simp_all, rfl⟩, hs.fitD⟩
      · refine KO.skip rfl ?_
        refine KO.skip rfl ?_
        refine KO.skip rfl ?_
        refine KO.skip rfl ?_
        refine KO.q rfl (q_pickF rfl rfl) ?_
        refine KO.q rfl (q_move rfl) ?_
        refine KO.skip rfl ?_
        refine KO.skip rfl ?_
        refine KO.skip rfl ?_
        refine KO.q rfl (q_pickF rfl rfl) ?_
        refine KO.q rfl (q_move rfl) ?_
        refine KO.skip rfl ?_
        refine KO.skip rfl ?_
        refine KO.skip rfl ?_
        refine KO.skip rfl ?_
        refine KO.q rfl (q_pickF rfl rfl) ?_
        refine KO.q rfl (q_assign rfl) ?_
        refine KO.done ?_
        refine K.ret (fn := Tryz.f47) Tryz.func47 (fun a w hk hs => res1 Tryz.results47 hk rfl) (fun w hs => ?_)
        exact ⟨_, [], rfl, ⟨by
          refine congrArg Value.bool (Eq.trans ?_ hr.symm)
          clear hr hs hs1 hs2 hs3 hs4 hs5 hs6 hs7 hs8 hs9 hc1 hc2 hc3 hz
          generalize o.x.rows.any (fun r => !r.right) = A1 at *
          generalize o.x.msgs.any (fun m => !m.right) = A2 at *
          generalize o.x.dead.any (fun m => m.claimed || !m.right) = A3 at *
          clear g11
          simp_all, rfl⟩, hs.fitD⟩
    · refine K.skip <| K.seq ?_
      refine K.region ?_
      refine KO.loud rfl (l_alloc zo_67) ?_
      rintro _ _ ⟨b3, rfl, rfl⟩
      refine KO.loudN rfl (l_store1 ck_67 rfl rfl rfl (by repeat (first | exact Pick.here | apply Pick.there)) (by repeat (first | exact SetAt.here | apply SetAt.there))) ?_
      rintro _ _ ⟨rfl, rfl⟩
      refine KO.done ?_
      refine K.seq ?_
      refine K.region ?_
      refine KO.q rfl (q_field fo_33_3 rfl) ?_
      refine KO.q rfl (q_load1D ck_30 rfl) ?_
      refine KO.q rfl (q_len Tryz.underlying30 rfl) ?_
      refine KO.q rfl (q_eq rfl rfl) ?_
      refine KO.q rfl (q_move rfl) ?_
      refine KO.dsplit 40 rfl (fun g40 => ?_) (fun g40 => ?_)
      · refine KO.q rfl (q_field fo_33_4 rfl) ?_
        refine KO.q rfl (q_load1D ck_31 rfl) ?_
        refine KO.loud rfl (OpL.callD rfl (h := qu_Rises _ _ _ (by first | omega | (simp; omega)))) ?_
        rintro _ _ ⟨_, ⟨rfl, rfl⟩, rfl⟩
        refine KO.q rfl (q_pickT rfl rfl) ?_
        refine KO.q rfl (q_move rfl) ?_
        refine KO.split 45 rfl (fun g45 => ?_) (fun g45 => ?_)
        · refine KO.q rfl (q_field fo_33_4 rfl) ?_
          refine KO.q rfl (q_load1D ck_31 rfl) ?_
          refine KO.q rfl (q_load1D ck_67 rfl) ?_
          refine KO.st (fun w h => St.emp h) ?_
          refine KO.loud rfl (OpL.callD rfl (h := cof_msg emp o.z.q2 o.z.c2 o.x.msgs 66 [] (fun m => !m.right) (by omega) (fun x _ => (so2 x).frame1 emp))) ?_
          rintro _ _ ⟨_, ⟨rfl, rfl⟩, rfl⟩
          refine KO.q rfl (q_not rfl) ?_
          refine KO.q rfl (q_pickT rfl rfl) ?_
          refine KO.q rfl (q_move rfl) ?_
          refine KO.split 52 rfl (fun g52 => ?_) (fun g52 => ?_)
          · refine KO.q rfl (q_field fo_33_5 rfl) ?_
            refine KO.q rfl (q_load1D ck_31 rfl) ?_
            refine KO.q rfl (q_func rfl rfl) ?_
            refine KO.loud rfl (OpL.callD rfl (h := cof_msg (pv b3 67 [wrongV]) o.z.q3 o.z.c3 o.x.dead 70 [.pointer (some ⟨b3, 0, none⟩)] (fun m => m.claimed || !m.right) (by omega) (fun x _ => so3 b3 x))) ?_
            rintro _ _ ⟨_, ⟨rfl, rfl⟩, rfl⟩
            refine KO.q rfl (q_not rfl) ?_
            refine KO.q rfl (q_pickT rfl rfl) ?_
            refine KO.q rfl (q_assign rfl) ?_
            refine KO.done ?_
            refine K.ret (fn := Tryz.f47) Tryz.func47 (fun a w hk hs => res1 Tryz.results47 hk rfl) (fun w hs => ?_)
            exact ⟨_, [], rfl, ⟨by
              refine congrArg Value.bool (Eq.trans ?_ hr.symm)
              clear hr hs hs1 hs2 hs3 hs4 hs5 hs6 hs7 hs8 hs9 hc1 hc2 hc3 hz
              generalize o.x.rows.any (fun r => !r.right) = A1 at *
              generalize o.x.msgs.any (fun m => !m.right) = A2 at *
              generalize o.x.dead.any (fun m => m.claimed || !m.right) = A3 at *
              clear g11
              simp_all, rfl⟩, hs.fitD⟩
          · refine KO.skip rfl ?_
            refine KO.skip rfl ?_
            refine KO.skip rfl ?_
            refine KO.skip rfl ?_
            refine KO.skip rfl ?_
            refine KO.q rfl (q_pickF rfl rfl) ?_
            refine KO.q rfl (q_assign rfl) ?_
            refine KO.done ?_
            refine K.ret (fn := Tryz.f47) Tryz.func47 (fun a w hk hs => res1 Tryz.results47 hk rfl) (fun w hs => ?_)
            exact ⟨_, [], rfl, ⟨by
              refine congrArg Value.bool (Eq.trans ?_ hr.symm)
              clear hr hs hs1 hs2 hs3 hs4 hs5 hs6 hs7 hs8 hs9 hc1 hc2 hc3 hz
              generalize o.x.rows.any (fun r => !r.right) = A1 at *
              generalize o.x.msgs.any (fun m => !m.right) = A2 at *
              generalize o.x.dead.any (fun m => m.claimed || !m.right) = A3 at *
              clear g11
              simp_all, rfl⟩, hs.fitD⟩
        · refine KO.skip rfl ?_
          refine KO.skip rfl ?_
          refine KO.skip rfl ?_
          refine KO.skip rfl ?_
          refine KO.skip rfl ?_
          refine KO.q rfl (q_pickF rfl rfl) ?_
          refine KO.q rfl (q_move rfl) ?_
          refine KO.skip rfl ?_
          refine KO.skip rfl ?_
          refine KO.skip rfl ?_
          refine KO.skip rfl ?_
          refine KO.skip rfl ?_
          refine KO.q rfl (q_pickF rfl rfl) ?_
          refine KO.q rfl (q_assign rfl) ?_
          refine KO.done ?_
          refine K.ret (fn := Tryz.f47) Tryz.func47 (fun a w hk hs => res1 Tryz.results47 hk rfl) (fun w hs => ?_)
          exact ⟨_, [], rfl, ⟨by
            refine congrArg Value.bool (Eq.trans ?_ hr.symm)
            clear hr hs hs1 hs2 hs3 hs4 hs5 hs6 hs7 hs8 hs9 hc1 hc2 hc3 hz
            generalize o.x.rows.any (fun r => !r.right) = A1 at *
            generalize o.x.msgs.any (fun m => !m.right) = A2 at *
            generalize o.x.dead.any (fun m => m.claimed || !m.right) = A3 at *
            clear g11
            simp_all, rfl⟩, hs.fitD⟩
      · refine KO.skip rfl ?_
        refine KO.skip rfl ?_
        refine KO.skip rfl ?_
        refine KO.q rfl (q_pickF rfl rfl) ?_
        refine KO.q rfl (q_move rfl) ?_
        refine KO.skip rfl ?_
        refine KO.skip rfl ?_
        refine KO.skip rfl ?_
        refine KO.skip rfl ?_
        refine KO.skip rfl ?_
        refine KO.q rfl (q_pickF rfl rfl) ?_
        refine KO.q rfl (q_move rfl) ?_
        refine KO.skip rfl ?_
        refine KO.skip rfl ?_
        refine KO.skip rfl ?_
        refine KO.skip rfl ?_
        refine KO.skip rfl ?_
        refine KO.q rfl (q_pickF rfl rfl) ?_
        refine KO.q rfl (q_assign rfl) ?_
        refine KO.done ?_
        refine K.ret (fn := Tryz.f47) Tryz.func47 (fun a w hk hs => res1 Tryz.results47 hk rfl) (fun w hs => ?_)
        exact ⟨_, [], rfl, ⟨by
          refine congrArg Value.bool (Eq.trans ?_ hr.symm)
          clear hr hs hs1 hs2 hs3 hs4 hs5 hs6 hs7 hs8 hs9 hc1 hc2 hc3 hz
          generalize o.x.rows.any (fun r => !r.right) = A1 at *
          generalize o.x.msgs.any (fun m => !m.right) = A2 at *
          generalize o.x.dead.any (fun m => m.claimed || !m.right) = A3 at *
          clear g11
          simp_all, rfl⟩, hs.fitD⟩
end Go.Proofs.YthnmoiilaaoooaaGreat.L
