/- Walks: rows and messages of an object turned: each on a copy. -/
import Derived.Test.YthnmoiilaaoooaaGreatE1
namespace Go.Proofs.YthnmoiilaaoooaaGreat.L
open Go Go.Proofs
attribute [local irreducible] pv fv pt fz RowF RowO rowP old pure_ elA
set_option maxRecDepth 100000
set_option linter.unusedSimpArgs false
set_option linter.unusedVariables false

theorem idxP_nat {α : Type} {p : α → Bool} {l : List α} (h : ¬ idxP p l < 0) : ∃ (i : Nat) (x : α), l[i]? = some x ∧ idxP p l = (i : Int) ∧ p x = true := by
  unfold idxP at h ⊢
  cases hf : l.findIdx? p with
  | none => rw [hf] at h; exact absurd (by decide) h
  | some i =>
    rw [List.findIdx?_eq_some_iff_getElem] at hf
    obtain ⟨hi, h1, _⟩ := hf
    exact ⟨i, l[i], List.getElem?_eq_getElem hi, rfl, h1⟩
theorem gd_at {α : Type} {l : List α} {i : Nat} {x d : α} (h : l[i]? = some x) : l.getD i d = x := by rw [List.getD_eq_getElem?_getD, h]; rfl
theorem insAt_len {α : Type} (l : List α) (i : Nat) (x : α) (h : i ≤ l.length) : (insAt l i x).length = l.length + 1 := by
  unfold insAt
  rw [List.length_append, List.length_append, List.length_take, List.length_drop, List.length_singleton]; omega
theorem qf1 (b : Nat) (id : Int) (x : Msg) : Fn Tryz.prog 97 [.agg x.cells.toArray, .pointer (some ⟨b, 0, none⟩)].toArray [pv b 3 [.int .i64 id], NestF []] (fun v post => v = .bool (decide (x.id = id)) ∧ post = [pv b 3 [.int .i64 id]]) := by
  refine Fn.enter (N := 8) Tryz.func97 rfl Tryz.ntmps97 (by kernel_rfl) rfl (fun ρ L => ?_)
  refine K.seq ?_
  refine K.region ?_
  refine KO.loud rfl (l_box rfl rfl) ?_
  rintro _ _ ⟨b2, rfl, rfl⟩
  refine KO.q rfl (q_assign rfl) ?_
  refine KO.done ?_
  refine K.seq ?_
  refine K.region ?_
  refine KO.q rfl (q_field fo_39_0 rfl) ?_
  refine KO.q rfl (q_load1D ck_3 rfl) ?_
  refine KO.q rfl (q_load1D ck_3 rfl) ?_
  refine KO.q rfl (q_eq rfl rfl) ?_
  refine KO.q rfl (q_assign rfl) ?_
  refine KO.done ?_
  refine K.ret (fn := Tryz.f97) Tryz.func97 (fun a w hk hs => res1 Tryz.results97 hk rfl) (fun w hs => ?_)
  exact ⟨_, [pv b 3 [.int .i64 id]], rfl, ⟨rfl, rfl⟩, hs.fitD⟩
theorem qu_Find (A : HP) (q : Option Addr) (cap : Nat) (l : List Msg) (id : Int) (hA : IsRow A Kd.msg q l) (hl : l.length ≤ 1000000000) : Fn Tryz.prog 83 [.slice q l.length cap, .int .i64 id].toArray [A] (fun r post => r = .int .i64 (findM l id) ∧ post = [A]) := by
  refine Fn.enter (N := 8) Tryz.func83 rfl Tryz.ntmps83 (by kernel_rfl) rfl (fun ρ L => ?_)
  refine K.seq ?_
  refine K.region ?_
  refine KO.loud rfl (l_box rfl rfl) ?_
  rintro _ _ ⟨b3, rfl, rfl⟩
  refine KO.q rfl (q_assign rfl) ?_
  refine KO.done ?_
  refine K.seq ?_
  refine K.region ?_
  refine KO.q rfl (q_move rfl) ?_
  refine KO.q rfl (q_func rfl rfl) ?_
  refine KO.st (fun w h => nestF_nil h) ?_
  refine KO.loud rfl (OpL.callD rfl (h := ixg_msg A (pv b3 3 [.int .i64 id]) (NestF []) q cap l hA 97 [.pointer (some ⟨b3, 0, none⟩)] (fun x => decide (x.id = id)) (by omega) (fun x _ => qf1 b3 id x))) ?_
  rintro _ _ ⟨_, ⟨rfl, rfl⟩, rfl⟩
  refine KO.q rfl (q_assign rfl) ?_
  refine KO.done ?_
  refine K.ret (fn := Tryz.f83) Tryz.func83 (fun a w hk hs => res1 Tryz.results83 hk rfl) (fun w hs => ?_)
  exact ⟨_, [A], rfl, ⟨rfl, rfl⟩, hs.fitD⟩
theorem qa1 (b : Nat) (m x : Msg) : Fn Tryz.prog 108 [.agg x.cells.toArray, .pointer (some ⟨b, 0, none⟩)].toArray [pv b 39 m.cells, NestF []] (fun v post => v = .bool (decide (0 < cmpM x m)) ∧ post = [pv b 39 m.cells]) := by
  refine Fn.enter (N := 8) Tryz.func108 rfl Tryz.ntmps108 (by kernel_rfl) rfl (fun ρ L => ?_)
  refine K.seq ?_
  refine K.region ?_
  refine KO.loud rfl (l_box rfl rfl) ?_
  rintro _ _ ⟨b2, rfl, rfl⟩
  refine KO.q rfl (q_assign rfl) ?_
  refine KO.done ?_
  refine K.seq ?_
  refine K.region ?_
  refine KO.q rfl (q_loadN ck_39 rfl rfl (by first | (apply cells_pv; (repeat (first | exact List.Mem.head _ | apply List.Mem.tail))) | (apply cells_fv; (repeat (first | exact List.Mem.head _ | apply List.Mem.tail))))) ?_
  refine KO.q rfl (q_loadN ck_39 rfl rfl (by first | (apply cells_pv; (repeat (first | exact List.Mem.head _ | apply List.Mem.tail))) | (apply cells_fv; (repeat (first | exact List.Mem.head _ | apply List.Mem.tail))))) ?_
  refine KO.loud rfl (OpL.callD rfl (h := ord_Msgs _ _)) ?_
  rintro _ _ ⟨_, ⟨rfl, rfl⟩, rfl⟩
  refine KO.q rfl (q_gt rfl rfl) ?_
  refine KO.q rfl (q_assign rfl) ?_
  refine KO.done ?_
  refine K.ret (fn := Tryz.f108) Tryz.func108 (fun a w hk hs => res1 Tryz.results108 hk rfl) (fun w hs => ?_)
  exact ⟨_, [pv b 39 m.cells], rfl, ⟨rfl, rfl⟩, hs.fitD⟩
--%call poste/queue.Add := qu_Add _ _ _ _ (by assumption) !! ⟨_, ⟨q#, c#, rfl, rfl, hc#⟩, rfl⟩
set_option maxHeartbeats 800000 in
theorem qu_Add (q : Option Addr) (cap : Nat) (l : List Msg) (m : Msg) (hl : l.length ≤ 1000000000) : Fn Tryz.prog 95 [.slice q l.length cap, .agg m.cells.toArray].toArray [RowF Kd.msg q l] (fun r post => ∃ q' c', r = .slice q' (addM l m).length c' ∧ post = [RowO Kd.msg 39 q' c' (addM l m)] ∧ (addM l m).length ≤ c') := by
  refine Fn.enter (N := 19) Tryz.func95 rfl Tryz.ntmps95 (by kernel_rfl) rfl (fun ρ L => ?_)
  refine K.seq ?_
  refine K.region ?_
  refine KO.loud rfl (l_box rfl rfl) ?_
  rintro _ _ ⟨b3, rfl, rfl⟩
  refine KO.q rfl (q_assign rfl) ?_
  refine KO.done ?_
  refine K.seq ?_
  refine K.region ?_
  refine KO.q rfl (q_move rfl) ?_
  refine KO.q rfl (q_func rfl rfl) ?_
  refine KO.st (fun w h => nestF_nil h) ?_
  refine KO.loud rfl (OpL.callD rfl (h := ixg_msg (RowF Kd.msg q l) (pv b3 39 m.cells) (NestF []) q cap l isF 108 [.pointer (some ⟨b3, 0, none⟩)] (fun x => decide (0 < cmpM x m)) (by omega) (fun x _ => qa1 b3 m x))) ?_
  rintro _ _ ⟨_, ⟨rfl, rfl⟩, rfl⟩
  refine KO.q rfl (q_assign rfl) ?_
  refine KO.done ?_
  refine K.seq <| K.seq ?_
  refine K.region ?_
  refine KO.q rfl (q_move rfl) ?_
  refine KO.q rfl (q_lt rfl rfl) ?_
  refine KO.done ?_
  refine K.dcond (s := 10) rfl (fun g10 => ?_) (fun g10 => ?_)
  · have hpl : plc (fun x => decide (0 < cmpM x m)) l = l.length := by unfold plc; rw [if_pos g10]
    have had : addM l m = insAt l l.length m := by unfold addM; rw [hpl]
    refine K.region ?_
    refine KO.q rfl (q_move rfl) ?_
    refine KO.q rfl (q_len Tryz.underlying31 rfl) ?_
    refine KO.q rfl (q_assign rfl) ?_
    refine KO.done ?_
    refine K.seq ?_
    refine K.drawU (by repeat (first | apply SubL.pers | apply SubL.own (b := b3) | apply SubL.drop | exact SubL.none)) mixed ?_
    refine D.q 0 rfl (by kernel_rfl) (by kernel_rfl) (q_move rfl) (fun _ h => h.subD) ?_
    refine D.q 2 rfl (by kernel_rfl) (by kernel_rfl) (q_move rfl) (fun _ h => h.subD) ?_
    refine D.q 3 rfl (by kernel_rfl) (by kernel_rfl) (q_loadN ck_39 rfl rfl (by first | (apply cells_pv; (repeat (first | exact List.Mem.head _ | apply List.Mem.tail))) | (apply cells_fv; (repeat (first | exact List.Mem.head _ | apply List.Mem.tail))))) (fun _ h => h.subD) ?_
    refine D.all (rs := [1, 4]) (by kernel_rfl) rfl (DAll.cons rfl (by kernel_rfl) (OpL.callD rfl (h := clone_msg (RowF Kd.msg q l) q cap l isF hl)) (.inr (by rintro _ _ ⟨_, ⟨q1, c1, rfl, rfl, hc1⟩, rfl⟩ w h; exact h.subD)) rfl ?_ (DAll.cons rfl (by kernel_rfl) (l_slice1 sz_31_1 rfl rfl ⟨rfl, rfl, rfl⟩) (.inr (by rintro _ _ ⟨b17, rfl, rfl⟩ w h; exact h.subD)) rfl ?_ DAll.nil))
    · rintro _ _ ⟨_, ⟨q1, c1, rfl, rfl, hc1⟩, rfl⟩
      refine D.all (rs := [4]) (by kernel_rfl) rfl (DAll.cons rfl (by kernel_rfl) (l_slice1 sz_31_1 rfl rfl ⟨rfl, rfl, rfl⟩) (.inr (by rintro _ _ ⟨b17, rfl, rfl⟩ w h; exact h.subD)) rfl ?_ DAll.nil)
      rintro _ _ ⟨b17, rfl, rfl⟩
      refine D.all (rs := [5]) (by kernel_rfl) rfl (DAll.cons rfl (by kernel_rfl) (OpL.callD rfl (h := ins_msg q1 c1 l l.length b17 _ m (Nat.le_refl _) hc1 hl)) (.inl (by kernel_rfl)) rfl ?_ DAll.nil)
      rintro _ _ ⟨_, ⟨qn, cn, rfl, rfl, hcn⟩, rfl⟩
      refine D.q 6 rfl (by kernel_rfl) (by kernel_rfl) (q_assign rfl) (fun _ h => h.subD) ?_
      refine D.done (by kernel_rfl) ?_
      refine K.ret (fn := Tryz.f95) Tryz.func95 (fun a w hk hs => res1 Tryz.results95 hk rfl) (fun w hs => ?_)
      rw [had]
      exact ⟨_, [RowO Kd.msg 39 qn cn _], rfl, ⟨qn, cn, rfl, rfl, hcn⟩, hs.fitD⟩
    · rintro _ _ ⟨b17, rfl, rfl⟩
      refine D.all (rs := [1]) (by kernel_rfl) rfl (DAll.cons rfl (by kernel_rfl) (OpL.callD rfl (h := clone_msg (RowF Kd.msg q l) q cap l isF hl)) (.inr (by rintro _ _ ⟨_, ⟨q1, c1, rfl, rfl, hc1⟩, rfl⟩ w h; exact h.subD)) rfl ?_ DAll.nil)
      rintro _ _ ⟨_, ⟨q1, c1, rfl, rfl, hc1⟩, rfl⟩
      refine D.all (rs := [5]) (by kernel_rfl) rfl (DAll.cons rfl (by kernel_rfl) (OpL.callD rfl (h := ins_msg q1 c1 l l.length b17 _ m (Nat.le_refl _) hc1 hl)) (.inl (by kernel_rfl)) rfl ?_ DAll.nil)
      rintro _ _ ⟨_, ⟨qn, cn, rfl, rfl, hcn⟩, rfl⟩
      refine D.q 6 rfl (by kernel_rfl) (by kernel_rfl) (q_assign rfl) (fun _ h => h.subD) ?_
      refine D.done (by kernel_rfl) ?_
      refine K.ret (fn := Tryz.f95) Tryz.func95 (fun a w hk hs => res1 Tryz.results95 hk rfl) (fun w hs => ?_)
      rw [had]
      exact ⟨_, [RowO Kd.msg 39 qn cn _], rfl, ⟨qn, cn, rfl, rfl, hcn⟩, hs.fitD⟩
  · obtain ⟨i, x, hx, hi, _⟩ := idxP_nat g10
    have hpl : plc (fun x => decide (0 < cmpM x m)) l = i := by unfold plc; rw [if_neg g10, hi]; rfl
    have hile : i ≤ l.length := by have := (List.getElem?_eq_some_iff.1 hx).1; omega
    have had : addM l m = insAt l i m := by unfold addM; rw [hpl]
    rw [hi]
    refine K.skip <| K.seq ?_
    refine K.drawU (by repeat (first | apply SubL.pers | apply SubL.own (b := b3) | apply SubL.drop | exact SubL.none)) mixed ?_
    refine D.q 0 rfl (by kernel_rfl) (by kernel_rfl) (q_move rfl) (fun _ h => h.subD) ?_
    refine D.q 2 rfl (by kernel_rfl) (by kernel_rfl) (q_move rfl) (fun _ h => h.subD) ?_
    refine D.q 3 rfl (by kernel_rfl) (by kernel_rfl) (q_loadN ck_39 rfl rfl (by first | (apply cells_pv; (repeat (first | exact List.Mem.head _ | apply List.Mem.tail))) | (apply cells_fv; (repeat (first | exact List.Mem.head _ | apply List.Mem.tail))))) (fun _ h => h.subD) ?_
    refine D.all (rs := [1, 4]) (by kernel_rfl) rfl (DAll.cons rfl (by kernel_rfl) (OpL.callD rfl (h := clone_msg (RowF Kd.msg q l) q cap l isF hl)) (.inr (by rintro _ _ ⟨_, ⟨q1, c1, rfl, rfl, hc1⟩, rfl⟩ w h; exact h.subD)) rfl ?_ (DAll.cons rfl (by kernel_rfl) (l_slice1 sz_31_1 rfl rfl ⟨rfl, rfl, rfl⟩) (.inr (by rintro _ _ ⟨b17, rfl, rfl⟩ w h; exact h.subD)) rfl ?_ DAll.nil))
    · rintro _ _ ⟨_, ⟨q1, c1, rfl, rfl, hc1⟩, rfl⟩
      refine D.all (rs := [4]) (by kernel_rfl) rfl (DAll.cons rfl (by kernel_rfl) (l_slice1 sz_31_1 rfl rfl ⟨rfl, rfl, rfl⟩) (.inr (by rintro _ _ ⟨b17, rfl, rfl⟩ w h; exact h.subD)) rfl ?_ DAll.nil)
      rintro _ _ ⟨b17, rfl, rfl⟩
      refine D.all (rs := [5]) (by kernel_rfl) rfl (DAll.cons rfl (by kernel_rfl) (OpL.callD rfl (h := ins_msg q1 c1 l i b17 _ m hile hc1 hl)) (.inl (by kernel_rfl)) rfl ?_ DAll.nil)
      rintro _ _ ⟨_, ⟨qn, cn, rfl, rfl, hcn⟩, rfl⟩
      refine D.q 6 rfl (by kernel_rfl) (by kernel_rfl) (q_assign rfl) (fun _ h => h.subD) ?_
      refine D.done (by kernel_rfl) ?_
      refine K.ret (fn := Tryz.f95) Tryz.func95 (fun a w hk hs => res1 Tryz.results95 hk rfl) (fun w hs => ?_)
      rw [had]
      exact ⟨_, [RowO Kd.msg 39 qn cn _], rfl, ⟨qn, cn, rfl, rfl, hcn⟩, hs.fitD⟩
    · rintro _ _ ⟨b17, rfl, rfl⟩
      refine D.all (rs := [1]) (by kernel_rfl) rfl (DAll.cons rfl (by kernel_rfl) (OpL.callD rfl (h := clone_msg (RowF Kd.msg q l) q cap l isF hl)) (.inr (by rintro _ _ ⟨_, ⟨q1, c1, rfl, rfl, hc1⟩, rfl⟩ w h; exact h.subD)) rfl ?_ DAll.nil)
      rintro _ _ ⟨_, ⟨q1, c1, rfl, rfl, hc1⟩, rfl⟩
      refine D.all (rs := [5]) (by kernel_rfl) rfl (DAll.cons rfl (by kernel_rfl) (OpL.callD rfl (h := ins_msg q1 c1 l i b17 _ m hile hc1 hl)) (.inl (by kernel_rfl)) rfl ?_ DAll.nil)
      rintro _ _ ⟨_, ⟨qn, cn, rfl, rfl, hcn⟩, rfl⟩
      refine D.q 6 rfl (by kernel_rfl) (by kernel_rfl) (q_assign rfl) (fun _ h => h.subD) ?_
      refine D.done (by kernel_rfl) ?_
      refine K.ret (fn := Tryz.f95) Tryz.func95 (fun a w hk hs => res1 Tryz.results95 hk rfl) (fun w hs => ?_)
      rw [had]
      exact ⟨_, [RowO Kd.msg 39 qn cn _], rfl, ⟨qn, cn, rfl, rfl, hcn⟩, hs.fitD⟩
--%call poste/queue.Cut := qu_Cut _ _ _ _ (by assumption) !! ⟨_, ⟨q#, c#, rfl, rfl, hc#⟩, rfl⟩
set_option maxHeartbeats 800000 in
theorem qu_Cut (q : Option Addr) (cap : Nat) (l : List Msg) (id : Int) (hl : l.length ≤ 1000000000) : Fn Tryz.prog 82 [.slice q l.length cap, .int .i64 id].toArray [RowF Kd.msg q l] (fun r post => ∃ q' c', r = .tuple #[.slice q' (cutM l id).1.length c', .bool (cutM l id).2] ∧ post = [RowO Kd.msg 39 q' c' (cutM l id).1] ∧ (cutM l id).1.length ≤ c') := by
  refine Fn.enter (N := 20) Tryz.func82 rfl Tryz.ntmps82 (by kernel_rfl) rfl (fun ρ L => ?_)
  refine K.seq ?_
  refine K.region ?_
  refine KO.q rfl (q_assign rfl) ?_
  refine KO.q rfl (q_assign rfl) ?_
  refine KO.done ?_
  refine K.seq ?_
  refine K.region ?_
  refine KO.q rfl (q_move rfl) ?_
  refine KO.q rfl (q_move rfl) ?_
  refine KO.loud rfl (OpL.callD rfl (h := qu_Find (RowF Kd.msg q l) q cap l id isF hl)) ?_
  rintro _ _ ⟨_, ⟨rfl, rfl⟩, rfl⟩
  refine KO.q rfl (q_assign rfl) ?_
  refine KO.done ?_
  refine K.seq ?_
  refine K.region ?_
  refine KO.q rfl (q_move rfl) ?_
  refine KO.loud rfl (OpL.callD rfl (h := clone_msg (RowF Kd.msg q l) q cap l isF hl)) ?_
  rintro _ _ ⟨_, ⟨q1, c1, rfl, rfl, hc1⟩, rfl⟩
  refine KO.q rfl (q_assign rfl) ?_
  refine KO.done ?_
  refine K.seq <| K.seq ?_
  refine K.region ?_
  refine KO.q rfl (q_move rfl) ?_
  refine KO.q rfl (q_lt rfl rfl) ?_
  refine KO.done ?_
  refine K.dcond (s := 13) rfl (fun g13 => ?_) (fun g13 => ?_)
  · have hr : cutM l id = (l, false) := by unfold cutM; rw [if_pos g13]
    refine K.seq ?_
    refine K.region ?_
    refine KO.q rfl (q_move rfl) ?_
    refine KO.q rfl (q_assign rfl) ?_
    refine KO.q rfl (q_assign rfl) ?_
    refine KO.done ?_
    refine K.ret (fn := Tryz.f82) Tryz.func82 (fun a w hk hs => res2 Tryz.results82 hk rfl rfl) (fun w hs => ?_)
    rw [hr]
    first
      | exact ⟨_, [RowO Kd.msg 39 q1 c1 (l.eraseIdx i)], rfl, ⟨q1, c1, rfl, rfl, rowO_cap (e := 39) (k := Kd.msg) (p := q1) (cap := c1) (xs := l.eraseIdx i) (by repeat (first | exact List.Mem.head _ | apply List.Mem.tail)) w hs⟩, hs.fitD⟩
      | exact ⟨_, [RowO Kd.msg 39 q1 c1 l], rfl, ⟨q1, c1, rfl, rfl, hc1⟩, hs.fitD⟩
  · obtain ⟨i, x, hx, hi, _⟩ := idxP_nat g13
    have hi : findM l id = (i : Int) := hi
    have hil := (List.getElem?_eq_some_iff.1 hx).1
    have hr : cutM l id = (l.eraseIdx i, true) := by unfold cutM; rw [if_neg g13, hi]; rfl
    rw [hi]
    refine K.skip <| K.seq ?_
    refine K.region ?_
    refine KO.q rfl (q_move rfl) ?_
    refine KO.q rfl (q_move rfl) ?_
    refine KO.q rfl (q_move rfl) ?_
    refine KO.q rfl (q_add rfl rfl (by first | omega | (simp; omega)) (by first | omega | (simp; omega))) ?_
    refine KO.loud rfl (OpL.callD rfl (h := del_msg q1 c1 l i hil hc1 (by omega))) ?_
    rintro _ _ ⟨_, ⟨rfl, rfl⟩, rfl⟩
    refine KO.q rfl (q_assign rfl) ?_
    refine KO.q rfl (q_assign rfl) ?_
    refine KO.done ?_
    refine K.ret (fn := Tryz.f82) Tryz.func82 (fun a w hk hs => res2 Tryz.results82 hk rfl rfl) (fun w hs => ?_)
    rw [hr]
    first
      | exact ⟨_, [RowO Kd.msg 39 q1 c1 (l.eraseIdx i)], rfl, ⟨q1, c1, rfl, rfl, rowO_cap (e := 39) (k := Kd.msg) (p := q1) (cap := c1) (xs := l.eraseIdx i) (by repeat (first | exact List.Mem.head _ | apply List.Mem.tail)) w hs⟩, hs.fitD⟩
      | exact ⟨_, [RowO Kd.msg 39 q1 c1 l], rfl, ⟨q1, c1, rfl, rfl, hc1⟩, hs.fitD⟩
--%call poste/queue.Claim := qu_Claim _ _ _ _ _ (by assumption) !! ⟨_, ⟨q#, c#, rfl, rfl, hc#⟩, rfl⟩
set_option maxHeartbeats 800000 in
theorem qu_Claim (q : Option Addr) (cap : Nat) (l : List Msg) (id : Int) (on : Bool) (hl : l.length ≤ 1000000000) : Fn Tryz.prog 84 [.slice q l.length cap, .int .i64 id, .bool on].toArray [RowF Kd.msg q l] (fun r post => ∃ q' c', r = .tuple #[.slice q' (claimM l id on).1.length c', .bool (claimM l id on).2] ∧ post = [RowO Kd.msg 39 q' c' (claimM l id on).1] ∧ (claimM l id on).1.length ≤ c') := by
  refine Fn.enter (N := 32) Tryz.func84 rfl Tryz.ntmps84 (by kernel_rfl) rfl (fun ρ L => ?_)
  refine K.seq ?_
  refine K.region ?_
  refine KO.q rfl (q_assign rfl) ?_
  refine KO.q rfl (q_assign rfl) ?_
  refine KO.done ?_
  refine K.seq ?_
  refine K.region ?_
  refine KO.q rfl (q_move rfl) ?_
  refine KO.q rfl (q_move rfl) ?_
  refine KO.loud rfl (OpL.callD rfl (h := qu_Find (RowF Kd.msg q l) q cap l id isF hl)) ?_
  rintro _ _ ⟨_, ⟨rfl, rfl⟩, rfl⟩
  refine KO.q rfl (q_assign rfl) ?_
  refine KO.done ?_
  refine K.seq ?_
  refine K.region ?_
  refine KO.q rfl (q_move rfl) ?_
  refine KO.loud rfl (OpL.callD rfl (h := clone_msg (RowF Kd.msg q l) q cap l isF hl)) ?_
  rintro _ _ ⟨_, ⟨q1, c1, rfl, rfl, hc1⟩, rfl⟩
  refine KO.q rfl (q_assign rfl) ?_
  refine KO.done ?_
  refine K.seq <| K.seq ?_
  refine K.region ?_
  refine KO.q rfl (q_move rfl) ?_
  refine KO.q rfl (q_lt rfl rfl) ?_
  refine KO.q rfl (q_move rfl) ?_
  refine KO.dsplit 16 rfl (fun g16 => ?_) (fun g16 => ?_)
  · have hr : claimM l id on = (l, false) := by unfold claimM; rw [if_pos g16]
    refine KO.skip rfl ?_
    refine KO.skip rfl ?_
    refine KO.skip rfl ?_
    refine KO.skip rfl ?_
    refine KO.skip rfl ?_
    refine KO.skip rfl ?_
    refine KO.skip rfl ?_
    refine KO.q rfl (q_pickT rfl rfl) ?_
    refine KO.done ?_
    refine K.yes rfl ?_
    refine K.seq ?_
    refine K.region ?_
    refine KO.q rfl (q_move rfl) ?_
    refine KO.q rfl (q_assign rfl) ?_
    refine KO.q rfl (q_assign rfl) ?_
    refine KO.done ?_
    refine K.ret (fn := Tryz.f84) Tryz.func84 (fun a w hk hs => res2 Tryz.results84 hk rfl rfl) (fun w hs => ?_)
    rw [hr]
    exact ⟨_, [RowO Kd.msg 39 q1 c1 l], rfl, ⟨q1, c1, rfl, rfl, hc1⟩, hs.fitD⟩
  · obtain ⟨i, x, hx, hi, _⟩ := idxP_nat g16
    have hi : findM l id = (i : Int) := hi
    have hil := (List.getElem?_eq_some_iff.1 hx).1
    have hgd : l.getD (findM l id).toNat ⟨0, 0, 0, false, ⟨#[]⟩, ⟨#[]⟩⟩ = x := by rw [hi, Int.toNat_natCast]; exact gd_at hx
    refine KO.q rfl (q_move rfl) ?_
    refine KO.q rfl (q_move rfl) ?_
    refine KO.q rfl (q_ix (xs := l) i se_31 rfl rfl hi isO (by repeat (first | exact List.Mem.head _ | apply List.Mem.tail)) rfl hil) ?_
    refine KO.q rfl (q_fieldE fo_39_3 rfl) ?_
    refine KO.q rfl (q_ldE (xs := l) ck_4 rfl isO (by repeat (first | exact List.Mem.head _ | apply List.Mem.tail)) hx rfl) ?_
    refine KO.q rfl (q_move rfl) ?_
    refine KO.q rfl (q_beq Tryz.underlying4 rfl rfl) ?_
    refine KO.q rfl (q_pickF rfl rfl) ?_
    refine KO.done ?_
    refine K.bcond (s := 24) rfl (fun g24 => ?_) (fun g24 => ?_)
    · have hr : claimM l id on = (l, false) := by unfold claimM; rw [if_neg g16, hgd, if_pos (by simpa using g24)]
      refine K.seq ?_
      refine K.region ?_
      refine KO.q rfl (q_move rfl) ?_
      refine KO.q rfl (q_assign rfl) ?_
      refine KO.q rfl (q_assign rfl) ?_
      refine KO.done ?_
      refine K.ret (fn := Tryz.f84) Tryz.func84 (fun a w hk hs => res2 Tryz.results84 hk rfl rfl) (fun w hs => ?_)
      rw [hr]
      exact ⟨_, [RowO Kd.msg 39 q1 c1 l], rfl, ⟨q1, c1, rfl, rfl, hc1⟩, hs.fitD⟩
    · have hr : claimM l id on = (l.set i { x with claimed := on }, true) := by unfold claimM; rw [if_neg g16, hgd, if_neg (by simpa using g24), hi]; rfl
      have hsl : (l.set i { x with claimed := on }).length = l.length := List.length_set
      refine K.skip <| K.seq ?_
      refine K.region ?_
      refine KO.q rfl (q_move rfl) ?_
      refine KO.q rfl (q_move rfl) ?_
      refine KO.q rfl (q_move rfl) ?_
      refine KO.q rfl (q_ix (xs := l) i se_31 rfl rfl hi isO (by repeat (first | exact List.Mem.head _ | apply List.Mem.tail)) rfl hil) ?_
      refine KO.q rfl (q_fieldE fo_39_3 rfl) ?_
      refine KO.loudN rfl (l_storeE (el := x) { x with claimed := on } ck_4 rfl rfl rfl (by repeat (first | exact Pick.here | apply Pick.there)) hx (by decide) rfl) ?_
      rintro _ _ ⟨rfl, rfl⟩
      refine KO.done ?_
      refine K.seq ?_
      refine K.region ?_
      refine KO.q rfl (q_move rfl) ?_
      refine KO.q rfl (q_assign rfl) ?_
      refine KO.q rfl (q_assign rfl) ?_
      refine KO.done ?_
      refine K.ret (fn := Tryz.f84) Tryz.func84 (fun a w hk hs => res2 Tryz.results84 hk rfl rfl) (fun w hs => ?_)
      rw [hr, hsl]
      exact ⟨_, [RowO Kd.msg 39 q1 c1 (l.set i { x with claimed := on })], rfl, ⟨q1, c1, rfl, rfl, hc1⟩, hs.fitD⟩
--%call poste/node.Find := nd_Find _ _ _ _ (by assumption)
theorem nd_Find (q : Option Addr) (cap : Nat) (l : List Rw) (key : ByteArray) (hl : l.length ≤ 1000000000) : Fn Tryz.prog 56 [.slice q l.length cap, .string key].toArray [RowF Kd.rw q l] (fun r post => r = .tuple #[.int .i64 (lbR l key), .bool (fndR l key)] ∧ post = []) := by
  refine Fn.enter (N := 28) Tryz.func56 rfl Tryz.ntmps56 (by kernel_rfl) rfl (fun ρ L => ?_)
  refine K.seq ?_
  refine K.region ?_
  refine KO.q rfl (q_assign rfl) ?_
  refine KO.q rfl (q_assign rfl) ?_
  refine KO.done ?_
  refine K.seq <| K.seq ?_
  refine K.region ?_
  refine KO.q rfl (q_move rfl) ?_
  refine KO.q rfl (q_len Tryz.underlying30 rfl) ?_
  refine KO.q rfl (q_move rfl) ?_
  refine KO.done ?_
  refine K.block ?_
  refine K.rloop (ι := { i : Nat // i ≤ l.length ∧ (l.take i).all (fun r => decide (cmpB r.key key < 0)) = true }) (fun x => [(11, .int .i64 x.1), (10, .int .i64 l.length), (9, .slice q l.length cap), (0, .slice q l.length cap), (1, .string key)]) (fun x => l.length - x.1) ⟨0, Nat.zero_le _, rfl⟩ (by repeat (first | exact Env.sub_nil _ | refine Env.sub_cons rfl ?_)) (fun x ih => ?_)
  obtain ⟨i, hi, hz⟩ := x
  dsimp only at hi hz ⊢
  refine K.seq ?_
  refine K.region ?_
  refine KO.q rfl (q_lt rfl rfl) ?_
  refine KO.done ?_
  refine K.seq ?_
  refine K.dcond (s := 12) rfl (fun g12 => ?_) (fun g12 => ?_)
  · obtain ⟨e, he⟩ : ∃ e, l[i]? = some e := ⟨_, List.getElem?_eq_getElem (by omega)⟩
    refine K.skip <| K.seq <| K.block <| K.seq ?_
    refine K.region ?_
    refine KO.q rfl (q_move rfl) ?_
    first | refine KO.q rfl (q_ix _ se_30 rfl rfl rfl isF (by repeat (first | exact List.Mem.head _ | apply List.Mem.tail)) rfl (by first | assumption | omega | exact (List.getElem?_eq_some_iff.1 (by assumption)).1 | (simp; omega))) ?_ | refine KO.q rfl (q_ix _ se_30 rfl rfl rfl isO (by repeat (first | exact List.Mem.head _ | apply List.Mem.tail)) rfl (by first | assumption | omega | exact (List.getElem?_eq_some_iff.1 (by assumption)).1 | (simp; omega))) ?_
    first | refine KO.q rfl (q_ldEN ck_29 rfl isF (by repeat (first | exact List.Mem.head _ | apply List.Mem.tail)) (by first | assumption | exact List.getElem?_eq_getElem (by first | assumption | omega | (simp; omega)))) ?_ | refine KO.q rfl (q_ldEN ck_29 rfl isO (by repeat (first | exact List.Mem.head _ | apply List.Mem.tail)) (by first | assumption | exact List.getElem?_eq_getElem (by first | assumption | omega | (simp; omega)))) ?_
    refine KO.loud rfl (l_alloc zo_29) ?_
    rintro _ _ ⟨b7, rfl, rfl⟩
    refine KO.q rfl (q_assign rfl) ?_
    refine KO.loudN rfl (l_storeAll ck_29 rfl rfl ⟨rfl, rfl⟩ (rw_one _) (by repeat (first | exact Pick.here | apply Pick.there))) ?_
    rintro _ _ ⟨rfl, rfl⟩
    refine KO.done ?_
    refine K.seq ?_
    refine K.region ?_
    refine KO.q rfl (q_field fo_29_0 rfl) ?_
    refine KO.q rfl (q_load1D ck_9 rfl) ?_
    refine KO.q rfl (q_move rfl) ?_
    refine KO.loud rfl (OpL.callD rfl (h := ord_Keys _ _)) ?_
    rintro _ _ ⟨_, ⟨rfl, rfl⟩, rfl⟩
    refine KO.q rfl (q_assign rfl) ?_
    refine KO.done ?_
    refine K.seq ?_
    refine K.region ?_
    refine KO.q rfl (q_move rfl) ?_
    refine KO.q rfl (q_ge rfl rfl) ?_
    refine KO.done ?_
    refine K.dcond (s := 21) rfl (fun g21 => ?_) (fun g21 => ?_)
    · have hlb : lbR l key = i := tw_eq hz hi (fun x hx => by rw [he] at hx; cases hx; exact decide_eq_false (by omega))
      have hfn : fndR l key = decide (cmpB e.key key = 0) := by unfold fndR; rw [hlb, he]; rfl
      refine K.seq ?_
      refine K.region ?_
      refine KO.q rfl (q_move rfl) ?_
      refine KO.q rfl (q_move rfl) ?_
      refine KO.q rfl (q_eq rfl rfl) ?_
      refine KO.q rfl (q_assign rfl) ?_
      refine KO.q rfl (q_assign rfl) ?_
      refine KO.done ?_
      refine K.ret (fn := Tryz.f56) Tryz.func56 (fun a w hk hs => res2 Tryz.results56 hk rfl rfl) (fun w hs => ?_)
      rw [hlb, hfn]
      exact ⟨_, [], rfl, ⟨rfl, rfl⟩, hs.fitD⟩
    · refine K.skip <| K.inBlock ?_
      refine K.region ?_
      refine KO.q rfl (q_add rfl rfl (by first | omega | (simp; omega)) (by first | omega | (simp; omega))) ?_
      refine KO.q rfl (q_move rfl) ?_
      refine KO.done ?_
      exact K.weak (by repeat (first | exact Env.sub_nil _ | refine Env.sub_cons rfl ?_)) (fun w h => h.fitD) (ih ⟨i + 1, by omega, by rw [all_take_succ he, hz, decide_eq_true (by omega)]; rfl⟩ (by show l.length - (i + 1) < l.length - i; omega))
  · have hlb : lbR l key = l.length := by rw [show l.length = i by omega]; exact tw_eq hz hi (fun x hx => by rw [List.getElem?_eq_none (by omega)] at hx; cases hx)
    have hfn : fndR l key = false := by unfold fndR; rw [hlb, List.getElem?_eq_none (Nat.le_refl _)]; rfl
    refine K.exit rfl ?_
    refine K.seq ?_
    refine K.region ?_
    refine KO.q rfl (q_move rfl) ?_
    refine KO.q rfl (q_len Tryz.underlying30 rfl) ?_
    refine KO.q rfl (q_assign rfl) ?_
    refine KO.q rfl (q_assign rfl) ?_
    refine KO.done ?_
    refine K.ret (fn := Tryz.f56) Tryz.func56 (fun a w hk hs => res2 Tryz.results56 hk rfl rfl) (fun w hs => ?_)
    rw [hlb, hfn]
    exact ⟨_, [], rfl, ⟨rfl, rfl⟩, hs.fitD⟩
theorem lbR_le (l : List Rw) (key : ByteArray) : lbR l key ≤ l.length := (List.takeWhile_prefix _).length_le
theorem fndR_lt {l : List Rw} {key : ByteArray} (h : fndR l key = true) : lbR l key < l.length := by
  unfold fndR at h
  cases hg : l[lbR l key]? with
  | none => rw [hg] at h; cases h
  | some e => exact (List.getElem?_eq_some_iff.1 hg).1
--%call poste/node.Put := nd_Put _ _ _ _ (by assumption) !! ⟨_, ⟨q#, c#, rfl, rfl, hc#⟩, rfl⟩
set_option maxHeartbeats 800000 in
theorem nd_Put (q : Option Addr) (cap : Nat) (l : List Rw) (r : Rw) (hl : l.length ≤ 1000000000) : Fn Tryz.prog 86 [.slice q l.length cap, .agg r.cells.toArray].toArray [RowF Kd.rw q l] (fun v post => ∃ q' c', v = .slice q' (putR l r).length c' ∧ post = [RowO Kd.rw 29 q' c' (putR l r)] ∧ (putR l r).length ≤ c') := by
  refine Fn.enter (N := 27) Tryz.func86 rfl Tryz.ntmps86 (by kernel_rfl) rfl (fun ρ L => ?_)
  refine K.seq ?_
  refine K.region ?_
  refine KO.loud rfl (l_box rfl rfl) ?_
  rintro _ _ ⟨b3, rfl, rfl⟩
  refine KO.q rfl (q_assign rfl) ?_
  refine KO.done ?_
  refine K.seq ?_
  refine K.region ?_
  refine KO.q rfl (q_move rfl) ?_
  refine KO.q rfl (q_field fo_29_0 rfl) ?_
  refine KO.q rfl (q_load1D ck_9 rfl) ?_
  refine KO.loud rfl (OpL.callD rfl (h := nd_Find _ _ _ _ (by assumption))) ?_
  rintro _ _ ⟨_, ⟨rfl, rfl⟩, rfl⟩
  refine KO.q rfl (q_move rfl) ?_
  refine KO.q rfl (q_extract rfl rfl) ?_
  refine KO.q rfl (q_extract rfl rfl) ?_
  refine KO.q rfl (q_assign rfl) ?_
  refine KO.q rfl (q_assign rfl) ?_
  refine KO.done ?_
  refine K.seq ?_
  refine K.region ?_
  refine KO.q rfl (q_move rfl) ?_
  refine KO.loud rfl (OpL.callD rfl (h := clone_rw (RowF Kd.rw q l) q cap l isF hl)) ?_
  rintro _ _ ⟨_, ⟨q1, c1, rfl, rfl, hc1⟩, rfl⟩
  refine KO.q rfl (q_assign rfl) ?_
  refine KO.done ?_
  refine K.seq <| K.seq ?_
  refine K.region ?_
  refine KO.q rfl (q_move rfl) ?_
  refine KO.done ?_
  first | refine K.dcond (s := 16) rfl (fun g16 => ?_) (fun g16 => ?_) | refine K.bcond (s := 16) rfl (fun g16 => ?_) (fun g16 => ?_)
  · have hil := fndR_lt g16
    have hr : putR l r = l.set (lbR l r.key) r := by unfold putR; rw [if_pos g16]
    have hsl : (l.set (lbR l r.key) r).length = l.length := List.length_set
    refine K.seq ?_
    refine K.region ?_
    refine KO.q rfl (q_move rfl) ?_
    refine KO.q rfl (q_move rfl) ?_
    refine KO.q rfl (q_loadN ck_29 rfl rfl (by first | (apply cells_pv; (repeat (first | exact List.Mem.head _ | apply List.Mem.tail))) | (apply cells_fv; (repeat (first | exact List.Mem.head _ | apply List.Mem.tail))))) ?_
    refine KO.q rfl (q_ix (xs := l) (lbR l r.key) se_30 rfl rfl rfl isO (by repeat (first | exact List.Mem.head _ | apply List.Mem.tail)) rfl hil) ?_
    refine KO.loudN rfl (l_storeEN r ck_29 rfl rfl (by repeat (first | exact Pick.here | apply Pick.there)) hil) ?_
    rintro _ _ ⟨rfl, rfl⟩
    refine KO.done ?_
    refine K.seq ?_
    refine K.region ?_
    refine KO.q rfl (q_move rfl) ?_
    refine KO.q rfl (q_assign rfl) ?_
    refine KO.done ?_
    refine K.ret (fn := Tryz.f86) Tryz.func86 (fun a w hk hs => res1 Tryz.results86 hk rfl) (fun w hs => ?_)
    rw [hr, hsl]
    exact ⟨_, [RowO Kd.rw 29 q1 c1 (l.set (lbR l r.key) r)], rfl, ⟨q1, c1, rfl, rfl, hc1⟩, hs.fitD⟩
  · have hile := lbR_le l r.key
    have hr : putR l r = insAt l (lbR l r.key) r := by unfold putR; rw [if_neg (by rw [g16]; decide)]
    refine K.skip <| K.seq ?_
    refine K.region ?_
    refine KO.q rfl (q_move rfl) ?_
    refine KO.q rfl (q_move rfl) ?_
    refine KO.q rfl (q_loadN ck_29 rfl rfl (by first | (apply cells_pv; (repeat (first | exact List.Mem.head _ | apply List.Mem.tail))) | (apply cells_fv; (repeat (first | exact List.Mem.head _ | apply List.Mem.tail))))) ?_
    refine KO.loud rfl (l_slice1 sz_30_1 rfl rfl ⟨rfl, rfl, rfl⟩) ?_
    rintro _ _ ⟨b25, rfl, rfl⟩
    refine KO.loud rfl (OpL.callD rfl (h := ins_rw q1 c1 l (lbR l r.key) b25 _ r hile hc1 hl)) ?_
    rintro _ _ ⟨_, ⟨qn, cn, rfl, rfl, hcn⟩, rfl⟩
    refine KO.q rfl (q_assign rfl) ?_
    refine KO.done ?_
    refine K.ret (fn := Tryz.f86) Tryz.func86 (fun a w hk hs => res1 Tryz.results86 hk rfl) (fun w hs => ?_)
    rw [hr]
    exact ⟨_, [RowO Kd.rw 29 qn cn (insAt l (lbR l r.key) r)], rfl, ⟨qn, cn, rfl, rfl, hcn⟩, hs.fitD⟩
--%call poste/node.Cut := nd_Cut _ _ _ _ (by assumption) !! ⟨_, ⟨q#, c#, rfl, rfl, hc#⟩, rfl⟩
set_option maxHeartbeats 800000 in
theorem nd_Cut (q : Option Addr) (cap : Nat) (l : List Rw) (key : ByteArray) (hl : l.length ≤ 1000000000) : Fn Tryz.prog 87 [.slice q l.length cap, .string key].toArray [RowF Kd.rw q l] (fun v post => ∃ q' c', v = .tuple #[.slice q' (cutR l key).1.length c', .bool (cutR l key).2] ∧ post = [RowO Kd.rw 29 q' c' (cutR l key).1] ∧ (cutR l key).1.length ≤ c') := by
  refine Fn.enter (N := 24) Tryz.func87 rfl Tryz.ntmps87 (by kernel_rfl) rfl (fun ρ L => ?_)
  refine K.seq ?_
  refine K.region ?_
  refine KO.q rfl (q_assign rfl) ?_
  refine KO.q rfl (q_assign rfl) ?_
  refine KO.done ?_
  refine K.seq ?_
  refine K.region ?_
  refine KO.q rfl (q_move rfl) ?_
  refine KO.q rfl (q_move rfl) ?_
  refine KO.loud rfl (OpL.callD rfl (h := nd_Find _ _ _ _ (by assumption))) ?_
  rintro _ _ ⟨_, ⟨rfl, rfl⟩, rfl⟩
  refine KO.q rfl (q_move rfl) ?_
  refine KO.q rfl (q_extract rfl rfl) ?_
  refine KO.q rfl (q_extract rfl rfl) ?_
  refine KO.q rfl (q_assign rfl) ?_
  refine KO.q rfl (q_assign rfl) ?_
  refine KO.done ?_
  refine K.seq ?_
  refine K.region ?_
  refine KO.q rfl (q_move rfl) ?_
  refine KO.loud rfl (OpL.callD rfl (h := clone_rw (RowF Kd.rw q l) q cap l isF hl)) ?_
  rintro _ _ ⟨_, ⟨q1, c1, rfl, rfl, hc1⟩, rfl⟩
  refine KO.q rfl (q_assign rfl) ?_
  refine KO.done ?_
  refine K.seq <| K.seq ?_
  refine K.region ?_
  refine KO.q rfl (q_move rfl) ?_
  refine KO.q rfl (q_not rfl) ?_
  refine KO.done ?_
  refine K.bcond (s := 17) rfl (fun g17 => ?_) (fun g17 => ?_)
  · have hr : cutR l key = (l, false) := by unfold cutR; rw [if_neg (by simpa using g17)]
    refine K.seq ?_
    refine K.region ?_
    refine KO.q rfl (q_move rfl) ?_
    refine KO.q rfl (q_assign rfl) ?_
    refine KO.q rfl (q_assign rfl) ?_
    refine KO.done ?_
    refine K.ret (fn := Tryz.f87) Tryz.func87 (fun a w hk hs => res2 Tryz.results87 hk rfl rfl) (fun w hs => ?_)
    rw [hr]
    first
      | exact ⟨_, [RowO Kd.rw 29 q1 c1 (l.eraseIdx (lbR l key))], rfl, ⟨q1, c1, rfl, rfl, rowO_cap (e := 29) (k := Kd.rw) (p := q1) (cap := c1) (xs := l.eraseIdx (lbR l key)) (by repeat (first | exact List.Mem.head _ | apply List.Mem.tail)) w hs⟩, hs.fitD⟩
      | exact ⟨_, [RowO Kd.rw 29 q1 c1 l], rfl, ⟨q1, c1, rfl, rfl, hc1⟩, hs.fitD⟩
  · have hfn : fndR l key = true := by simpa using g17
    have hil := fndR_lt hfn
    have hr : cutR l key = (l.eraseIdx (lbR l key), true) := by unfold cutR; rw [if_pos hfn]
    refine K.skip <| K.seq ?_
    refine K.region ?_
    refine KO.q rfl (q_move rfl) ?_
    refine KO.q rfl (q_move rfl) ?_
    refine KO.q rfl (q_move rfl) ?_
    refine KO.q rfl (q_add rfl rfl (by first | omega | (simp; omega)) (by first | omega | (simp; omega))) ?_
    refine KO.loud rfl (OpL.callD rfl (h := del_rw q1 c1 l (lbR l key) hil hc1 (by omega))) ?_
    rintro _ _ ⟨_, ⟨rfl, rfl⟩, rfl⟩
    refine KO.q rfl (q_assign rfl) ?_
    refine KO.q rfl (q_assign rfl) ?_
    refine KO.done ?_
    refine K.ret (fn := Tryz.f87) Tryz.func87 (fun a w hk hs => res2 Tryz.results87 hk rfl rfl) (fun w hs => ?_)
    rw [hr]
    first
      | exact ⟨_, [RowO Kd.rw 29 q1 c1 (l.eraseIdx (lbR l key))], rfl, ⟨q1, c1, rfl, rfl, rowO_cap (e := 29) (k := Kd.rw) (p := q1) (cap := c1) (xs := l.eraseIdx (lbR l key)) (by repeat (first | exact List.Mem.head _ | apply List.Mem.tail)) w hs⟩, hs.fitD⟩
      | exact ⟨_, [RowO Kd.rw 29 q1 c1 l], rfl, ⟨q1, c1, rfl, rfl, hc1⟩, hs.fitD⟩
--%call poste/rows.Put := rw_Put _ _ _ _ (by assumption) !! ⟨_, ⟨q#, c#, rfl, rfl, hc#⟩, rfl⟩
theorem rw_Put (q : Option Addr) (cap : Nat) (l : List Rw) (r : Rw) (hl : l.length ≤ 1000000000) : Fn Tryz.prog 57 [.slice q l.length cap, .agg r.cells.toArray].toArray [RowF Kd.rw q l] (fun v post => ∃ q' c', v = .slice q' (putR l r).length c' ∧ post = [RowO Kd.rw 29 q' c' (putR l r)] ∧ (putR l r).length ≤ c') := by
  refine Fn.enter (N := 8) Tryz.func57 rfl Tryz.ntmps57 (by kernel_rfl) rfl (fun ρ L => ?_)
  refine K.seq ?_
  refine K.region ?_
  refine KO.loud rfl (l_box rfl rfl) ?_
  rintro _ _ ⟨b3, rfl, rfl⟩
  refine KO.q rfl (q_assign rfl) ?_
  refine KO.done ?_
  refine K.seq ?_
  refine K.region ?_
  refine KO.q rfl (q_move rfl) ?_
  refine KO.q rfl (q_loadN ck_29 rfl rfl (by first | (apply cells_pv; (repeat (first | exact List.Mem.head _ | apply List.Mem.tail))) | (apply cells_fv; (repeat (first | exact List.Mem.head _ | apply List.Mem.tail))))) ?_
  refine KO.loud rfl (OpL.callD rfl (h := nd_Put q cap l r hl)) ?_
  rintro _ _ ⟨_, ⟨q1, c1, rfl, rfl, hc1⟩, rfl⟩
  refine KO.q rfl (q_assign rfl) ?_
  refine KO.done ?_
  refine K.ret (fn := Tryz.f57) Tryz.func57 (fun a w hk hs => res1 Tryz.results57 hk rfl) (fun w hs => ?_)
  exact ⟨_, [RowO Kd.rw 29 q1 c1 (putR l r)], rfl, ⟨q1, c1, rfl, rfl, hc1⟩, hs.fitD⟩
--%call poste/rows.Cut := rw_Cut _ _ _ _ (by assumption) !! ⟨_, ⟨q#, c#, rfl, rfl, hc#⟩, rfl⟩
theorem rw_Cut (q : Option Addr) (cap : Nat) (l : List Rw) (key : ByteArray) (hl : l.length ≤ 1000000000) : Fn Tryz.prog 58 [.slice q l.length cap, .string key].toArray [RowF Kd.rw q l] (fun v post => ∃ q' c', v = .tuple #[.slice q' (cutR l key).1.length c', .bool (cutR l key).2] ∧ post = [RowO Kd.rw 29 q' c' (cutR l key).1] ∧ (cutR l key).1.length ≤ c') := by
  refine Fn.enter (N := 11) Tryz.func58 rfl Tryz.ntmps58 (by kernel_rfl) rfl (fun ρ L => ?_)
  refine K.seq ?_
  refine K.region ?_
  refine KO.q rfl (q_assign rfl) ?_
  refine KO.q rfl (q_assign rfl) ?_
  refine KO.done ?_
  refine K.seq ?_
  refine K.region ?_
  refine KO.q rfl (q_move rfl) ?_
  refine KO.q rfl (q_move rfl) ?_
  refine KO.loud rfl (OpL.callD rfl (h := nd_Cut q cap l key hl)) ?_
  rintro _ _ ⟨_, ⟨q1, c1, rfl, rfl, hc1⟩, rfl⟩
  refine KO.q rfl (q_extract rfl rfl) ?_
  refine KO.q rfl (q_extract rfl rfl) ?_
  refine KO.q rfl (q_assign rfl) ?_
  refine KO.q rfl (q_assign rfl) ?_
  refine KO.done ?_
  refine K.ret (fn := Tryz.f58) Tryz.func58 (fun a w hk hs => res2 Tryz.results58 hk rfl rfl) (fun w hs => ?_)
  exact ⟨_, [RowO Kd.rw 29 q1 c1 (cutR l key).1], rfl, ⟨q1, c1, rfl, rfl, hc1⟩, hs.fitD⟩
end Go.Proofs.YthnmoiilaaoooaaGreat.L
