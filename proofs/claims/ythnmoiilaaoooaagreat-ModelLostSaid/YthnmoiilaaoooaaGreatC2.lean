/- Walks: rows and messages that rise, the same lists, lists put together. -/
import Derived.Test.YthnmoiilaaoooaaGreatSA
namespace Go.Proofs.YthnmoiilaaoooaaGreat.L
open Go Go.Proofs
attribute [local irreducible] pv fv pt fz RowF RowO rowP old pure_ elA
set_option maxRecDepth 100000
set_option linter.unusedSimpArgs false
set_option linter.unusedVariables false

theorem list_ne_len {α : Type} {a b : List α} (h : ¬ (a.length : Int) = b.length) : ¬ a = b := fun e => h (by rw [e])
theorem list_ne_at {α : Type} {a b : List α} {i : Nat} {x y : α} (h1 : a[i]? = some x) (h2 : b[i]? = some y) (h : ¬ x = y) : ¬ a = b := by
  rintro rfl
  rw [h1] at h2
  exact h (Option.some.inj h2)
theorem take_step {α : Type} {a b : List α} {i : Nat} {x y : α} (h1 : a[i]? = some x) (h2 : b[i]? = some y) (h : x = y) (ht : a.take i = b.take i) : a.take (i + 1) = b.take (i + 1) := by
  rw [List.take_add_one, List.take_add_one, h1, h2, ht, h]
theorem ids_snoc {l : List Msg} {i : Nat} {e : Msg} (h : l[i]? = some e) : (l.take (i + 1)).map (·.id) = (l.take i).map (·.id) ++ [e.id] := by rw [List.take_add_one, h]; simp
theorem nodup_snoc {l : List Int} {n : Int} : (l ++ [n]).Nodup ↔ l.Nodup ∧ ¬ n ∈ l := by
  rw [List.nodup_append]
  constructor
  · rintro ⟨h1, _, h3⟩
    exact ⟨h1, fun hn => h3 n hn n (List.mem_singleton.2 rfl) rfl⟩
  · rintro ⟨h1, h2⟩
    exact ⟨h1, by simp, fun a ha b hb e => by rw [List.mem_singleton.1 hb] at e; subst e; exact h2 ha⟩
theorem nodup_take {l : List Int} (h : l.Nodup) (i : Nat) : (l.take i).Nodup := h.sublist (List.take_sublist i l)
theorem risesM_false_nodup {l : List Msg} {i : Nat} (h : ¬ ((l.take i).map (·.id)).Nodup) : risesM l = false := by
  unfold risesM
  rw [decide_eq_false (fun hn => h (by rw [List.map_take]; exact nodup_take hn i)), Bool.and_false]
theorem risesM_false_adj {l : List Msg} {i : Nat} (h : adj (fun a b => decide (cmpM a b < 0)) (l.take i) = false) : risesM l = false := by
  unfold risesM
  rw [adj_false_take h, Bool.false_and]
theorem adj2_true {α : Type} {f : α → α → Bool} {l : List α} {i : Nat} {x y : α} (hi : 0 < i) (hx : l[i - 1]? = some x) (hy : l[i]? = some y) (h : adj f (l.take i) = true) (hf : f x y = true) : adj f (l.take (i + 1)) = true := by
  obtain ⟨m, rfl⟩ : ∃ m, i = m + 1 := ⟨i - 1, by omega⟩
  rw [Nat.add_sub_cancel] at hx
  rw [adj_take_succ hx hy, h, hf]; rfl
theorem adj2_false {α : Type} {f : α → α → Bool} {l : List α} {i : Nat} {x y : α} (hi : 0 < i) (hx : l[i - 1]? = some x) (hy : l[i]? = some y) (hf : f x y = false) : adj f (l.take (i + 1)) = false := by
  obtain ⟨m, rfl⟩ : ∃ m, i = m + 1 := ⟨i - 1, by omega⟩
  rw [Nat.add_sub_cancel] at hx
  rw [adj_take_succ hx hy, hf, Bool.and_false]
theorem nd_Rises (q : Option Addr) (cap : Nat) (l : List Rw) (hl : (l.length : Int) ≤ 9223372036854775807) (hz : ∀ r ∈ l, (r.key.size : Int) ≤ 9223372036854775807) : Fn Tryz.prog 62 [.slice q l.length cap].toArray [RowF Kd.rw q l] (fun r post => r = .bool (risesR l) ∧ post = []) := by
  refine Fn.enter (N := 23) Tryz.func62 rfl Tryz.ntmps62 (by kernel_rfl) rfl (fun ρ L => ?_)
  refine K.seq ?_
  refine K.region ?_
  refine KO.q rfl (q_assign rfl) ?_
  refine KO.done ?_
  refine K.seq <| K.seq ?_
  refine K.region ?_
  refine KO.q rfl (q_assign rfl) ?_
  refine KO.done ?_
  refine K.block ?_
  refine K.rloop (ι := { i : Nat // 1 ≤ i ∧ (i ≤ l.length ∨ i = 1) ∧ adj (fun a b => decide (cmpB a.key b.key < 0)) (l.take i) = true }) (fun x => [(3, .int .i64 x.1), (0, .slice q l.length cap)]) (fun x => l.length - x.1) ⟨1, Nat.le_refl _, .inr rfl, adj_take_one _ _⟩ (by repeat (first | exact Env.sub_nil _ | refine Env.sub_cons rfl ?_)) (fun x ih => ?_)
  obtain ⟨i, h1, hi, ha⟩ := x
  dsimp only at h1 hi ha ⊢
  refine K.seq <| K.seq ?_
  refine K.region ?_
  refine KO.q rfl (q_move rfl) ?_
  refine KO.q rfl (q_move rfl) ?_
  refine KO.q rfl (q_len Tryz.underlying30 rfl) ?_
  refine KO.q rfl (q_lt rfl rfl) ?_
  refine KO.done ?_
  refine K.dcond (s := 7) rfl (fun g7 => ?_) (fun g7 => ?_)
  · obtain ⟨x, hx⟩ : ∃ e, l[i - 1]? = some e := ⟨_, List.getElem?_eq_getElem (by omega)⟩
    obtain ⟨y, hy⟩ : ∃ e, l[i]? = some e := ⟨_, List.getElem?_eq_getElem (by omega)⟩
    have z1 := hz x (List.mem_of_getElem? hx)
    have z2 := hz y (List.mem_of_getElem? hy)
    have hsub : (i : Int) - 1 = ((i - 1 : Nat) : Int) := by omega
    refine K.skip <| K.seq <| K.block <| K.seq ?_
    refine K.drawU (by repeat (first | apply SubL.pers | apply SubL.drop | exact SubL.none)) mixed ?_
    refine D.q 0 rfl (by kernel_rfl) (by kernel_rfl) (q_move rfl) (fun _ h => h.subD) ?_
    refine D.q 1 rfl (by kernel_rfl) (by kernel_rfl) (q_move rfl) (fun _ h => h.subD) ?_
    refine D.q 2 rfl (by kernel_rfl) (by kernel_rfl) (q_sub rfl rfl (by first | omega | (simp; omega)) (by first | omega | (simp; omega))) (fun _ h => h.subD) ?_
    refine D.q 3 rfl (by kernel_rfl) (by kernel_rfl) (q_ix (i - 1) se_30 rfl rfl hsub isF (by repeat (first | exact List.Mem.head _ | apply List.Mem.tail)) rfl (by omega)) (fun _ h => h.subD) ?_
    refine D.q 4 rfl (by kernel_rfl) (by kernel_rfl) (q_fieldE fo_29_0 rfl) (fun _ h => h.subD) ?_
    first | refine D.q 5 rfl (by kernel_rfl) (by kernel_rfl) (q_ldE ck_9 rfl isF (by repeat (first | exact List.Mem.head _ | apply List.Mem.tail)) (by first | assumption | exact List.getElem?_eq_getElem (by first | assumption | omega | (simp; omega))) rfl) (fun _ h => h.subD) ?_ | refine D.q 5 rfl (by kernel_rfl) (by kernel_rfl) (q_ldE ck_9 rfl isO (by repeat (first | exact List.Mem.head _ | apply List.Mem.tail)) (by first | assumption | exact List.getElem?_eq_getElem (by first | assumption | omega | (simp; omega))) rfl) (fun _ h => h.subD) ?_
    refine D.q 6 rfl (by kernel_rfl) (by kernel_rfl) (q_move rfl) (fun _ h => h.subD) ?_
    refine D.q 7 rfl (by kernel_rfl) (by kernel_rfl) (q_move rfl) (fun _ h => h.subD) ?_
    first | refine D.q 8 rfl (by kernel_rfl) (by kernel_rfl) (q_ix _ se_30 rfl rfl rfl isF (by repeat (first | exact List.Mem.head _ | apply List.Mem.tail)) rfl (by first | assumption | omega | exact (List.getElem?_eq_some_iff.1 (by assumption)).1 | (simp; omega))) (fun _ h => h.subD) ?_ | refine D.q 8 rfl (by kernel_rfl) (by kernel_rfl) (q_ix _ se_30 rfl rfl rfl isO (by repeat (first | exact List.Mem.head _ | apply List.Mem.tail)) rfl (by first | assumption | omega | exact (List.getElem?_eq_some_iff.1 (by assumption)).1 | (simp; omega))) (fun _ h => h.subD) ?_
    refine D.q 9 rfl (by kernel_rfl) (by kernel_rfl) (q_fieldE fo_29_0 rfl) (fun _ h => h.subD) ?_
    first | refine D.q 10 rfl (by kernel_rfl) (by kernel_rfl) (q_ldE ck_9 rfl isF (by repeat (first | exact List.Mem.head _ | apply List.Mem.tail)) (by first | assumption | exact List.getElem?_eq_getElem (by first | assumption | omega | (simp; omega))) rfl) (fun _ h => h.subD) ?_ | refine D.q 10 rfl (by kernel_rfl) (by kernel_rfl) (q_ldE ck_9 rfl isO (by repeat (first | exact List.Mem.head _ | apply List.Mem.tail)) (by first | assumption | exact List.getElem?_eq_getElem (by first | assumption | omega | (simp; omega))) rfl) (fun _ h => h.subD) ?_
    refine D.all (rs := [11]) (by kernel_rfl) rfl (DAll.cons rfl (by kernel_rfl) (OpL.callD rfl (h := ord_Keys _ _)) (.inr (by rintro _ _ ⟨_, ⟨rfl, rfl⟩, rfl⟩ w h; exact h.subD)) rfl ?_ DAll.nil)
    rintro _ _ ⟨_, ⟨rfl, rfl⟩, rfl⟩
    refine D.q 12 rfl (by kernel_rfl) (by kernel_rfl) (q_ge rfl rfl) (fun _ h => h.subD) ?_
    refine D.done (by kernel_rfl) ?_
    refine K.dcond (s := 22) rfl (fun g22 => ?_) (fun g22 => ?_)
    · refine K.seq ?_
      have hr : risesR l = false := adj_false_take (adj2_false h1 hx hy (decide_eq_false (by omega)))
      refine K.region ?_
      refine KO.q rfl (q_assign rfl) ?_
      refine KO.done ?_
      refine K.ret (fn := Tryz.f62) Tryz.func62 (fun a w hk hs => res1 Tryz.results62 hk rfl) (fun w hs => ?_)
      rw [hr]
      exact ⟨_, [], rfl, ⟨rfl, rfl⟩, hs.fitD⟩
    · refine K.skip <| K.inBlock ?_
      refine K.region ?_
      refine KO.q rfl (q_move rfl) ?_
      refine KO.q rfl (q_add rfl rfl (by first | omega | (simp; omega)) (by first | omega | (simp; omega))) ?_
      refine KO.q rfl (q_assign rfl) ?_
      refine KO.done ?_
      exact K.weak (by repeat (first | exact Env.sub_nil _ | refine Env.sub_cons rfl ?_)) (fun w h => h.fitD) (ih ⟨i + 1, by omega, .inl (by omega), adj2_true h1 hx hy ha (decide_eq_true (by omega))⟩ (by show l.length - (i + 1) < l.length - i; omega))
  · refine K.exit rfl ?_
    refine K.seq ?_
    have hr : risesR l = true := by rw [List.take_of_length_le (by omega)] at ha; exact ha
    refine K.region ?_
    refine KO.q rfl (q_assign rfl) ?_
    refine KO.done ?_
    refine K.ret (fn := Tryz.f62) Tryz.func62 (fun a w hk hs => res1 Tryz.results62 hk rfl) (fun w hs => ?_)
    rw [hr]
    exact ⟨_, [], rfl, ⟨rfl, rfl⟩, hs.fitD⟩
theorem ref_Rises (q : Option Addr) (cap : Nat) (l : List Rw) (hl : (l.length : Int) ≤ 9223372036854775807) (hz : ∀ r ∈ l, (r.key.size : Int) ≤ 9223372036854775807) : Fn Tryz.prog 15 [.slice q l.length cap].toArray [RowF Kd.rw q l] (fun r post => r = .bool (risesR l) ∧ post = []) := by
  refine Fn.enter (N := 23) Tryz.func15 rfl Tryz.ntmps15 (by kernel_rfl) rfl (fun ρ L => ?_)
  refine K.seq ?_
  refine K.region ?_
  refine KO.q rfl (q_assign rfl) ?_
  refine KO.done ?_
  refine K.seq <| K.seq ?_
  refine K.region ?_
  refine KO.q rfl (q_assign rfl) ?_
  refine KO.done ?_
  refine K.block ?_
  refine K.rloop (ι := { i : Nat // 1 ≤ i ∧ (i ≤ l.length ∨ i = 1) ∧ adj (fun a b => decide (cmpB a.key b.key < 0)) (l.take i) = true }) (fun x => [(3, .int .i64 x.1), (0, .slice q l.length cap)]) (fun x => l.length - x.1) ⟨1, Nat.le_refl _, .inr rfl, adj_take_one _ _⟩ (by repeat (first | exact Env.sub_nil _ | refine Env.sub_cons rfl ?_)) (fun x ih => ?_)
  obtain ⟨i, h1, hi, ha⟩ := x
  dsimp only at h1 hi ha ⊢
  refine K.seq <| K.seq ?_
  refine K.region ?_
  refine KO.q rfl (q_move rfl) ?_
  refine KO.q rfl (q_move rfl) ?_
  refine KO.q rfl (q_len Tryz.underlying30 rfl) ?_
  refine KO.q rfl (q_lt rfl rfl) ?_
  refine KO.done ?_
  refine K.dcond (s := 7) rfl (fun g7 => ?_) (fun g7 => ?_)
  · obtain ⟨x, hx⟩ : ∃ e, l[i - 1]? = some e := ⟨_, List.getElem?_eq_getElem (by omega)⟩
    obtain ⟨y, hy⟩ : ∃ e, l[i]? = some e := ⟨_, List.getElem?_eq_getElem (by omega)⟩
    have z1 := hz x (List.mem_of_getElem? hx)
    have z2 := hz y (List.mem_of_getElem? hy)
    have hsub : (i : Int) - 1 = ((i - 1 : Nat) : Int) := by omega
    refine K.skip <| K.seq <| K.block <| K.seq ?_
    refine K.drawU (by repeat (first | apply SubL.pers | apply SubL.drop | exact SubL.none)) mixed ?_
    refine D.q 0 rfl (by kernel_rfl) (by kernel_rfl) (q_move rfl) (fun _ h => h.subD) ?_
    refine D.q 1 rfl (by kernel_rfl) (by kernel_rfl) (q_move rfl) (fun _ h => h.subD) ?_
    refine D.q 2 rfl (by kernel_rfl) (by kernel_rfl) (q_sub rfl rfl (by first | omega | (simp; omega)) (by first | omega | (simp; omega))) (fun _ h => h.subD) ?_
    refine D.q 3 rfl (by kernel_rfl) (by kernel_rfl) (q_ix (i - 1) se_30 rfl rfl hsub isF (by repeat (first | exact List.Mem.head _ | apply List.Mem.tail)) rfl (by omega)) (fun _ h => h.subD) ?_
    refine D.q 4 rfl (by kernel_rfl) (by kernel_rfl) (q_fieldE fo_29_0 rfl) (fun _ h => h.subD) ?_
    first | refine D.q 5 rfl (by kernel_rfl) (by kernel_rfl) (q_ldE ck_9 rfl isF (by repeat (first | exact List.Mem.head _ | apply List.Mem.tail)) (by first | assumption | exact List.getElem?_eq_getElem (by first | assumption | omega | (simp; omega))) rfl) (fun _ h => h.subD) ?_ | refine D.q 5 rfl (by kernel_rfl) (by kernel_rfl) (q_ldE ck_9 rfl isO (by repeat (first | exact List.Mem.head _ | apply List.Mem.tail)) (by first | assumption | exact List.getElem?_eq_getElem (by first | assumption | omega | (simp; omega))) rfl) (fun _ h => h.subD) ?_
    refine D.q 6 rfl (by kernel_rfl) (by kernel_rfl) (q_move rfl) (fun _ h => h.subD) ?_
    refine D.q 7 rfl (by kernel_rfl) (by kernel_rfl) (q_move rfl) (fun _ h => h.subD) ?_
    first | refine D.q 8 rfl (by kernel_rfl) (by kernel_rfl) (q_ix _ se_30 rfl rfl rfl isF (by repeat (first | exact List.Mem.head _ | apply List.Mem.tail)) rfl (by first | assumption | omega | exact (List.getElem?_eq_some_iff.1 (by assumption)).1 | (simp; omega))) (fun _ h => h.subD) ?_ | refine D.q 8 rfl (by kernel_rfl) (by kernel_rfl) (q_ix _ se_30 rfl rfl rfl isO (by repeat (first | exact List.Mem.head _ | apply List.Mem.tail)) rfl (by first | assumption | omega | exact (List.getElem?_eq_some_iff.1 (by assumption)).1 | (simp; omega))) (fun _ h => h.subD) ?_
    refine D.q 9 rfl (by kernel_rfl) (by kernel_rfl) (q_fieldE fo_29_0 rfl) (fun _ h => h.subD) ?_
    first | refine D.q 10 rfl (by kernel_rfl) (by kernel_rfl) (q_ldE ck_9 rfl isF (by repeat (first | exact List.Mem.head _ | apply List.Mem.tail)) (by first | assumption | exact List.getElem?_eq_getElem (by first | assumption | omega | (simp; omega))) rfl) (fun _ h => h.subD) ?_ | refine D.q 10 rfl (by kernel_rfl) (by kernel_rfl) (q_ldE ck_9 rfl isO (by repeat (first | exact List.Mem.head _ | apply List.Mem.tail)) (by first | assumption | exact List.getElem?_eq_getElem (by first | assumption | omega | (simp; omega))) rfl) (fun _ h => h.subD) ?_
    refine D.all (rs := [11]) (by kernel_rfl) rfl (DAll.cons rfl (by kernel_rfl) (OpL.callD rfl (h := ref_Keys _ _ (by first | assumption | omega) (by first | assumption | omega))) (.inr (by rintro _ _ ⟨_, ⟨rfl, rfl⟩, rfl⟩ w h; exact h.subD)) rfl ?_ DAll.nil)
    rintro _ _ ⟨_, ⟨rfl, rfl⟩, rfl⟩
    refine D.q 12 rfl (by kernel_rfl) (by kernel_rfl) (q_ge rfl rfl) (fun _ h => h.subD) ?_
    refine D.done (by kernel_rfl) ?_
    refine K.dcond (s := 22) rfl (fun g22 => ?_) (fun g22 => ?_)
    · refine K.seq ?_
      have hr : risesR l = false := adj_false_take (adj2_false h1 hx hy (decide_eq_false (by omega)))
      refine K.region ?_
      refine KO.q rfl (q_assign rfl) ?_
      refine KO.done ?_
      refine K.ret (fn := Tryz.f15) Tryz.func15 (fun a w hk hs => res1 Tryz.results15 hk rfl) (fun w hs => ?_)
      rw [hr]
      exact ⟨_, [], rfl, ⟨rfl, rfl⟩, hs.fitD⟩
    · refine K.skip <| K.inBlock ?_
      refine K.region ?_
      refine KO.q rfl (q_move rfl) ?_
      refine KO.q rfl (q_add rfl rfl (by first | omega | (simp; omega)) (by first | omega | (simp; omega))) ?_
      refine KO.q rfl (q_assign rfl) ?_
      refine KO.done ?_
      exact K.weak (by repeat (first | exact Env.sub_nil _ | refine Env.sub_cons rfl ?_)) (fun w h => h.fitD) (ih ⟨i + 1, by omega, .inl (by omega), adj2_true h1 hx hy ha (decide_eq_true (by omega))⟩ (by show l.length - (i + 1) < l.length - i; omega))
  · refine K.exit rfl ?_
    refine K.seq ?_
    have hr : risesR l = true := by rw [List.take_of_length_le (by omega)] at ha; exact ha
    refine K.region ?_
    refine KO.q rfl (q_assign rfl) ?_
    refine KO.done ?_
    refine K.ret (fn := Tryz.f15) Tryz.func15 (fun a w hk hs => res1 Tryz.results15 hk rfl) (fun w hs => ?_)
    rw [hr]
    exact ⟨_, [], rfl, ⟨rfl, rfl⟩, hs.fitD⟩
--%call poste/node.Rises := nd_Rises _ _ _ (by first | omega | (simp; omega)) (by assumption)
--%call poste/posteref1.Rises := ref_Rises _ _ _ (by first | omega | (simp; omega)) (by assumption)
theorem idxP_lt {l : List Msg} {i : Nat} {y : Msg} (hy : l[i]? = some y) : idxP (fun m => decide (m.id = y.id)) l < (i : Int) ↔ y.id ∈ (l.take i).map (·.id) := by
  cases hany : (l.take i).any (fun m => decide (m.id = y.id)) with
  | false =>
    rw [idxP_some hy (by simp) hany]
    rw [List.any_eq_false] at hany
    refine ⟨fun h => by omega, fun h => ?_⟩
    obtain ⟨m, hm, e⟩ := List.mem_map.1 h
    exact absurd (decide_eq_true e) (hany m hm)
  | true =>
    obtain ⟨m, hm, e⟩ := List.any_eq_true.1 hany
    refine ⟨fun _ => List.mem_map.2 ⟨m, hm, of_decide_eq_true e⟩, fun _ => ?_⟩
    obtain ⟨j, hj, rfl⟩ := List.mem_take_iff_getElem.1 hm
    unfold idxP
    cases hf : l.findIdx? (fun m => decide (m.id = y.id)) with
    | none => rw [List.findIdx?_eq_none_iff] at hf; exact absurd e (by rw [hf _ (List.getElem_mem _)]; simp)
    | some k =>
      rw [List.findIdx?_eq_some_iff_getElem] at hf
      obtain ⟨hk, _, hmin⟩ := hf
      show (k : Int) < i
      by_cases hkj : j < k
      · exact absurd e (by simpa using hmin j hkj)
      · omega
--%call poste/posteref14.RisesMsgs := ref_RisesMsgs _ _ _ (by first | omega | (simp; omega))
set_option maxHeartbeats 800000 in
theorem ref_RisesMsgs (q : Option Addr) (cap : Nat) (l : List Msg) (hl : (l.length : Int) ≤ 9223372036854775807) : Fn Tryz.prog 16 [.slice q l.length cap].toArray [RowF Kd.msg q l] (fun r post => r = .bool (risesM l) ∧ post = []) := by
  refine Fn.enter (N := 36) Tryz.func16 rfl Tryz.ntmps16 (by kernel_rfl) rfl (fun ρ L => ?_)
  refine K.seq ?_
  refine K.region ?_
  refine KO.q rfl (q_assign rfl) ?_
  refine KO.done ?_
  refine K.seq <| K.seq ?_
  refine K.region ?_
  refine KO.q rfl (q_assign rfl) ?_
  refine KO.done ?_
  refine K.block ?_
  refine K.rloop (ι := { i : Nat // i ≤ l.length ∧ adj (fun a b => decide (cmpM a b < 0)) (l.take i) = true ∧ ((l.take i).map (·.id)).Nodup }) (fun x => [(3, .int .i64 x.1), (0, .slice q l.length cap)]) (fun x => l.length - x.1) ⟨0, Nat.zero_le _, by simp [adj], by simp⟩ (by repeat (first | exact Env.sub_nil _ | refine Env.sub_cons rfl ?_)) (fun x ih => ?_)
  obtain ⟨i, hi, ha, hn⟩ := x
  dsimp only at hi ha hn ⊢
  refine K.seq <| K.seq ?_
  refine K.region ?_
  refine KO.q rfl (q_move rfl) ?_
  refine KO.q rfl (q_move rfl) ?_
  refine KO.q rfl (q_len Tryz.underlying31 rfl) ?_
  refine KO.q rfl (q_lt rfl rfl) ?_
  refine KO.done ?_
  refine K.dcond (s := 7) rfl (fun g7 => ?_) (fun g7 => ?_)
  · obtain ⟨y, hy⟩ : ∃ e, l[i]? = some e := ⟨_, List.getElem?_eq_getElem (by omega)⟩
    refine K.skip <| K.seq <| K.block <| K.seq ?_
    refine K.drawU (by repeat (first | apply SubL.pers | apply SubL.drop | exact SubL.none)) mixed ?_
    refine D.q 0 rfl (by kernel_rfl) (by kernel_rfl) (q_move rfl) (fun _ h => h.subD) ?_
    refine D.q 1 rfl (by kernel_rfl) (by kernel_rfl) (q_gt rfl rfl) (fun _ h => h.subD) ?_
    refine D.q 2 rfl (by kernel_rfl) (by kernel_rfl) (q_move rfl) (fun _ h => h.subD) ?_
    refine D.dsplit 12 rfl (fun g12 => ?_) (fun g12 => ?_)
    · obtain ⟨x, hx⟩ : ∃ e, l[i - 1]? = some e := ⟨_, List.getElem?_eq_getElem (by omega)⟩
      have hsub : (i : Int) - 1 = ((i - 1 : Nat) : Int) := by omega
      refine D.q 3 rfl (by kernel_rfl) (by kernel_rfl) (q_move rfl) (fun _ h => h.subD) ?_
      refine D.q 4 rfl (by kernel_rfl) (by kernel_rfl) (q_move rfl) (fun _ h => h.subD) ?_
      refine D.q 5 rfl (by kernel_rfl) (by kernel_rfl) (q_sub rfl rfl (by first | omega | (simp; omega)) (by first | omega | (simp; omega))) (fun _ h => h.subD) ?_
      refine D.q 6 rfl (by kernel_rfl) (by kernel_rfl) (q_ix (i - 1) se_31 rfl rfl hsub isF (by repeat (first | exact List.Mem.head _ | apply List.Mem.tail)) rfl (by omega)) (fun _ h => h.subD) ?_
      first | refine D.q 7 rfl (by kernel_rfl) (by kernel_rfl) (q_ldEN ck_39 rfl isF (by repeat (first | exact List.Mem.head _ | apply List.Mem.tail)) (by first | assumption | exact List.getElem?_eq_getElem (by first | assumption | omega | (simp; omega)))) (fun _ h => h.subD) ?_ | refine D.q 7 rfl (by kernel_rfl) (by kernel_rfl) (q_ldEN ck_39 rfl isO (by repeat (first | exact List.Mem.head _ | apply List.Mem.tail)) (by first | assumption | exact List.getElem?_eq_getElem (by first | assumption | omega | (simp; omega)))) (fun _ h => h.subD) ?_
      refine D.q 8 rfl (by kernel_rfl) (by kernel_rfl) (q_move rfl) (fun _ h => h.subD) ?_
      refine D.q 9 rfl (by kernel_rfl) (by kernel_rfl) (q_move rfl) (fun _ h => h.subD) ?_
      first | refine D.q 10 rfl (by kernel_rfl) (by kernel_rfl) (q_ix _ se_31 rfl rfl rfl isF (by repeat (first | exact List.Mem.head _ | apply List.Mem.tail)) rfl (by first | assumption | omega | exact (List.getElem?_eq_some_iff.1 (by assumption)).1 | (simp; omega))) (fun _ h => h.subD) ?_ | refine D.q 10 rfl (by kernel_rfl) (by kernel_rfl) (q_ix _ se_31 rfl rfl rfl isO (by repeat (first | exact List.Mem.head _ | apply List.Mem.tail)) rfl (by first | assumption | omega | exact (List.getElem?_eq_some_iff.1 (by assumption)).1 | (simp; omega))) (fun _ h => h.subD) ?_
      first | refine D.q 11 rfl (by kernel_rfl) (by kernel_rfl) (q_ldEN ck_39 rfl isF (by repeat (first | exact List.Mem.head _ | apply List.Mem.tail)) (by first | assumption | exact List.getElem?_eq_getElem (by first | assumption | omega | (simp; omega)))) (fun _ h => h.subD) ?_ | refine D.q 11 rfl (by kernel_rfl) (by kernel_rfl) (q_ldEN ck_39 rfl isO (by repeat (first | exact List.Mem.head _ | apply List.Mem.tail)) (by first | assumption | exact List.getElem?_eq_getElem (by first | assumption | omega | (simp; omega)))) (fun _ h => h.subD) ?_
      refine D.all (rs := [12]) (by kernel_rfl) rfl (DAll.cons rfl (by kernel_rfl) (OpL.callD rfl (h := ref_Msgs _ _)) (.inr (by rintro _ _ ⟨_, ⟨rfl, rfl⟩, rfl⟩ w h; exact h.subD)) rfl ?_ DAll.nil)
      rintro _ _ ⟨_, ⟨rfl, rfl⟩, rfl⟩
      refine D.q 13 rfl (by kernel_rfl) (by kernel_rfl) (q_ge rfl rfl) (fun _ h => h.subD) ?_
      refine D.q 14 rfl (by kernel_rfl) (by kernel_rfl) (q_pickT rfl rfl) (fun _ h => h.subD) ?_
      refine D.q 15 rfl (by kernel_rfl) (by kernel_rfl) (q_move rfl) (fun _ h => h.subD) ?_
      refine D.dsplit 25 rfl (fun g25 => ?_) (fun g25 => ?_)
      · refine D.skip 16 rfl (by kernel_rfl) (by kernel_rfl) (fun _ h => h.subD) ?_
        refine D.skip 17 rfl (by kernel_rfl) (by kernel_rfl) (fun _ h => h.subD) ?_
        refine D.skip 18 rfl (by kernel_rfl) (by kernel_rfl) (fun _ h => h.subD) ?_
        refine D.skip 19 rfl (by kernel_rfl) (by kernel_rfl) (fun _ h => h.subD) ?_
        refine D.skip 20 rfl (by kernel_rfl) (by kernel_rfl) (fun _ h => h.subD) ?_
        refine D.skip 21 rfl (by kernel_rfl) (by kernel_rfl) (fun _ h => h.subD) ?_
        refine D.skip 22 rfl (by kernel_rfl) (by kernel_rfl) (fun _ h => h.subD) ?_
        refine D.skip 23 rfl (by kernel_rfl) (by kernel_rfl) (fun _ h => h.subD) ?_
        refine D.skip 24 rfl (by kernel_rfl) (by kernel_rfl) (fun _ h => h.subD) ?_
        refine D.q 25 rfl (by kernel_rfl) (by kernel_rfl) (q_pickT rfl rfl) (fun _ h => h.subD) ?_
        refine D.done (by kernel_rfl) ?_
        refine K.yes rfl ?_
        refine K.seq ?_
        have hr : risesM l = false := by
          first
            | exact risesM_false_adj (adj2_false (by omega) hx hy (decide_eq_false (by omega)))
            | exact risesM_false_nodup (i := i + 1) (by rw [ids_snoc hy, nodup_snoc]; exact fun h => h.2 ((idxP_lt hy).1 g35))
        refine K.region ?_
        refine KO.q rfl (q_assign rfl) ?_
        refine KO.done ?_
        refine K.ret (fn := Tryz.f16) Tryz.func16 (fun a w hk hs => res1 Tryz.results16 hk rfl) (fun w hs => ?_)
        rw [hr]
        exact ⟨_, [], rfl, ⟨rfl, rfl⟩, hs.fitD⟩
      · refine D.q 16 rfl (by kernel_rfl) (by kernel_rfl) (q_move rfl) (fun _ h => h.subD) ?_
        refine D.q 17 rfl (by kernel_rfl) (by kernel_rfl) (q_move rfl) (fun _ h => h.subD) ?_
        refine D.q 18 rfl (by kernel_rfl) (by kernel_rfl) (q_move rfl) (fun _ h => h.subD) ?_
        first | refine D.q 19 rfl (by kernel_rfl) (by kernel_rfl) (q_ix _ se_31 rfl rfl rfl isF (by repeat (first | exact List.Mem.head _ | apply List.Mem.tail)) rfl (by first | assumption | omega | exact (List.getElem?_eq_some_iff.1 (by assumption)).1 | (simp; omega))) (fun _ h => h.subD) ?_ | refine D.q 19 rfl (by kernel_rfl) (by kernel_rfl) (q_ix _ se_31 rfl rfl rfl isO (by repeat (first | exact List.Mem.head _ | apply List.Mem.tail)) rfl (by first | assumption | omega | exact (List.getElem?_eq_some_iff.1 (by assumption)).1 | (simp; omega))) (fun _ h => h.subD) ?_
        refine D.q 20 rfl (by kernel_rfl) (by kernel_rfl) (q_fieldE fo_39_0 rfl) (fun _ h => h.subD) ?_
        first | refine D.q 21 rfl (by kernel_rfl) (by kernel_rfl) (q_ldE ck_3 rfl isF (by repeat (first | exact List.Mem.head _ | apply List.Mem.tail)) (by first | assumption | exact List.getElem?_eq_getElem (by first | assumption | omega | (simp; omega))) rfl) (fun _ h => h.subD) ?_ | refine D.q 21 rfl (by kernel_rfl) (by kernel_rfl) (q_ldE ck_3 rfl isO (by repeat (first | exact List.Mem.head _ | apply List.Mem.tail)) (by first | assumption | exact List.getElem?_eq_getElem (by first | assumption | omega | (simp; omega))) rfl) (fun _ h => h.subD) ?_
        refine D.q 23 rfl (by kernel_rfl) (by kernel_rfl) (q_move rfl) (fun _ h => h.subD) ?_
        refine D.all (rs := [22]) (by kernel_rfl) rfl (DAll.cons rfl (by kernel_rfl) (OpL.callD rfl (h := ref_FindMsg _ _ _ _ (by first | omega | (simp; omega)))) (.inr (by rintro _ _ ⟨_, ⟨rfl, rfl⟩, rfl⟩ w h; exact h.subD)) rfl ?_ DAll.nil)
        rintro _ _ ⟨_, ⟨rfl, rfl⟩, rfl⟩
        refine D.q 24 rfl (by kernel_rfl) (by kernel_rfl) (q_lt rfl rfl) (fun _ h => h.subD) ?_
        refine D.q 25 rfl (by kernel_rfl) (by kernel_rfl) (q_pickF rfl rfl) (fun _ h => h.subD) ?_
        refine D.done (by kernel_rfl) ?_
        refine K.dcond (s := 35) rfl (fun g35 => ?_) (fun g35 => ?_)
        · refine K.seq ?_
          have hr : risesM l = false := by
            first
              | exact risesM_false_adj (adj2_false (by omega) hx hy (decide_eq_false (by omega)))
              | exact risesM_false_nodup (i := i + 1) (by rw [ids_snoc hy, nodup_snoc]; exact fun h => h.2 ((idxP_lt hy).1 g35))
          refine K.region ?_
          refine KO.q rfl (q_assign rfl) ?_
          refine KO.done ?_
          refine K.ret (fn := Tryz.f16) Tryz.func16 (fun a w hk hs => res1 Tryz.results16 hk rfl) (fun w hs => ?_)
          rw [hr]
          exact ⟨_, [], rfl, ⟨rfl, rfl⟩, hs.fitD⟩
        · refine K.skip <| K.inBlock ?_
          refine K.region ?_
          refine KO.q rfl (q_move rfl) ?_
          refine KO.q rfl (q_add rfl rfl (by first | omega | (simp; omega)) (by first | omega | (simp; omega))) ?_
          refine KO.q rfl (q_assign rfl) ?_
          refine KO.done ?_
          exact K.weak (by repeat (first | exact Env.sub_nil _ | refine Env.sub_cons rfl ?_)) (fun w h => h.fitD) (ih ⟨i + 1, by omega, by
            first
              | exact adj2_true (by omega) hx hy ha (decide_eq_true (by omega))
              | (obtain rfl : i = 0 := by omega
                 exact adj_take_one _ _), by rw [ids_snoc hy, nodup_snoc]; exact ⟨hn, fun h => g35 ((idxP_lt hy).2 h)⟩⟩ (by show l.length - (i + 1) < l.length - i; omega))
    · refine D.skip 3 rfl (by kernel_rfl) (by kernel_rfl) (fun _ h => h.subD) ?_
      refine D.skip 4 rfl (by kernel_rfl) (by kernel_rfl) (fun _ h => h.subD) ?_
      refine D.skip 5 rfl (by kernel_rfl) (by kernel_rfl) (fun _ h => h.subD) ?_
      refine D.skip 6 rfl (by kernel_rfl) (by kernel_rfl) (fun _ h => h.subD) ?_
      refine D.skip 7 rfl (by kernel_rfl) (by kernel_rfl) (fun _ h => h.subD) ?_
      refine D.skip 8 rfl (by kernel_rfl) (by kernel_rfl) (fun _ h => h.subD) ?_
      refine D.skip 9 rfl (by kernel_rfl) (by kernel_rfl) (fun _ h => h.subD) ?_
      refine D.skip 10 rfl (by kernel_rfl) (by kernel_rfl) (fun _ h => h.subD) ?_
      refine D.skip 11 rfl (by kernel_rfl) (by kernel_rfl) (fun _ h => h.subD) ?_
      refine D.skip 12 rfl (by kernel_rfl) (by kernel_rfl) (fun _ h => h.subD) ?_
      refine D.skip 13 rfl (by kernel_rfl) (by kernel_rfl) (fun _ h => h.subD) ?_
      refine D.q 14 rfl (by kernel_rfl) (by kernel_rfl) (q_pickF rfl rfl) (fun _ h => h.subD) ?_
      refine D.q 15 rfl (by kernel_rfl) (by kernel_rfl) (q_move rfl) (fun _ h => h.subD) ?_
      refine D.q 16 rfl (by kernel_rfl) (by kernel_rfl) (q_move rfl) (fun _ h => h.subD) ?_
      refine D.q 17 rfl (by kernel_rfl) (by kernel_rfl) (q_move rfl) (fun _ h => h.subD) ?_
      refine D.q 18 rfl (by kernel_rfl) (by kernel_rfl) (q_move rfl) (fun _ h => h.subD) ?_
      first | refine D.q 19 rfl (by kernel_rfl) (by kernel_rfl) (q_ix _ se_31 rfl rfl rfl isF (by repeat (first | exact List.Mem.head _ | apply List.Mem.tail)) rfl (by first | assumption | omega | exact (List.getElem?_eq_some_iff.1 (by assumption)).1 | (simp; omega))) (fun _ h => h.subD) ?_ | refine D.q 19 rfl (by kernel_rfl) (by kernel_rfl) (q_ix _ se_31 rfl rfl rfl isO (by repeat (first | exact List.Mem.head _ | apply List.Mem.tail)) rfl (by first | assumption | omega | exact (List.getElem?_eq_some_iff.1 (by assumption)).1 | (simp; omega))) (fun _ h => h.subD) ?_
      refine D.q 20 rfl (by kernel_rfl) (by kernel_rfl) (q_fieldE fo_39_0 rfl) (fun _ h => h.subD) ?_
      first | refine D.q 21 rfl (by kernel_rfl) (by kernel_rfl) (q_ldE ck_3 rfl isF (by repeat (first | exact List.Mem.head _ | apply List.Mem.tail)) (by first | assumption | exact List.getElem?_eq_getElem (by first | assumption | omega | (simp; omega))) rfl) (fun _ h => h.subD) ?_ | refine D.q 21 rfl (by kernel_rfl) (by kernel_rfl) (q_ldE ck_3 rfl isO (by repeat (first | exact List.Mem.head _ | apply List.Mem.tail)) (by first | assumption | exact List.getElem?_eq_getElem (by first | assumption | omega | (simp; omega))) rfl) (fun _ h => h.subD) ?_
      refine D.q 23 rfl (by kernel_rfl) (by kernel_rfl) (q_move rfl) (fun _ h => h.subD) ?_
      refine D.all (rs := [22]) (by kernel_rfl) rfl (DAll.cons rfl (by kernel_rfl) (OpL.callD rfl (h := ref_FindMsg _ _ _ _ (by first | omega | (simp; omega)))) (.inr (by rintro _ _ ⟨_, ⟨rfl, rfl⟩, rfl⟩ w h; exact h.subD)) rfl ?_ DAll.nil)
      rintro _ _ ⟨_, ⟨rfl, rfl⟩, rfl⟩
      refine D.q 24 rfl (by kernel_rfl) (by kernel_rfl) (q_lt rfl rfl) (fun _ h => h.subD) ?_
      refine D.q 25 rfl (by kernel_rfl) (by kernel_rfl) (q_pickF rfl rfl) (fun _ h => h.subD) ?_
      refine D.done (by kernel_rfl) ?_
      refine K.dcond (s := 35) rfl (fun g35 => ?_) (fun g35 => ?_)
      · refine K.seq ?_
        have hr : risesM l = false := by
          first
            | exact risesM_false_adj (adj2_false (by omega) hx hy (decide_eq_false (by omega)))
            | exact risesM_false_nodup (i := i + 1) (by rw [ids_snoc hy, nodup_snoc]; exact fun h => h.2 ((idxP_lt hy).1 g35))
        refine K.region ?_
        refine KO.q rfl (q_assign rfl) ?_
        refine KO.done ?_
        refine K.ret (fn := Tryz.f16) Tryz.func16 (fun a w hk hs => res1 Tryz.results16 hk rfl) (fun w hs => ?_)
        rw [hr]
        exact ⟨_, [], rfl, ⟨rfl, rfl⟩, hs.fitD⟩
      · refine K.skip <| K.inBlock ?_
        refine K.region ?_
        refine KO.q rfl (q_move rfl) ?_
        refine KO.q rfl (q_add rfl rfl (by first | omega | (simp; omega)) (by first | omega | (simp; omega))) ?_
        refine KO.q rfl (q_assign rfl) ?_
        refine KO.done ?_
        exact K.weak (by repeat (first | exact Env.sub_nil _ | refine Env.sub_cons rfl ?_)) (fun w h => h.fitD) (ih ⟨i + 1, by omega, by
          first
            | exact adj2_true (by omega) hx hy ha (decide_eq_true (by omega))
            | (obtain rfl : i = 0 := by omega
               exact adj_take_one _ _), by rw [ids_snoc hy, nodup_snoc]; exact ⟨hn, fun h => g35 ((idxP_lt hy).2 h)⟩⟩ (by show l.length - (i + 1) < l.length - i; omega))
  · refine K.exit rfl ?_
    refine K.seq ?_
    have hr : risesM l = true := by
      rw [List.take_of_length_le (by omega)] at ha hn
      unfold risesM
      rw [ha, decide_eq_true hn]; rfl
    refine K.region ?_
    refine KO.q rfl (q_assign rfl) ?_
    refine KO.done ?_
    refine K.ret (fn := Tryz.f16) Tryz.func16 (fun a w hk hs => res1 Tryz.results16 hk rfl) (fun w hs => ?_)
    rw [hr]
    exact ⟨_, [], rfl, ⟨rfl, rfl⟩, hs.fitD⟩
theorem zv_bool : zeroV Tryz.prog 4 = some (.bool false) := by kernel_rfl
/-- The map of what was seen: just those of ids are in it. -/
def Seen (ids : List Int) (es : List (Int × Value)) : Prop := ∀ n, mapGet es n = if n ∈ ids then some (.bool true) else none
theorem Seen.nil : Seen [] [] := fun n => by simp [mapGet]
theorem Seen.get {ids : List Int} {es : List (Int × Value)} (h : Seen ids es) (n : Int) : (mapGet es n).getD (.bool false) = .bool (decide (n ∈ ids)) := by
  rw [h n]
  by_cases hn : n ∈ ids
  · simp [hn]
  · simp [hn]
theorem Seen.put {ids : List Int} {es : List (Int × Value)} (h : Seen ids es) (k : Int) : Seen (ids ++ [k]) (mapPut es k (.bool true)) := fun n => by
  rw [mapGet_put, h n]
  by_cases hn : n = k
  · simp [hn]
  · simp [hn]
--%call poste/queue.Rises := qu_Rises _ _ _ (by first | omega | (simp; omega))
set_option maxHeartbeats 800000 in
theorem qu_Rises (q : Option Addr) (cap : Nat) (l : List Msg) (hl : (l.length : Int) ≤ 9223372036854775807) : Fn Tryz.prog 68 [.slice q l.length cap].toArray [RowF Kd.msg q l] (fun r post => r = .bool (risesM l) ∧ post = []) := by
  refine Fn.enter (N := 36) Tryz.func68 rfl Tryz.ntmps68 (by kernel_rfl) rfl (fun ρ L => ?_)
  refine K.seq ?_
  refine K.region ?_
  refine KO.q rfl (q_assign rfl) ?_
  refine KO.done ?_
  refine K.seq ?_
  refine K.region ?_
  refine KO.loud rfl (l_makeMap (fun n : Int => Value.int .i64 n)) ?_
  rintro _ _ ⟨b6, rfl, rfl⟩
  refine KO.q rfl (q_assign rfl) ?_
  refine KO.done ?_
  refine K.seq <| K.seq ?_
  refine K.region ?_
  refine KO.q rfl (q_move rfl) ?_
  refine KO.q rfl (q_len Tryz.underlying31 rfl) ?_
  refine KO.q rfl (q_move rfl) ?_
  refine KO.done ?_
  refine K.block ?_
  refine K.rounds2 (ι := { x : Nat × List (Int × Value) // x.1 ≤ l.length ∧ adj (fun a b => decide (cmpM a b < 0)) (l.take x.1) = true ∧ ((l.take x.1).map (·.id)).Nodup ∧ Seen ((l.take x.1).map (·.id)) x.2 }) (fun x => [(9, .int .i64 x.1.1), (8, .int .i64 l.length), (7, .slice q l.length cap), (3, .map (some b6)), (0, .slice q l.length cap)]) (fun x => [mpO (fun n : Int => Value.int .i64 n) b6 x.1.2, RowF Kd.msg q l] ++ L) (fun x => l.length - x.1.1) ⟨(0, []), Nat.zero_le _, by simp [adj], by simp, Seen.nil⟩ (by repeat (first | exact Env.sub_nil _ | refine Env.sub_cons rfl ?_)) (fun w h => h.fitD) (fun x ih => ?_)
  obtain ⟨⟨i, es⟩, hi, ha, hn, hse⟩ := x
  dsimp only at hi ha hn hse ⊢
  refine K.seq ?_
  refine K.region ?_
  refine KO.q rfl (q_lt rfl rfl) ?_
  refine KO.done ?_
  refine K.seq ?_
  refine K.dcond (s := 10) rfl (fun g10 => ?_) (fun g10 => ?_)
  · obtain ⟨y, hy⟩ : ∃ e, l[i]? = some e := ⟨_, List.getElem?_eq_getElem (by omega)⟩
    have hlk := hse.get y.id
    refine K.skip <| K.seq <| K.block <| K.seq ?_
    refine K.region ?_
    refine KO.q rfl (q_move rfl) ?_
    first | refine KO.q rfl (q_ix _ se_31 rfl rfl rfl isF (by repeat (first | exact List.Mem.head _ | apply List.Mem.tail)) rfl (by first | assumption | omega | exact (List.getElem?_eq_some_iff.1 (by assumption)).1 | (simp; omega))) ?_ | refine KO.q rfl (q_ix _ se_31 rfl rfl rfl isO (by repeat (first | exact List.Mem.head _ | apply List.Mem.tail)) rfl (by first | assumption | omega | exact (List.getElem?_eq_some_iff.1 (by assumption)).1 | (simp; omega))) ?_
    first | refine KO.q rfl (q_ldEN ck_39 rfl isF (by repeat (first | exact List.Mem.head _ | apply List.Mem.tail)) (by first | assumption | exact List.getElem?_eq_getElem (by first | assumption | omega | (simp; omega)))) ?_ | refine KO.q rfl (q_ldEN ck_39 rfl isO (by repeat (first | exact List.Mem.head _ | apply List.Mem.tail)) (by first | assumption | exact List.getElem?_eq_getElem (by first | assumption | omega | (simp; omega)))) ?_
    refine KO.loud rfl (l_alloc zo_39) ?_
    rintro _ _ ⟨b5, rfl, rfl⟩
    refine KO.q rfl (q_assign rfl) ?_
    refine KO.loudN rfl (l_storeAll ck_39 rfl rfl ⟨rfl, rfl⟩ (msg_one _) (by repeat (first | exact Pick.here | apply Pick.there))) ?_
    rintro _ _ ⟨rfl, rfl⟩
    refine KO.done ?_
    refine K.seq <| K.seq ?_
    refine K.drawU (by repeat (first | apply SubL.pers | apply SubL.own (b := b5) | apply SubL.drop | exact SubL.none)) mixed ?_
    refine D.q 0 rfl (by kernel_rfl) (by kernel_rfl) (q_move rfl) (fun _ h => h.subD) ?_
    refine D.q 1 rfl (by kernel_rfl) (by kernel_rfl) (q_field fo_39_0 rfl) (fun _ h => h.subD) ?_
    refine D.q 2 rfl (by kernel_rfl) (by kernel_rfl) (q_load1D ck_3 rfl) (fun _ h => h.subD) ?_
    refine D.all (rs := [3]) (by kernel_rfl) rfl (DAll.cons rfl (by kernel_rfl) (OpQ.loud (q_is (q_lookup Tryz.underlying60 (mkey_int Tryz.underlying3) zv_bool rfl rfl (by repeat (first | exact List.Mem.head _ | apply List.Mem.tail))) hlk)) (.inr (by rintro _ _ ⟨rfl, rfl⟩ w h; exact h.subD)) rfl ?_ DAll.nil)
    rintro _ _ ⟨rfl, rfl⟩
    refine D.q 4 rfl (by kernel_rfl) (by kernel_rfl) (q_move rfl) (fun _ h => h.subD) ?_
    first | refine D.dsplit 18 rfl (fun g18 => ?_) (fun g18 => ?_) | refine D.split 18 rfl (fun g18 => ?_) (fun g18 => ?_)
    · refine D.skip 5 rfl (by kernel_rfl) (by kernel_rfl) (fun _ h => h.subD) ?_
      refine D.skip 6 rfl (by kernel_rfl) (by kernel_rfl) (fun _ h => h.subD) ?_
      refine D.skip 7 rfl (by kernel_rfl) (by kernel_rfl) (fun _ h => h.subD) ?_
      refine D.gone 8 rfl (by kernel_rfl) (by kernel_rfl) (fun _ h => h.subD) ?_
      refine D.gone 9 rfl (by kernel_rfl) (by kernel_rfl) (fun _ h => h.subD) ?_
      refine D.gone 10 rfl (by kernel_rfl) (by kernel_rfl) (fun _ h => h.subD) ?_
      refine D.gone 11 rfl (by kernel_rfl) (by kernel_rfl) (fun _ h => h.subD) ?_
      refine D.gone 12 rfl (by kernel_rfl) (by kernel_rfl) (fun _ h => h.subD) ?_
      refine D.gone 13 rfl (by kernel_rfl) (by kernel_rfl) (fun _ h => h.subD) ?_
      refine D.gone 14 rfl (by kernel_rfl) (by kernel_rfl) (fun _ h => h.subD) ?_
      refine D.gone 15 rfl (by kernel_rfl) (by kernel_rfl) (fun _ h => h.subD) ?_
      refine D.skip 16 rfl (by kernel_rfl) (by kernel_rfl) (fun _ h => h.subD) ?_
      refine D.q 17 rfl (by kernel_rfl) (by kernel_rfl) (q_pickT rfl rfl) (fun _ h => h.subD) ?_
      refine D.done (by kernel_rfl) ?_
      refine K.yes rfl ?_
      refine K.seq ?_
      have hr : risesM l = false := by
        first
          | exact risesM_false_nodup (i := i + 1) (by rw [ids_snoc hy, nodup_snoc]; exact fun h => h.2 g18)
          | exact risesM_false_adj (adj2_false (by omega) hx hy (decide_eq_false (by omega)))
      refine K.region ?_
      refine KO.q rfl (q_assign rfl) ?_
      refine KO.done ?_
      refine K.ret (fn := Tryz.f68) Tryz.func68 (fun a w hk hs => res1 Tryz.results68 hk rfl) (fun w hs => ?_)
      rw [hr]
      exact ⟨_, [], rfl, ⟨rfl, rfl⟩, hs.fitD⟩
    · refine D.q 5 rfl (by kernel_rfl) (by kernel_rfl) (q_move rfl) (fun _ h => h.subD) ?_
      refine D.q 6 rfl (by kernel_rfl) (by kernel_rfl) (q_gt rfl rfl) (fun _ h => h.subD) ?_
      refine D.q 7 rfl (by kernel_rfl) (by kernel_rfl) (q_move rfl) (fun _ h => h.subD) ?_
      refine D.dsplit 21 rfl (fun g21 => ?_) (fun g21 => ?_)
      · obtain ⟨x, hx⟩ : ∃ e, l[i - 1]? = some e := ⟨_, List.getElem?_eq_getElem (by omega)⟩
        have hsub : (i : Int) - 1 = ((i - 1 : Nat) : Int) := by omega
        refine D.q 8 rfl (by kernel_rfl) (by kernel_rfl) (q_move rfl) (fun _ h => h.subD) ?_
        refine D.q 9 rfl (by kernel_rfl) (by kernel_rfl) (q_move rfl) (fun _ h => h.subD) ?_
        refine D.q 10 rfl (by kernel_rfl) (by kernel_rfl) (q_sub rfl rfl (by first | omega | (simp; omega)) (by first | omega | (simp; omega))) (fun _ h => h.subD) ?_
        refine D.q 11 rfl (by kernel_rfl) (by kernel_rfl) (q_ix (i - 1) se_31 rfl rfl hsub isF (by repeat (first | exact List.Mem.head _ | apply List.Mem.tail)) rfl (by omega)) (fun _ h => h.subD) ?_
        first | refine D.q 12 rfl (by kernel_rfl) (by kernel_rfl) (q_ldEN ck_39 rfl isF (by repeat (first | exact List.Mem.head _ | apply List.Mem.tail)) (by first | assumption | exact List.getElem?_eq_getElem (by first | assumption | omega | (simp; omega)))) (fun _ h => h.subD) ?_ | refine D.q 12 rfl (by kernel_rfl) (by kernel_rfl) (q_ldEN ck_39 rfl isO (by repeat (first | exact List.Mem.head _ | apply List.Mem.tail)) (by first | assumption | exact List.getElem?_eq_getElem (by first | assumption | omega | (simp; omega)))) (fun _ h => h.subD) ?_
        refine D.q 13 rfl (by kernel_rfl) (by kernel_rfl) (q_loadN ck_39 rfl rfl (by first | (apply cells_pv; (repeat (first | exact List.Mem.head _ | apply List.Mem.tail))) | (apply cells_fv; (repeat (first | exact List.Mem.head _ | apply List.Mem.tail))))) (fun _ h => h.subD) ?_
        refine D.all (rs := [14]) (by kernel_rfl) rfl (DAll.cons rfl (by kernel_rfl) (OpL.callD rfl (h := ord_Msgs _ _)) (.inr (by rintro _ _ ⟨_, ⟨rfl, rfl⟩, rfl⟩ w h; exact h.subD)) rfl ?_ DAll.nil)
        rintro _ _ ⟨_, ⟨rfl, rfl⟩, rfl⟩
        refine D.q 15 rfl (by kernel_rfl) (by kernel_rfl) (q_ge rfl rfl) (fun _ h => h.subD) ?_
        refine D.q 16 rfl (by kernel_rfl) (by kernel_rfl) (q_pickT rfl rfl) (fun _ h => h.subD) ?_
        refine D.q 17 rfl (by kernel_rfl) (by kernel_rfl) (q_pickF rfl rfl) (fun _ h => h.subD) ?_
        refine D.done (by kernel_rfl) ?_
        refine K.dcond (s := 31) rfl (fun g31 => ?_) (fun g31 => ?_)
        · refine K.seq ?_
          have hr : risesM l = false := by
            first
              | exact risesM_false_nodup (i := i + 1) (by rw [ids_snoc hy, nodup_snoc]; exact fun h => h.2 g18)
              | exact risesM_false_adj (adj2_false (by omega) hx hy (decide_eq_false (by omega)))
          refine K.region ?_
          refine KO.q rfl (q_assign rfl) ?_
          refine KO.done ?_
          refine K.ret (fn := Tryz.f68) Tryz.func68 (fun a w hk hs => res1 Tryz.results68 hk rfl) (fun w hs => ?_)
          rw [hr]
          exact ⟨_, [], rfl, ⟨rfl, rfl⟩, hs.fitD⟩
        · refine K.skip ?_
          refine K.region ?_
          refine KO.q rfl (q_move rfl) ?_
          refine KO.q rfl (q_field fo_39_0 rfl) ?_
          refine KO.q rfl (q_load1D ck_3 rfl) ?_
          refine KO.loudN rfl (l_mapUpdate Tryz.underlying60 (mkey_int Tryz.underlying3) rfl rfl rfl (by repeat (first | exact Pick.here | apply Pick.there))) ?_
          rintro _ _ ⟨rfl, rfl⟩
          refine KO.done ?_
          refine K.inBlock ?_
          refine K.region ?_
          refine KO.q rfl (q_add rfl rfl (by first | omega | (simp; omega)) (by first | omega | (simp; omega))) ?_
          refine KO.q rfl (q_move rfl) ?_
          refine KO.done ?_
          refine K.weak (by repeat (first | exact Env.sub_nil _ | refine Env.sub_cons rfl ?_)) (fun w h => ?_) (ih ⟨(i + 1, mapPut es y.id (.bool true)), by show i + 1 ≤ l.length; omega, ?_, by show ((l.take (i + 1)).map (·.id)).Nodup; rw [ids_snoc hy, nodup_snoc]; exact ⟨hn, g18⟩, by show Seen ((l.take (i + 1)).map (·.id)) _; rw [ids_snoc hy]; exact hse.put y.id⟩ (by show l.length - (i + 1) < l.length - i; omega))
          · dsimp only
            exact h.fitD
          · first
              | exact adj2_true (by omega) hx hy ha (decide_eq_true (by omega))
              | (obtain rfl : i = 0 := by omega
                 exact adj_take_one _ _)
      · refine D.skip 8 rfl (by kernel_rfl) (by kernel_rfl) (fun _ h => h.subD) ?_
        refine D.skip 9 rfl (by kernel_rfl) (by kernel_rfl) (fun _ h => h.subD) ?_
        refine D.skip 10 rfl (by kernel_rfl) (by kernel_rfl) (fun _ h => h.subD) ?_
        refine D.skip 11 rfl (by kernel_rfl) (by kernel_rfl) (fun _ h => h.subD) ?_
        refine D.skip 12 rfl (by kernel_rfl) (by kernel_rfl) (fun _ h => h.subD) ?_
        refine D.skip 13 rfl (by kernel_rfl) (by kernel_rfl) (fun _ h => h.subD) ?_
        refine D.skip 14 rfl (by kernel_rfl) (by kernel_rfl) (fun _ h => h.subD) ?_
        refine D.skip 15 rfl (by kernel_rfl) (by kernel_rfl) (fun _ h => h.subD) ?_
        refine D.q 16 rfl (by kernel_rfl) (by kernel_rfl) (q_pickF rfl rfl) (fun _ h => h.subD) ?_
        refine D.q 17 rfl (by kernel_rfl) (by kernel_rfl) (q_pickF rfl rfl) (fun _ h => h.subD) ?_
        refine D.done (by kernel_rfl) ?_
        refine K.no rfl ?_
        refine K.skip ?_
        refine K.region ?_
        refine KO.q rfl (q_move rfl) ?_
        refine KO.q rfl (q_field fo_39_0 rfl) ?_
        refine KO.q rfl (q_load1D ck_3 rfl) ?_
        refine KO.loudN rfl (l_mapUpdate Tryz.underlying60 (mkey_int Tryz.underlying3) rfl rfl rfl (by repeat (first | exact Pick.here | apply Pick.there))) ?_
        rintro _ _ ⟨rfl, rfl⟩
        refine KO.done ?_
        refine K.inBlock ?_
        refine K.region ?_
        refine KO.q rfl (q_add rfl rfl (by first | omega | (simp; omega)) (by first | omega | (simp; omega))) ?_
        refine KO.q rfl (q_move rfl) ?_
        refine KO.done ?_
        refine K.weak (by repeat (first | exact Env.sub_nil _ | refine Env.sub_cons rfl ?_)) (fun w h => ?_) (ih ⟨(i + 1, mapPut es y.id (.bool true)), by show i + 1 ≤ l.length; omega, ?_, by show ((l.take (i + 1)).map (·.id)).Nodup; rw [ids_snoc hy, nodup_snoc]; exact ⟨hn, g18⟩, by show Seen ((l.take (i + 1)).map (·.id)) _; rw [ids_snoc hy]; exact hse.put y.id⟩ (by show l.length - (i + 1) < l.length - i; omega))
        · dsimp only
          exact h.fitD
        · first
            | exact adj2_true (by omega) hx hy ha (decide_eq_true (by omega))
            | (obtain rfl : i = 0 := by omega
               exact adj_take_one _ _)
  · refine K.exit rfl ?_
    refine K.seq ?_
    have hr : risesM l = true := by
      rw [List.take_of_length_le (by omega)] at ha hn
      unfold risesM
      rw [ha, decide_eq_true hn]; rfl
    refine K.region ?_
    refine KO.q rfl (q_assign rfl) ?_
    refine KO.done ?_
    refine K.ret (fn := Tryz.f68) Tryz.func68 (fun a w hk hs => res1 Tryz.results68 hk rfl) (fun w hs => ?_)
    rw [hr]
    exact ⟨_, [], rfl, ⟨rfl, rfl⟩, hs.fitD⟩
--%call poste/posteref14.messages := ref_messages _ _ _ _ _ (by first | omega | (simp; omega))
def msgsOk (l : List Msg) (next : Int) (dead : Bool) : Bool := l.all (fun m => m.right && decide (m.id < next) && !(dead && m.claimed))
theorem ref_messages (q : Option Addr) (cap : Nat) (l : List Msg) (next : Int) (dead : Bool) (hl : (l.length : Int) ≤ 9223372036854775807) : Fn Tryz.prog 17 [.slice q l.length cap, .int .i64 next, .bool dead].toArray [RowF Kd.msg q l] (fun r post => r = .bool (msgsOk l next dead) ∧ post = []) := by
  refine Fn.enter (N := 39) Tryz.func17 rfl Tryz.ntmps17 (by kernel_rfl) rfl (fun ρ L => ?_)
  refine K.seq ?_
  refine K.region ?_
  refine KO.q rfl (q_assign rfl) ?_
  refine KO.done ?_
  refine K.seq <| K.seq ?_
  refine K.region ?_
  refine KO.q rfl (q_assign rfl) ?_
  refine KO.done ?_
  refine K.block ?_
  refine K.rloop (ι := { i : Nat // i ≤ l.length ∧ msgsOk (l.take i) next dead = true }) (fun x => [(7, .int .i64 x.1), (0, .slice q l.length cap), (1, .int .i64 next), (2, .bool dead)]) (fun x => l.length - x.1) ⟨0, Nat.zero_le _, rfl⟩ (by repeat (first | exact Env.sub_nil _ | refine Env.sub_cons rfl ?_)) (fun x ih => ?_)
  obtain ⟨i, hi, ha⟩ := x
  dsimp only at hi ha ⊢
  refine K.seq <| K.seq ?_
  refine K.region ?_
  refine KO.q rfl (q_move rfl) ?_
  refine KO.q rfl (q_move rfl) ?_
  refine KO.q rfl (q_len Tryz.underlying31 rfl) ?_
  refine KO.q rfl (q_lt rfl rfl) ?_
  refine KO.done ?_
  refine K.dcond (s := 11) rfl (fun g11 => ?_) (fun g11 => ?_)
  · obtain ⟨e, he⟩ : ∃ e, l[i]? = some e := ⟨_, List.getElem?_eq_getElem (by omega)⟩
    refine K.skip <| K.seq <| K.block <| K.seq ?_
    refine K.region ?_
    refine KO.q rfl (q_move rfl) ?_
    refine KO.q rfl (q_move rfl) ?_
    first | refine KO.q rfl (q_ix _ se_31 rfl rfl rfl isF (by repeat (first | exact List.Mem.head _ | apply List.Mem.tail)) rfl (by first | assumption | omega | exact (List.getElem?_eq_some_iff.1 (by assumption)).1 | (simp; omega))) ?_ | refine KO.q rfl (q_ix _ se_31 rfl rfl rfl isO (by repeat (first | exact List.Mem.head _ | apply List.Mem.tail)) rfl (by first | assumption | omega | exact (List.getElem?_eq_some_iff.1 (by assumption)).1 | (simp; omega))) ?_
    first | refine KO.q rfl (q_ldEN ck_39 rfl isF (by repeat (first | exact List.Mem.head _ | apply List.Mem.tail)) (by first | assumption | exact List.getElem?_eq_getElem (by first | assumption | omega | (simp; omega)))) ?_ | refine KO.q rfl (q_ldEN ck_39 rfl isO (by repeat (first | exact List.Mem.head _ | apply List.Mem.tail)) (by first | assumption | exact List.getElem?_eq_getElem (by first | assumption | omega | (simp; omega)))) ?_
    refine KO.loud rfl (OpL.callD rfl (h := ref_Right _)) ?_
    rintro _ _ ⟨_, ⟨rfl, rfl⟩, rfl⟩
    refine KO.q rfl (q_not rfl) ?_
    refine KO.q rfl (q_move rfl) ?_
    refine KO.split 20 rfl (fun g20 => ?_) (fun g20 => ?_)
    · refine KO.skip rfl ?_
      refine KO.skip rfl ?_
      refine KO.skip rfl ?_
      refine KO.skip rfl ?_
      refine KO.skip rfl ?_
      refine KO.skip rfl ?_
      refine KO.skip rfl ?_
      refine KO.q rfl (q_pickT rfl rfl) ?_
      refine KO.q rfl (q_move rfl) ?_
      refine KO.skip rfl ?_
      refine KO.skip rfl ?_
      refine KO.gone rfl ?_
      refine KO.gone rfl ?_
      refine KO.gone rfl ?_
      refine KO.gone rfl ?_
      refine KO.gone rfl ?_
      refine KO.skip rfl ?_
      refine KO.q rfl (q_pickT rfl rfl) ?_
      refine KO.done ?_
      refine K.yes rfl ?_
      refine K.seq ?_
      have hr : msgsOk l next dead = false := by
        unfold msgsOk
        rw [List.all_eq_false]
        refine ⟨e, List.mem_of_getElem? he, ?_⟩
        first
          | (clear ih; simp_all; done)
          | (intro h
             simp only [Bool.and_eq_true, decide_eq_true_eq] at h
             omega)
          | (intro h
             simp [g31, g38] at h)
      refine K.region ?_
      refine KO.q rfl (q_assign rfl) ?_
      refine KO.done ?_
      refine K.ret (fn := Tryz.f17) Tryz.func17 (fun a w hk hs => res1 Tryz.results17 hk rfl) (fun w hs => ?_)
      rw [hr]
      exact ⟨_, [], rfl, ⟨rfl, rfl⟩, hs.fitD⟩
    · refine KO.q rfl (q_move rfl) ?_
      refine KO.q rfl (q_move rfl) ?_
      first | refine KO.q rfl (q_ix _ se_31 rfl rfl rfl isF (by repeat (first | exact List.Mem.head _ | apply List.Mem.tail)) rfl (by first | assumption | omega | exact (List.getElem?_eq_some_iff.1 (by assumption)).1 | (simp; omega))) ?_ | refine KO.q rfl (q_ix _ se_31 rfl rfl rfl isO (by repeat (first | exact List.Mem.head _ | apply List.Mem.tail)) rfl (by first | assumption | omega | exact (List.getElem?_eq_some_iff.1 (by assumption)).1 | (simp; omega))) ?_
      refine KO.q rfl (q_fieldE fo_39_0 rfl) ?_
      first | refine KO.q rfl (q_ldE ck_3 rfl isF (by repeat (first | exact List.Mem.head _ | apply List.Mem.tail)) (by first | assumption | exact List.getElem?_eq_getElem (by first | assumption | omega | (simp; omega))) rfl) ?_ | refine KO.q rfl (q_ldE ck_3 rfl isO (by repeat (first | exact List.Mem.head _ | apply List.Mem.tail)) (by first | assumption | exact List.getElem?_eq_getElem (by first | assumption | omega | (simp; omega))) rfl) ?_
      refine KO.q rfl (q_move rfl) ?_
      refine KO.q rfl (q_ge rfl rfl) ?_
      refine KO.q rfl (q_pickF rfl rfl) ?_
      refine KO.q rfl (q_move rfl) ?_
      refine KO.dsplit 29 rfl (fun g29 => ?_) (fun g29 => ?_)
      · refine KO.skip rfl ?_
        refine KO.skip rfl ?_
        refine KO.gone rfl ?_
        refine KO.gone rfl ?_
        refine KO.gone rfl ?_
        refine KO.gone rfl ?_
        refine KO.gone rfl ?_
        refine KO.skip rfl ?_
        refine KO.q rfl (q_pickT rfl rfl) ?_
        refine KO.done ?_
        refine K.yes rfl ?_
        refine K.seq ?_
        have hr : msgsOk l next dead = false := by
          unfold msgsOk
          rw [List.all_eq_false]
          refine ⟨e, List.mem_of_getElem? he, ?_⟩
          first
            | (clear ih; simp_all; done)
            | (intro h
               simp only [Bool.and_eq_true, decide_eq_true_eq] at h
               omega)
            | (intro h
               simp [g31, g38] at h)
        refine K.region ?_
        refine KO.q rfl (q_assign rfl) ?_
        refine KO.done ?_
        refine K.ret (fn := Tryz.f17) Tryz.func17 (fun a w hk hs => res1 Tryz.results17 hk rfl) (fun w hs => ?_)
        rw [hr]
        exact ⟨_, [], rfl, ⟨rfl, rfl⟩, hs.fitD⟩
      · refine KO.q rfl (q_move rfl) ?_
        refine KO.q rfl (q_move rfl) ?_
        first | refine KO.dsplit 31 rfl (fun g31 => ?_) (fun g31 => ?_) | refine KO.split 31 rfl (fun g31 => ?_) (fun g31 => ?_)
        · refine KO.q rfl (q_move rfl) ?_
          refine KO.q rfl (q_move rfl) ?_
          first | refine KO.q rfl (q_ix _ se_31 rfl rfl rfl isF (by repeat (first | exact List.Mem.head _ | apply List.Mem.tail)) rfl (by first | assumption | omega | exact (List.getElem?_eq_some_iff.1 (by assumption)).1 | (simp; omega))) ?_ | refine KO.q rfl (q_ix _ se_31 rfl rfl rfl isO (by repeat (first | exact List.Mem.head _ | apply List.Mem.tail)) rfl (by first | assumption | omega | exact (List.getElem?_eq_some_iff.1 (by assumption)).1 | (simp; omega))) ?_
          refine KO.q rfl (q_fieldE fo_39_3 rfl) ?_
          first | refine KO.q rfl (q_ldE ck_4 rfl isF (by repeat (first | exact List.Mem.head _ | apply List.Mem.tail)) (by first | assumption | exact List.getElem?_eq_getElem (by first | assumption | omega | (simp; omega))) rfl) ?_ | refine KO.q rfl (q_ldE ck_4 rfl isO (by repeat (first | exact List.Mem.head _ | apply List.Mem.tail)) (by first | assumption | exact List.getElem?_eq_getElem (by first | assumption | omega | (simp; omega))) rfl) ?_
          refine KO.q rfl (q_pickT rfl rfl) ?_
          refine KO.q rfl (q_pickF rfl rfl) ?_
          refine KO.done ?_
          first | refine K.dcond (s := 38) rfl (fun g38 => ?_) (fun g38 => ?_) | refine K.bcond (s := 38) rfl (fun g38 => ?_) (fun g38 => ?_)
          · refine K.seq ?_
            have hr : msgsOk l next dead = false := by
              unfold msgsOk
              rw [List.all_eq_false]
              refine ⟨e, List.mem_of_getElem? he, ?_⟩
              first
                | (clear ih; simp_all; done)
                | (intro h
                   simp only [Bool.and_eq_true, decide_eq_true_eq] at h
                   omega)
                | (intro h
                   simp [g31, g38] at h)
            refine K.region ?_
            refine KO.q rfl (q_assign rfl) ?_
            refine KO.done ?_
            refine K.ret (fn := Tryz.f17) Tryz.func17 (fun a w hk hs => res1 Tryz.results17 hk rfl) (fun w hs => ?_)
            rw [hr]
            exact ⟨_, [], rfl, ⟨rfl, rfl⟩, hs.fitD⟩
          · refine K.skip <| K.inBlock ?_
            refine K.region ?_
            refine KO.q rfl (q_move rfl) ?_
            refine KO.q rfl (q_add rfl rfl (by first | omega | (simp; omega)) (by first | omega | (simp; omega))) ?_
            refine KO.q rfl (q_assign rfl) ?_
            refine KO.done ?_
            exact K.weak (by repeat (first | exact Env.sub_nil _ | refine Env.sub_cons rfl ?_)) (fun w h => h.fitD) (ih ⟨i + 1, by omega, by unfold msgsOk at ha ⊢; rw [all_take_succ he, ha]; simp_all⟩ (by show l.length - (i + 1) < l.length - i; omega))
        · refine KO.skip rfl ?_
          refine KO.skip rfl ?_
          refine KO.skip rfl ?_
          refine KO.skip rfl ?_
          refine KO.skip rfl ?_
          refine KO.q rfl (q_pickF rfl rfl) ?_
          refine KO.q rfl (q_pickF rfl rfl) ?_
          refine KO.done ?_
          refine K.no rfl ?_
          refine K.skip <| K.inBlock ?_
          refine K.region ?_
          refine KO.q rfl (q_move rfl) ?_
          refine KO.q rfl (q_add rfl rfl (by first | omega | (simp; omega)) (by first | omega | (simp; omega))) ?_
          refine KO.q rfl (q_assign rfl) ?_
          refine KO.done ?_
          exact K.weak (by repeat (first | exact Env.sub_nil _ | refine Env.sub_cons rfl ?_)) (fun w h => h.fitD) (ih ⟨i + 1, by omega, by unfold msgsOk at ha ⊢; rw [all_take_succ he, ha]; simp_all⟩ (by show l.length - (i + 1) < l.length - i; omega))
  · refine K.exit rfl ?_
    refine K.seq ?_
    have hr : msgsOk l next dead = true := by rw [List.take_of_length_le (by omega)] at ha; exact ha
    refine K.region ?_
    refine KO.q rfl (q_assign rfl) ?_
    refine KO.done ?_
    refine K.ret (fn := Tryz.f17) Tryz.func17 (fun a w hk hs => res1 Tryz.results17 hk rfl) (fun w hs => ?_)
    rw [hr]
    exact ⟨_, [], rfl, ⟨rfl, rfl⟩, hs.fitD⟩
end Go.Proofs.YthnmoiilaaoooaaGreat.L
