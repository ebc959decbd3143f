/- Walks: state.Right, and what is the same. -/
import Derived.Test.YthnmoiilaaoooaaGreatC4
namespace Go.Proofs.YthnmoiilaaoooaaGreat.L
open Go Go.Proofs
attribute [local irreducible] pv fv pt fz RowF RowO rowP old pure_ elA
set_option maxRecDepth 100000
set_option linter.unusedSimpArgs false
set_option linter.unusedVariables false

theorem adj_map {α β : Type} (f : β → β → Bool) (g : α → β) : ∀ l : List α, adj f (l.map g) = adj (fun a b => f (g a) (g b)) l
  | [] => rfl
  | [_] => rfl
  | a :: b :: l => by
    have := adj_map f g (b :: l)
    simp only [List.map_cons] at this ⊢
    simp only [adj, this]
theorem sz_right (s : Sz) : s.st.right = (decide (1 ≤ s.next) && decide (s.next ≤ 1099511627776) && decide ((s.l.length : Int) ≤ 20) && s.l.all (fun o => o.x.right) && adj (fun a b => decide (cmpB a.x.name b.x.name < 0)) s.l && s.st.once) := by
  unfold Stt.right
  show (decide (1 ≤ s.next) && decide (s.next ≤ 1099511627776) && decide (((s.l.map (·.x)).length : Int) ≤ 20) && (s.l.map (·.x)).all Ob.right && adj _ (s.l.map (·.x)) && s.st.once) = _
  rw [List.length_map, List.all_map, adj_map]
  rfl
theorem right_range {s : Sz} (h : ¬ (1 ≤ s.next ∧ s.next ≤ 1099511627776 ∧ (s.l.length : Int) ≤ 20)) : s.st.right = false := by
  rw [sz_right]
  by_cases h1 : 1 ≤ s.next
  · by_cases h2 : s.next ≤ 1099511627776
    · have h3 : ¬ (s.l.length : Int) ≤ 20 := fun h3 => h ⟨h1, h2, h3⟩
      rw [decide_eq_false h3]; simp
    · rw [decide_eq_false h2]; simp
  · rw [decide_eq_false h1]; simp
theorem right_obj {s : Sz} {i : Nat} {o : Oz} (h : s.l[i]? = some o) (hr : o.x.right = false) : s.st.right = false := by
  have : s.l.all (fun o => o.x.right) = false := by rw [List.all_eq_false]; exact ⟨o, List.mem_of_getElem? h, by rw [hr]; simp⟩
  rw [sz_right, this]; simp
theorem right_adj {s : Sz} {i : Nat} (h : adj (fun a b => decide (cmpB a.x.name b.x.name < 0)) (s.l.take i) = false) : s.st.right = false := by
  rw [sz_right, adj_false_take h]; simp
theorem right_once {s : Sz} (h : 1 ≤ s.next ∧ s.next ≤ 1099511627776 ∧ (s.l.length : Int) ≤ 20) (h1 : s.l.all (fun o => o.x.right) = true) (h2 : adj (fun a b => decide (cmpB a.x.name b.x.name < 0)) s.l = true) : s.st.right = s.st.once := by
  rw [sz_right, h1, h2, decide_eq_true h.1, decide_eq_true h.2.1, decide_eq_true h.2.2]; simp
--%call poste/state.Right := st_Right _ (by assumption) (by assumption)
set_option maxHeartbeats 1600000 in
theorem st_Right (s : Sz) (hok : s.ok) (hfew : s.few) : Fn Tryz.prog 39 [.agg s.cells.toArray].toArray (StL s) (fun v post => v = .bool s.st.right ∧ post = []) := by
  have hok' := hok
  obtain ⟨hn0, hl, hlc, hall⟩ := hok'
  refine Fn.enter (N := 50) Tryz.func39 rfl Tryz.ntmps39 (by kernel_rfl) rfl (fun ρ L => ?_)
  refine K.seq ?_
  refine K.region ?_
  refine KO.loud rfl (l_box rfl rfl) ?_
  rintro _ _ ⟨b1, rfl, rfl⟩
  refine KO.q rfl (q_assign rfl) ?_
  refine KO.done ?_
  refine K.seq <| K.seq ?_
  refine K.region ?_
  refine KO.q rfl (q_field fo_24_0 rfl) ?_
  refine KO.q rfl (q_load1D ck_3 rfl) ?_
  refine KO.q rfl (q_lt rfl rfl) ?_
  refine KO.q rfl (q_move rfl) ?_
  refine KO.dsplit 8 rfl (fun g8 => ?_) (fun g8 => ?_)
  · refine KO.skip rfl ?_
    refine KO.skip rfl ?_
    refine KO.skip rfl ?_
    refine KO.q rfl (q_pickT rfl rfl) ?_
    refine KO.q rfl (q_move rfl) ?_
    refine KO.skip rfl ?_
    refine KO.skip rfl ?_
    refine KO.skip rfl ?_
    refine KO.skip rfl ?_
    refine KO.q rfl (q_pickT rfl rfl) ?_
    refine KO.done ?_
    refine K.yes rfl ?_
    refine K.seq ?_
    have hr : s.st.right = false := right_range (by omega)
    rw [hr]
    refine K.region ?_
    refine KO.q rfl (q_assign rfl) ?_
    refine KO.done ?_
    refine K.ret (fn := Tryz.f39) Tryz.func39 (fun a w hk hs => res1 Tryz.results39 hk rfl) (fun w hs => ?_)
    exact ⟨_, [], rfl, ⟨rfl, rfl⟩, hs.fitD⟩
  · refine KO.q rfl (q_field fo_24_0 rfl) ?_
    refine KO.q rfl (q_load1D ck_3 rfl) ?_
    refine KO.q rfl (q_gt rfl rfl) ?_
    refine KO.q rfl (q_pickF rfl rfl) ?_
    refine KO.q rfl (q_move rfl) ?_
    refine KO.dsplit 13 rfl (fun g13 => ?_) (fun g13 => ?_)
    · refine KO.skip rfl ?_
      refine KO.skip rfl ?_
      refine KO.skip rfl ?_
      refine KO.skip rfl ?_
      refine KO.q rfl (q_pickT rfl rfl) ?_
      refine KO.done ?_
      refine K.yes rfl ?_
      refine K.seq ?_
      have hr : s.st.right = false := right_range (by omega)
      rw [hr]
      refine K.region ?_
      refine KO.q rfl (q_assign rfl) ?_
      refine KO.done ?_
      refine K.ret (fn := Tryz.f39) Tryz.func39 (fun a w hk hs => res1 Tryz.results39 hk rfl) (fun w hs => ?_)
      exact ⟨_, [], rfl, ⟨rfl, rfl⟩, hs.fitD⟩
    · refine KO.q rfl (q_field fo_24_1 rfl) ?_
      refine KO.q rfl (q_load1D ck_22 rfl) ?_
      refine KO.q rfl (q_len Tryz.underlying22 rfl) ?_
      refine KO.q rfl (q_gt rfl rfl) ?_
      refine KO.q rfl (q_pickF rfl rfl) ?_
      refine KO.done ?_
      refine K.dcond (s := 18) rfl (fun g18 => ?_) (fun g18 => ?_)
      · refine K.seq ?_
        have hr : s.st.right = false := right_range (by omega)
        rw [hr]
        refine K.region ?_
        refine KO.q rfl (q_assign rfl) ?_
        refine KO.done ?_
        refine K.ret (fn := Tryz.f39) Tryz.func39 (fun a w hk hs => res1 Tryz.results39 hk rfl) (fun w hs => ?_)
        exact ⟨_, [], rfl, ⟨rfl, rfl⟩, hs.fitD⟩
      · refine K.skip <| K.seq <| K.seq ?_
        have hrange : 1 ≤ s.next ∧ s.next ≤ 1099511627776 ∧ (s.l.length : Int) ≤ 20 := by omega
        refine K.region ?_
        refine KO.q rfl (q_field fo_24_1 rfl) ?_
        refine KO.q rfl (q_load1D ck_22 rfl) ?_
        refine KO.q rfl (q_len Tryz.underlying22 rfl) ?_
        refine KO.q rfl (q_move rfl) ?_
        refine KO.done ?_
        refine K.block ?_
        refine K.rounds2 (ι := { x : Nat // x ≤ s.l.length ∧ (s.l.take x).all (fun o => o.x.right) = true ∧ adj (fun a b => decide (cmpB a.x.name b.x.name < 0)) (s.l.take x) = true }) (fun x => [(22, .int .i64 x.1), (21, .int .i64 s.l.length), (20, .slice s.q s.l.length s.c), (1, .pointer (some ⟨b1, 0, none⟩))]) (fun x => [pv b1 24 s.cells, RowF Kd.oz s.q s.l, NestF s.l] ++ L) (fun x => s.l.length - x.1) ⟨0, Nat.zero_le _, rfl, rfl⟩ (by repeat (first | exact Env.sub_nil _ | refine Env.sub_cons rfl ?_)) (fun w h => h.fitD) (fun x ih => ?_)
        obtain ⟨i, hi, ha, hadj⟩ := x
        dsimp only at hi ha hadj ⊢
        refine K.seq ?_
        refine K.region ?_
        refine KO.q rfl (q_lt rfl rfl) ?_
        refine KO.done ?_
        refine K.seq ?_
        refine K.dcond (s := 23) rfl (fun g23 => ?_) (fun g23 => ?_)
        · obtain ⟨o, ho⟩ : ∃ e, s.l[i]? = some e := ⟨_, List.getElem?_eq_getElem (by omega)⟩
          have hmo := List.mem_of_getElem? ho
          have hoo := hall o hmo
          refine K.st (fun w h => nestF_at (l := s.l) (by repeat (first | exact List.Mem.head _ | apply List.Mem.tail)) hmo h) ?_
          refine K.skip <| K.seq <| K.block <| K.seq ?_
          refine K.region ?_
          refine KO.q rfl (q_move rfl) ?_
          first | refine KO.q rfl (q_ix _ se_22 rfl rfl rfl isF (by repeat (first | exact List.Mem.head _ | apply List.Mem.tail)) rfl (by first | assumption | omega | exact (List.getElem?_eq_some_iff.1 (by assumption)).1 | (simp; omega))) ?_ | refine KO.q rfl (q_ix _ se_22 rfl rfl rfl isO (by repeat (first | exact List.Mem.head _ | apply List.Mem.tail)) rfl (by first | assumption | omega | exact (List.getElem?_eq_some_iff.1 (by assumption)).1 | (simp; omega))) ?_
          first | refine KO.q rfl (q_ldEN ck_33 rfl isF (by repeat (first | exact List.Mem.head _ | apply List.Mem.tail)) (by first | assumption | exact List.getElem?_eq_getElem (by first | assumption | omega | (simp; omega)))) ?_ | refine KO.q rfl (q_ldEN ck_33 rfl isO (by repeat (first | exact List.Mem.head _ | apply List.Mem.tail)) (by first | assumption | exact List.getElem?_eq_getElem (by first | assumption | omega | (simp; omega)))) ?_
          refine KO.loud rfl (l_alloc zo_33) ?_
          rintro _ _ ⟨b4, rfl, rfl⟩
          refine KO.q rfl (q_assign rfl) ?_
          refine KO.loudN rfl (l_storeAll ck_33 rfl rfl ⟨rfl, rfl⟩ (oz_one _) (by repeat (first | exact Pick.here | apply Pick.there))) ?_
          rintro _ _ ⟨rfl, rfl⟩
          refine KO.done ?_
          refine K.seq ?_
          refine K.drawU (by repeat (first | apply SubL.pers | apply SubL.own (b := b4) | apply SubL.own (b := b1) | apply SubL.drop | exact SubL.none)) mixed ?_
          refine D.q 0 rfl (by kernel_rfl) (by kernel_rfl) (q_loadN ck_33 rfl rfl (by first | (apply cells_pv; (repeat (first | exact List.Mem.head _ | apply List.Mem.tail))) | (apply cells_fv; (repeat (first | exact List.Mem.head _ | apply List.Mem.tail))))) (fun _ h => h.subD) ?_
          refine D.all (rs := [1]) (by kernel_rfl) rfl (DAll.cons rfl (by kernel_rfl) (OpL.callD rfl (h := st_object _ (by assumption))) (.inl (by kernel_rfl)) rfl ?_ DAll.nil)
          rintro _ _ ⟨_, ⟨rfl, rfl⟩, rfl⟩
          refine D.q 2 rfl (by kernel_rfl) (by kernel_rfl) (q_not rfl) (fun _ h => h.subD) ?_
          refine D.q 3 rfl (by kernel_rfl) (by kernel_rfl) (q_move rfl) (fun _ h => h.subD) ?_
          refine D.split 30 rfl (fun g30 => ?_) (fun g30 => ?_)
          · refine D.skip 4 rfl (by kernel_rfl) (by kernel_rfl) (fun _ h => h.subD) ?_
            refine D.skip 5 rfl (by kernel_rfl) (by kernel_rfl) (fun _ h => h.subD) ?_
            refine D.skip 6 rfl (by kernel_rfl) (by kernel_rfl) (fun _ h => h.subD) ?_
            refine D.gone 7 rfl (by kernel_rfl) (by kernel_rfl) (fun _ h => h.subD) ?_
            refine D.gone 8 rfl (by kernel_rfl) (by kernel_rfl) (fun _ h => h.subD) ?_
            refine D.gone 9 rfl (by kernel_rfl) (by kernel_rfl) (fun _ h => h.subD) ?_
            refine D.gone 10 rfl (by kernel_rfl) (by kernel_rfl) (fun _ h => h.subD) ?_
            refine D.gone 11 rfl (by kernel_rfl) (by kernel_rfl) (fun _ h => h.subD) ?_
            refine D.gone 12 rfl (by kernel_rfl) (by kernel_rfl) (fun _ h => h.subD) ?_
            refine D.gone 13 rfl (by kernel_rfl) (by kernel_rfl) (fun _ h => h.subD) ?_
            refine D.gone 14 rfl (by kernel_rfl) (by kernel_rfl) (fun _ h => h.subD) ?_
            refine D.gone 15 rfl (by kernel_rfl) (by kernel_rfl) (fun _ h => h.subD) ?_
            refine D.gone 16 rfl (by kernel_rfl) (by kernel_rfl) (fun _ h => h.subD) ?_
            refine D.gone 17 rfl (by kernel_rfl) (by kernel_rfl) (fun _ h => h.subD) ?_
            refine D.skip 18 rfl (by kernel_rfl) (by kernel_rfl) (fun _ h => h.subD) ?_
            refine D.q 19 rfl (by kernel_rfl) (by kernel_rfl) (q_pickT rfl rfl) (fun _ h => h.subD) ?_
            refine D.done (by kernel_rfl) ?_
            refine K.yes rfl ?_
            refine K.seq ?_
            have hr : s.st.right = false := by
              first
                | exact right_obj ho (by simpa using g30)
                | exact right_adj (adj2_false (by omega) hp ho (decide_eq_false (by omega)))
            rw [hr]
            refine K.region ?_
            refine KO.q rfl (q_assign rfl) ?_
            refine KO.done ?_
            refine K.ret (fn := Tryz.f39) Tryz.func39 (fun a w hk hs => res1 Tryz.results39 hk rfl) (fun w hs => ?_)
            exact ⟨_, [], rfl, ⟨rfl, rfl⟩, hs.fitD⟩
          · refine D.q 4 rfl (by kernel_rfl) (by kernel_rfl) (q_move rfl) (fun _ h => h.subD) ?_
            refine D.q 5 rfl (by kernel_rfl) (by kernel_rfl) (q_gt rfl rfl) (fun _ h => h.subD) ?_
            refine D.q 6 rfl (by kernel_rfl) (by kernel_rfl) (q_move rfl) (fun _ h => h.subD) ?_
            refine D.dsplit 33 rfl (fun g33 => ?_) (fun g33 => ?_)
            · obtain ⟨p, hp⟩ : ∃ e, s.l[i - 1]? = some e := ⟨_, List.getElem?_eq_getElem (by omega)⟩
              have hsub : (i : Int) - 1 = ((i - 1 : Nat) : Int) := by omega
              refine D.q 7 rfl (by kernel_rfl) (by kernel_rfl) (q_field fo_24_1 rfl) (fun _ h => h.subD) ?_
              refine D.q 8 rfl (by kernel_rfl) (by kernel_rfl) (q_load1D ck_22 rfl) (fun _ h => h.subD) ?_
              refine D.q 9 rfl (by kernel_rfl) (by kernel_rfl) (q_move rfl) (fun _ h => h.subD) ?_
              refine D.q 10 rfl (by kernel_rfl) (by kernel_rfl) (q_sub rfl rfl (by first | omega | (simp; omega)) (by first | omega | (simp; omega))) (fun _ h => h.subD) ?_
              refine D.q 11 rfl (by kernel_rfl) (by kernel_rfl) (q_ix (i - 1) se_22 rfl rfl hsub isF (by repeat (first | exact List.Mem.head _ | apply List.Mem.tail)) rfl (by omega)) (fun _ h => h.subD) ?_
              refine D.q 12 rfl (by kernel_rfl) (by kernel_rfl) (q_fieldE fo_33_0 rfl) (fun _ h => h.subD) ?_
              first | refine D.q 13 rfl (by kernel_rfl) (by kernel_rfl) (q_ldE ck_9 rfl isF (by repeat (first | exact List.Mem.head _ | apply List.Mem.tail)) (by first | assumption | exact List.getElem?_eq_getElem (by first | assumption | omega | (simp; omega))) rfl) (fun _ h => h.subD) ?_ | refine D.q 13 rfl (by kernel_rfl) (by kernel_rfl) (q_ldE ck_9 rfl isO (by repeat (first | exact List.Mem.head _ | apply List.Mem.tail)) (by first | assumption | exact List.getElem?_eq_getElem (by first | assumption | omega | (simp; omega))) rfl) (fun _ h => h.subD) ?_
              refine D.q 14 rfl (by kernel_rfl) (by kernel_rfl) (q_field fo_33_0 rfl) (fun _ h => h.subD) ?_
              refine D.q 15 rfl (by kernel_rfl) (by kernel_rfl) (q_load1D ck_9 rfl) (fun _ h => h.subD) ?_
              refine D.all (rs := [16]) (by kernel_rfl) rfl (DAll.cons rfl (by kernel_rfl) (OpL.callD rfl (h := ord_Keys _ _)) (.inr (by rintro _ _ ⟨_, ⟨rfl, rfl⟩, rfl⟩ w h; exact h.subD)) rfl ?_ DAll.nil)
              rintro _ _ ⟨_, ⟨rfl, rfl⟩, rfl⟩
              refine D.q 17 rfl (by kernel_rfl) (by kernel_rfl) (q_ge rfl rfl) (fun _ h => h.subD) ?_
              refine D.q 18 rfl (by kernel_rfl) (by kernel_rfl) (q_pickT rfl rfl) (fun _ h => h.subD) ?_
              refine D.q 19 rfl (by kernel_rfl) (by kernel_rfl) (q_pickF rfl rfl) (fun _ h => h.subD) ?_
              refine D.done (by kernel_rfl) ?_
              refine K.dcond (s := 46) rfl (fun g46 => ?_) (fun g46 => ?_)
              · refine K.seq ?_
                have hr : s.st.right = false := by
                  first
                    | exact right_obj ho (by simpa using g30)
                    | exact right_adj (adj2_false (by omega) hp ho (decide_eq_false (by omega)))
                rw [hr]
                refine K.region ?_
                refine KO.q rfl (q_assign rfl) ?_
                refine KO.done ?_
                refine K.ret (fn := Tryz.f39) Tryz.func39 (fun a w hk hs => res1 Tryz.results39 hk rfl) (fun w hs => ?_)
                exact ⟨_, [], rfl, ⟨rfl, rfl⟩, hs.fitD⟩
              · refine K.skip <| K.inBlock ?_
                refine K.region ?_
                refine KO.q rfl (q_add rfl rfl (by first | omega | (simp; omega)) (by first | omega | (simp; omega))) ?_
                refine KO.q rfl (q_move rfl) ?_
                refine KO.done ?_
                refine K.weak (by repeat (first | exact Env.sub_nil _ | refine Env.sub_cons rfl ?_)) (fun w h => h.fitD) (ih ⟨i + 1, by omega, by rw [all_take_succ ho, ha]; simpa using g30, ?_⟩ (by show s.l.length - (i + 1) < s.l.length - i; omega))
                first
                  | exact adj2_true (by omega) hp ho hadj (decide_eq_true (by omega))
                  | (obtain rfl : i = 0 := by omega
                     exact adj_take_one _ _)
            · refine D.skip 7 rfl (by kernel_rfl) (by kernel_rfl) (fun _ h => h.subD) ?_
              refine D.skip 8 rfl (by kernel_rfl) (by kernel_rfl) (fun _ h => h.subD) ?_
              refine D.skip 9 rfl (by kernel_rfl) (by kernel_rfl) (fun _ h => h.subD) ?_
              refine D.skip 10 rfl (by kernel_rfl) (by kernel_rfl) (fun _ h => h.subD) ?_
              refine D.skip 11 rfl (by kernel_rfl) (by kernel_rfl) (fun _ h => h.subD) ?_
              refine D.skip 12 rfl (by kernel_rfl) (by kernel_rfl) (fun _ h => h.subD) ?_
              refine D.skip 13 rfl (by kernel_rfl) (by kernel_rfl) (fun _ h => h.subD) ?_
              refine D.skip 14 rfl (by kernel_rfl) (by kernel_rfl) (fun _ h => h.subD) ?_
              refine D.skip 15 rfl (by kernel_rfl) (by kernel_rfl) (fun _ h => h.subD) ?_
              refine D.skip 16 rfl (by kernel_rfl) (by kernel_rfl) (fun _ h => h.subD) ?_
              refine D.skip 17 rfl (by kernel_rfl) (by kernel_rfl) (fun _ h => h.subD) ?_
              refine D.q 18 rfl (by kernel_rfl) (by kernel_rfl) (q_pickF rfl rfl) (fun _ h => h.subD) ?_
              refine D.q 19 rfl (by kernel_rfl) (by kernel_rfl) (q_pickF rfl rfl) (fun _ h => h.subD) ?_
              refine D.done (by kernel_rfl) ?_
              refine K.no rfl ?_
              refine K.skip <| K.inBlock ?_
              refine K.region ?_
              refine KO.q rfl (q_add rfl rfl (by first | omega | (simp; omega)) (by first | omega | (simp; omega))) ?_
              refine KO.q rfl (q_move rfl) ?_
              refine KO.done ?_
              refine K.weak (by repeat (first | exact Env.sub_nil _ | refine Env.sub_cons rfl ?_)) (fun w h => h.fitD) (ih ⟨i + 1, by omega, by rw [all_take_succ ho, ha]; simpa using g30, ?_⟩ (by show s.l.length - (i + 1) < s.l.length - i; omega))
              first
                | exact adj2_true (by omega) hp ho hadj (decide_eq_true (by omega))
                | (obtain rfl : i = 0 := by omega
                   exact adj_take_one _ _)
        · obtain rfl : i = s.l.length := by omega
          rw [List.take_length] at ha hadj
          have hr := right_once hrange ha hadj
          rw [hr]
          refine K.exit rfl ?_
          refine K.seq ?_
          refine K.region ?_
          refine KO.q rfl (q_loadN ck_24 rfl rfl (by first | (apply cells_pv; (repeat (first | exact List.Mem.head _ | apply List.Mem.tail))) | (apply cells_fv; (repeat (first | exact List.Mem.head _ | apply List.Mem.tail))))) ?_
          refine KO.loud rfl (OpL.callD rfl (h := st_once _ (by assumption) (by assumption))) ?_
          rintro _ _ ⟨_, ⟨rfl, rfl⟩, rfl⟩
          refine KO.q rfl (q_assign rfl) ?_
          refine KO.done ?_
          refine K.ret (fn := Tryz.f39) Tryz.func39 (fun a w hk hs => res1 Tryz.results39 hk rfl) (fun w hs => ?_)
          exact ⟨_, [], rfl, ⟨rfl, rfl⟩, hs.fitD⟩
end Go.Proofs.YthnmoiilaaoooaaGreat.L
