/- Walks: state.Right, and what is the same. -/
import Derived.Test.YtlellgnklohclaaC4
namespace Go.Proofs.Ytlellgnklohclaa.L
open Go Go.Proofs
attribute [local irreducible] pv fv pt fz RowF RowO rowP old pure_ elA Rd.int Rd.text Rd.flag Rd.msg Rd.rint Rd.rtext Rd.rflag Rd.rmsg
set_option maxRecDepth 100000
set_option linter.unusedSimpArgs false
set_option linter.unusedVariables false

theorem adj_map {α β : Type} (f : β → β → Bool) (g : α → β) : ∀ l : List α, adj f (l.map g) = adj (fun a b => f (g a) (g b)) l
  | [] => rfl
  | [_] => rfl
  | a :: b :: l => by
    have := adj_map f g (b :: l)
    simp only [List.map_cons] at this ⊢
    simp only [adj, this]
theorem sz_right (s : Sz) : s.st.right = (decide (1 ≤ s.next) && decide (s.next ≤ 1099511627776) && decide ((s.l.length : Int) ≤ 20) && s.l.all (fun o => o.x.right) && adj (fun a b => decide (cmpB a.x.name b.x.name < 0)) s.l && s.st.once) := by
  unfold Stt.right
  show (decide (1 ≤ s.next) && decide (s.next ≤ 1099511627776) && decide (((s.l.map (·.x)).length : Int) ≤ 20) && (s.l.map (·.x)).all Ob.right && adj _ (s.l.map (·.x)) && s.st.once) = _
  rw [List.length_map, List.all_map, adj_map]
  rfl
theorem right_range {s : Sz} (h : ¬ (1 ≤ s.next ∧ s.next ≤ 1099511627776 ∧ (s.l.length : Int) ≤ 20)) : s.st.right = false := by
  rw [sz_right]
  by_cases h1 : 1 ≤ s.next
  · by_cases h2 : s.next ≤ 1099511627776
    · have h3 : ¬ (s.l.length : Int) ≤ 20 := fun h3 => h ⟨h1, h2, h3⟩
      rw [decide_eq_false h3]; simp
    · rw [decide_eq_false h2]; simp
  · rw [decide_eq_false h1]; simp
theorem right_obj {s : Sz} {i : Nat} {o : Oz} (h : s.l[i]? = some o) (hr : o.x.right = false) : s.st.right = false := by
  have : s.l.all (fun o => o.x.right) = false := by rw [List.all_eq_false]; exact ⟨o, List.mem_of_getElem? h, by rw [hr]; simp⟩
  rw [sz_right, this]; simp
theorem right_adj {s : Sz} {i : Nat} (h : adj (fun a b => decide (cmpB a.x.name b.x.name < 0)) (s.l.take i) = false) : s.st.right = false := by
  rw [sz_right, adj_false_take h]; simp
theorem right_once {s : Sz} (h : 1 ≤ s.next ∧ s.next ≤ 1099511627776 ∧ (s.l.length : Int) ≤ 20) (h1 : s.l.all (fun o => o.x.right) = true) (h2 : adj (fun a b => decide (cmpB a.x.name b.x.name < 0)) s.l = true) : s.st.right = s.st.once := by
  rw [sz_right, h1, h2, decide_eq_true h.1, decide_eq_true h.2.1, decide_eq_true h.2.2]; simp
--%call poste/state.Right := st_Right _ (by assumption) (by assumption)
set_option maxHeartbeats 1600000 in
theorem st_Right (s : Sz) (hok : s.ok) (hfew : s.few) : Fn Try.prog 83 [.agg s.cells.toArray].toArray (StL s) (fun v post => v = .bool s.st.right ∧ post = []) := by
  have hok' := hok
  obtain ⟨hn0, hl, hlc, hall⟩ := hok'
  refine Fn.enter (N := 50) Try.func83 rfl Try.ntmps83 (by kernel_rfl) rfl (fun ρ L => ?_)
  refine K.seq ?_
  refine K.region ?_
  refine KO.loud rfl (l_box rfl rfl) ?_
  rintro _ _ ⟨b1, rfl, rfl⟩
  refine KO.q rfl (q_assign rfl) ?_
  refine KO.done ?_
  refine K.seq <| K.seq ?_
  refine K.region ?_
  refine KO.q rfl (q_field fo_76_0 rfl) ?_
  refine KO.q rfl (q_load1D ck_3 rfl) ?_
  refine KO.q rfl (q_lt rfl rfl) ?_
  refine KO.q rfl (q_move rfl) ?_
  refine KO.dsplit 8 rfl (fun g8 => ?_) (fun g8 => ?_)
  · refine KO.skip rfl ?_
    refine KO.skip rfl ?_
    refine KO.skip rfl ?_
    refine KO.q rfl (q_pickT rfl rfl) ?_
    refine KO.q rfl (q_move rfl) ?_
    refine KO.skip rfl ?_
    refine KO.skip rfl ?_
    refine KO.skip rfl ?_
    refine KO.skip rfl ?_
    refine KO.q rfl (q_pickT rfl rfl) ?_
    refine KO.done ?_
    refine K.yes rfl ?_
    refine K.seq ?_
    have hr : s.st.right = false := right_range (by omega)
    rw [hr]
    refine K.region ?_
    refine KO.q rfl (q_assign rfl) ?_
    refine KO.done ?_
    refine K.ret (fn := Try.f83) Try.func83 (fun a w hk hs => res1 Try.results83 hk rfl) (fun w hs => ?_)
    exact ⟨_, [], rfl, ⟨rfl, rfl⟩, hs.fitD⟩
  · refine KO.q rfl (q_field fo_76_0 rfl) ?_
    refine KO.q rfl (q_load1D ck_3 rfl) ?_
    refine KO.q rfl (q_gt rfl rfl) ?_
    refine KO.q rfl (q_pickF rfl rfl) ?_
    refine KO.q rfl (q_move rfl) ?_
    refine KO.dsplit 13 rfl (fun g13 => ?_) (fun g13 => ?_)
    · refine KO.skip rfl ?_
      refine KO.skip rfl ?_
      refine KO.skip rfl ?_
      refine KO.skip rfl ?_
      refine KO.q rfl (q_pickT rfl rfl) ?_
      refine KO.done ?_
      refine K.yes rfl ?_
      refine K.seq ?_
      have hr : s.st.right = false := right_range (by omega)
      rw [hr]
      refine K.region ?_
      refine KO.q rfl (q_assign rfl) ?_
      refine KO.done ?_
      refine K.ret (fn := Try.f83) Try.func83 (fun a w hk hs => res1 Try.results83 hk rfl) (fun w hs => ?_)
      exact ⟨_, [], rfl, ⟨rfl, rfl⟩, hs.fitD⟩
    · refine KO.q rfl (q_field fo_76_1 rfl) ?_
      refine KO.q rfl (q_load1D ck_74 rfl) ?_
      refine KO.q rfl (q_len Try.underlying74 rfl) ?_
      refine KO.q rfl (q_gt rfl rfl) ?_
      refine KO.q rfl (q_pickF rfl rfl) ?_
      refine KO.done ?_
      refine K.dcond (s := 18) rfl (fun g18 => ?_) (fun g18 => ?_)
      · refine K.seq ?_
        have hr : s.st.right = false := right_range (by omega)
        rw [hr]
        refine K.region ?_
        refine KO.q rfl (q_assign rfl) ?_
        refine KO.done ?_
        refine K.ret (fn := Try.f83) Try.func83 (fun a w hk hs => res1 Try.results83 hk rfl) (fun w hs => ?_)
        exact ⟨_, [], rfl, ⟨rfl, rfl⟩, hs.fitD⟩
      · refine K.skip <| K.seq <| K.seq ?_
        have hrange : 1 ≤ s.next ∧ s.next ≤ 1099511627776 ∧ (s.l.length : Int) ≤ 20 := by omega
        refine K.region ?_
        refine KO.q rfl (q_field fo_76_1 rfl) ?_
        refine KO.q rfl (q_load1D ck_74 rfl) ?_
        refine KO.q rfl (q_len Try.underlying74 rfl) ?_
        refine KO.q rfl (q_move rfl) ?_
        refine KO.done ?_
        refine K.block ?_
        refine K.rounds2 (ι := { x : Nat // x ≤ s.l.length ∧ (s.l.take x).all (fun o => o.x.right) = true ∧ adj (fun a b => decide (cmpB a.x.name b.x.name < 0)) (s.l.take x) = true }) (fun x => [(22, .int .i64 x.1), (21, .int .i64 s.l.length), (20, .slice s.q s.l.length s.c), (1, .pointer (some ⟨b1, 0, none⟩))]) (fun x => [pv b1 76 s.cells, RowF Kd.oz s.q s.l, NestF s.l] ++ L) (fun x => s.l.length - x.1) ⟨0, Nat.zero_le _, rfl, rfl⟩ (by repeat (first | exact Env.sub_nil _ | refine Env.sub_cons rfl ?_)) (fun w h => h.fitD) (fun x ih => ?_)
        obtain ⟨i, hi, ha, hadj⟩ := x
        dsimp only at hi ha hadj ⊢
        refine K.seq ?_
        refine K.region ?_
        refine KO.q rfl (q_lt rfl rfl) ?_
        refine KO.done ?_
        refine K.seq ?_
        refine K.dcond (s := 23) rfl (fun g23 => ?_) (fun g23 => ?_)
        · obtain ⟨o, ho⟩ : ∃ e, s.l[i]? = some e := ⟨_, List.getElem?_eq_getElem (by omega)⟩
          have hmo := List.mem_of_getElem? ho
          have hoo := hall o hmo
          refine K.st (fun w h => nestF_at (l := s.l) (by repeat (first | exact List.Mem.head _ | apply List.Mem.tail)) hmo h) ?_
          refine K.skip <| K.seq <| K.block <| K.seq ?_
          refine K.region ?_
          refine KO.q rfl (q_move rfl) ?_
          first | refine KO.q rfl (q_ix _ se_74 rfl rfl rfl isF (by repeat (first | exact List.Mem.head _ | apply List.Mem.tail)) rfl (by first | assumption | omega | exact (List.getElem?_eq_some_iff.1 (by assumption)).1 | (simp; omega))) ?_ | refine KO.q rfl (q_ix _ se_74 rfl rfl rfl isO (by repeat (first | exact List.Mem.head _ | apply List.Mem.tail)) rfl (by first | assumption | omega | exact (List.getElem?_eq_some_iff.1 (by assumption)).1 | (simp; omega))) ?_
          first | refine KO.q rfl (q_ldEN ck_108 rfl isF (by repeat (first | exact List.Mem.head _ | apply List.Mem.tail)) (by first | assumption | exact List.getElem?_eq_getElem (by first | assumption | omega | (simp; omega)))) ?_ | refine KO.q rfl (q_ldEN ck_108 rfl isO (by repeat (first | exact List.Mem.head _ | apply List.Mem.tail)) (by first | assumption | exact List.getElem?_eq_getElem (by first | assumption | omega | (simp; omega)))) ?_
          refine KO.loud rfl (l_alloc zo_108) ?_
          rintro _ _ ⟨b4, rfl, rfl⟩
          refine KO.q rfl (q_assign rfl) ?_
          refine KO.loudN rfl (l_storeAll ck_108 rfl rfl ⟨rfl, rfl⟩ (oz_one _) (by repeat (first | exact Pick.here | apply Pick.there))) ?_
          rintro _ _ ⟨rfl, rfl⟩
          refine KO.done ?_
          refine K.seq ?_
          refine K.drawU (by repeat (first | apply SubL.pers | apply SubL.own (b := b4) | apply SubL.own (b := b1) | apply SubL.drop | exact SubL.none)) mixed ?_
          refine D.q 0 rfl (by kernel_rfl) (by kernel_rfl) (q_loadN ck_108 rfl rfl (by first | (apply cells_pv; (repeat (first | exact List.Mem.head _ | apply List.Mem.tail))) | (apply cells_fv; (repeat (first | exact List.Mem.head _ | apply List.Mem.tail))))) (fun _ h => h.subD) ?_
          refine D.all (rs := [1]) (by kernel_rfl) rfl (DAll.cons rfl (by kernel_rfl) (OpL.callD rfl (h := st_object _ (by assumption))) (.inl (by kernel_rfl)) rfl ?_ DAll.nil)
          rintro _ _ ⟨_, ⟨rfl, rfl⟩, rfl⟩
          refine D.q 2 rfl (by kernel_rfl) (by kernel_rfl) (q_not rfl) (fun _ h => h.subD) ?_
          refine D.q 3 rfl (by kernel_rfl) (by kernel_rfl) (q_move rfl) (fun _ h => h.subD) ?_
          refine D.split 30 rfl (fun g30 => ?_) (fun g30 => ?_)
          · refine D.skip 4 rfl (by kernel_rfl) (by kernel_rfl) (fun _ h => h.subD) ?_
            refine D.skip 5 rfl (by kernel_rfl) (by kernel_rfl) (fun _ h => h.subD) ?_
            refine D.skip 6 rfl (by kernel_rfl) (by kernel_rfl) (fun _ h => h.subD) ?_
            refine D.gone 7 rfl (by kernel_rfl) (by kernel_rfl) (fun _ h => h.subD) ?_
            refine D.gone 8 rfl (by kernel_rfl) (by kernel_rfl) (fun _ h => h.subD) ?_
            refine D.gone 9 rfl (by kernel_rfl) (by kernel_rfl) (fun _ h => h.subD) ?_
            refine D.gone 10 rfl (by kernel_rfl) (by kernel_rfl) (fun _ h => h.subD) ?_
            refine D.gone 11 rfl (by kernel_rfl) (by kernel_rfl) (fun _ h => h.subD) ?_
            refine D.gone 12 rfl (by kernel_rfl) (by kernel_rfl) (fun _ h => h.subD) ?_
            refine D.gone 13 rfl (by kernel_rfl) (by kernel_rfl) (fun _ h => h.subD) ?_
            refine D.gone 14 rfl (by kernel_rfl) (by kernel_rfl) (fun _ h => h.subD) ?_
            refine D.gone 15 rfl (by kernel_rfl) (by kernel_rfl) (fun _ h => h.subD) ?_
            refine D.gone 16 rfl (by kernel_rfl) (by kernel_rfl) (fun _ h => h.subD) ?_
            refine D.gone 17 rfl (by kernel_rfl) (by kernel_rfl) (fun _ h => h.subD) ?_
            refine D.skip 18 rfl (by kernel_rfl) (by kernel_rfl) (fun _ h => h.subD) ?_
            refine D.q 19 rfl (by kernel_rfl) (by kernel_rfl) (q_pickT rfl rfl) (fun _ h => h.subD) ?_
            refine D.done (by kernel_rfl) ?_
            refine K.yes rfl ?_
            refine K.seq ?_
            have hr : s.st.right = false := by
              first
                | exact right_obj ho (by simpa using g30)
                | exact right_adj (adj2_false (by omega) hp ho (decide_eq_false (by omega)))
            rw [hr]
            refine K.region ?_
            refine KO.q rfl (q_assign rfl) ?_
            refine KO.done ?_
            refine K.ret (fn := Try.f83) Try.func83 (fun a w hk hs => res1 Try.results83 hk rfl) (fun w hs => ?_)
            exact ⟨_, [], rfl, ⟨rfl, rfl⟩, hs.fitD⟩
          · refine D.q 4 rfl (by kernel_rfl) (by kernel_rfl) (q_move rfl) (fun _ h => h.subD) ?_
            refine D.q 5 rfl (by kernel_rfl) (by kernel_rfl) (q_gt rfl rfl) (fun _ h => h.subD) ?_
            refine D.q 6 rfl (by kernel_rfl) (by kernel_rfl) (q_move rfl) (fun _ h => h.subD) ?_
            refine D.dsplit 33 rfl (fun g33 => ?_) (fun g33 => ?_)
            · obtain ⟨p, hp⟩ : ∃ e, s.l[i - 1]? = some e := ⟨_, List.getElem?_eq_getElem (by omega)⟩
              have hsub : (i : Int) - 1 = ((i - 1 : Nat) : Int) := by omega
              refine D.q 7 rfl (by kernel_rfl) (by kernel_rfl) (q_field fo_76_1 rfl) (fun _ h => h.subD) ?_
              refine D.q 8 rfl (by kernel_rfl) (by kernel_rfl) (q_load1D ck_74 rfl) (fun _ h => h.subD) ?_
              refine D.q 9 rfl (by kernel_rfl) (by kernel_rfl) (q_move rfl) (fun _ h => h.subD) ?_
              refine D.q 10 rfl (by kernel_rfl) (by kernel_rfl) (q_sub rfl rfl (by first | omega | (simp; omega)) (by first | omega | (simp; omega))) (fun _ h => h.subD) ?_
              refine D.q 11 rfl (by kernel_rfl) (by kernel_rfl) (q_ix (i - 1) se_74 rfl rfl hsub isF (by repeat (first | exact List.Mem.head _ | apply List.Mem.tail)) rfl (by omega)) (fun _ h => h.subD) ?_
              refine D.q 12 rfl (by kernel_rfl) (by kernel_rfl) (q_fieldE fo_108_0 rfl) (fun _ h => h.subD) ?_
              first | refine D.q 13 rfl (by kernel_rfl) (by kernel_rfl) (q_ldE ck_9 rfl isF (by repeat (first | exact List.Mem.head _ | apply List.Mem.tail)) (by first | assumption | exact List.getElem?_eq_getElem (by first | assumption | omega | (simp; omega))) rfl) (fun _ h => h.subD) ?_ | refine D.q 13 rfl (by kernel_rfl) (by kernel_rfl) (q_ldE ck_9 rfl isO (by repeat (first | exact List.Mem.head _ | apply List.Mem.tail)) (by first | assumption | exact List.getElem?_eq_getElem (by first | assumption | omega | (simp; omega))) rfl) (fun _ h => h.subD) ?_
              refine D.q 14 rfl (by kernel_rfl) (by kernel_rfl) (q_field fo_108_0 rfl) (fun _ h => h.subD) ?_
              refine D.q 15 rfl (by kernel_rfl) (by kernel_rfl) (q_load1D ck_9 rfl) (fun _ h => h.subD) ?_
              refine D.all (rs := [16]) (by kernel_rfl) rfl (DAll.cons rfl (by kernel_rfl) (OpL.callD rfl (h := ord_Keys _ _)) (.inr (by rintro _ _ ⟨_, ⟨rfl, rfl⟩, rfl⟩ w h; exact h.subD)) rfl ?_ DAll.nil)
              rintro _ _ ⟨_, ⟨rfl, rfl⟩, rfl⟩
              refine D.q 17 rfl (by kernel_rfl) (by kernel_rfl) (q_ge rfl rfl) (fun _ h => h.subD) ?_
              refine D.q 18 rfl (by kernel_rfl) (by kernel_rfl) (q_pickT rfl rfl) (fun _ h => h.subD) ?_
              refine D.q 19 rfl (by kernel_rfl) (by kernel_rfl) (q_pickF rfl rfl) (fun _ h => h.subD) ?_
              refine D.done (by kernel_rfl) ?_
              refine K.dcond (s := 46) rfl (fun g46 => ?_) (fun g46 => ?_)
              · refine K.seq ?_
                have hr : s.st.right = false := by
                  first
                    | exact right_obj ho (by simpa using g30)
                    | exact right_adj (adj2_false (by omega) hp ho (decide_eq_false (by omega)))
                rw [hr]
                refine K.region ?_
                refine KO.q rfl (q_assign rfl) ?_
                refine KO.done ?_
                refine K.ret (fn := Try.f83) Try.func83 (fun a w hk hs => res1 Try.results83 hk rfl) (fun w hs => ?_)
                exact ⟨_, [], rfl, ⟨rfl, rfl⟩, hs.fitD⟩
              · refine K.skip <| K.inBlock ?_
                refine K.region ?_
                refine KO.q rfl (q_add rfl rfl (by first | omega | (simp; omega)) (by first | omega | (simp; omega))) ?_
                refine KO.q rfl (q_move rfl) ?_
                refine KO.done ?_
                refine K.weak (by repeat (first | exact Env.sub_nil _ | refine Env.sub_cons rfl ?_)) (fun w h => h.fitD) (ih ⟨i + 1, by omega, by rw [all_take_succ ho, ha]; simpa using g30, ?_⟩ (by show s.l.length - (i + 1) < s.l.length - i; omega))
                first
                  | exact adj2_true (by omega) hp ho hadj (decide_eq_true (by omega))
                  | (obtain rfl : i = 0 := by omega
                     exact adj_take_one _ _)
            · refine D.skip 7 rfl (by kernel_rfl) (by kernel_rfl) (fun _ h => h.subD) ?_
              refine D.skip 8 rfl (by kernel_rfl) (by kernel_rfl) (fun _ h => h.subD) ?_
              refine D.skip 9 rfl (by kernel_rfl) (by kernel_rfl) (fun _ h => h.subD) ?_
              refine D.skip 10 rfl (by kernel_rfl) (by kernel_rfl) (fun _ h => h.subD) ?_
              refine D.skip 11 rfl (by kernel_rfl) (by kernel_rfl) (fun _ h => h.subD) ?_
              refine D.skip 12 rfl (by kernel_rfl) (by kernel_rfl) (fun _ h => h.subD) ?_
              refine D.skip 13 rfl (by kernel_rfl) (by kernel_rfl) (fun _ h => h.subD) ?_
              refine D.skip 14 rfl (by kernel_rfl) (by kernel_rfl) (fun _ h => h.subD) ?_
              refine D.skip 15 rfl (by kernel_rfl) (by kernel_rfl) (fun _ h => h.subD) ?_
              refine D.skip 16 rfl (by kernel_rfl) (by kernel_rfl) (fun _ h => h.subD) ?_
              refine D.skip 17 rfl (by kernel_rfl) (by kernel_rfl) (fun _ h => h.subD) ?_
              refine D.q 18 rfl (by kernel_rfl) (by kernel_rfl) (q_pickF rfl rfl) (fun _ h => h.subD) ?_
              refine D.q 19 rfl (by kernel_rfl) (by kernel_rfl) (q_pickF rfl rfl) (fun _ h => h.subD) ?_
              refine D.done (by kernel_rfl) ?_
              refine K.no rfl ?_
              refine K.skip <| K.inBlock ?_
              refine K.region ?_
              refine KO.q rfl (q_add rfl rfl (by first | omega | (simp; omega)) (by first | omega | (simp; omega))) ?_
              refine KO.q rfl (q_move rfl) ?_
              refine KO.done ?_
              refine K.weak (by repeat (first | exact Env.sub_nil _ | refine Env.sub_cons rfl ?_)) (fun w h => h.fitD) (ih ⟨i + 1, by omega, by rw [all_take_succ ho, ha]; simpa using g30, ?_⟩ (by show s.l.length - (i + 1) < s.l.length - i; omega))
              first
                | exact adj2_true (by omega) hp ho hadj (decide_eq_true (by omega))
                | (obtain rfl : i = 0 := by omega
                   exact adj_take_one _ _)
        · obtain rfl : i = s.l.length := by omega
          rw [List.take_length] at ha hadj
          have hr := right_once hrange ha hadj
          rw [hr]
          refine K.exit rfl ?_
          refine K.seq ?_
          refine K.region ?_
          refine KO.q rfl (q_loadN ck_76 rfl rfl (by first | (apply cells_pv; (repeat (first | exact List.Mem.head _ | apply List.Mem.tail))) | (apply cells_fv; (repeat (first | exact List.Mem.head _ | apply List.Mem.tail))))) ?_
          refine KO.loud rfl (OpL.callD rfl (h := st_once _ (by assumption) (by assumption))) ?_
          rintro _ _ ⟨_, ⟨rfl, rfl⟩, rfl⟩
          refine KO.q rfl (q_assign rfl) ?_
          refine KO.done ?_
          refine K.ret (fn := Try.f83) Try.func83 (fun a w hk hs => res1 Try.results83 hk rfl) (fun w hs => ?_)
          exact ⟨_, [], rfl, ⟨rfl, rfl⟩, hs.fitD⟩
--%call poste/posteref14.SameObject := ref_SameObject _ _ (by assumption)
set_option maxHeartbeats 800000 in
theorem ref_SameObject (a b : Oz) (hok : a.ok) : Fn Try.prog 93 [.agg a.cells.toArray, .agg b.cells.toArray].toArray (ObL a ++ ObL b) (fun v post => v = .bool (decide (a.x = b.x)) ∧ post = []) := by
  obtain ⟨⟨_, _, _, _, _, _, hs7, hs8, hs9⟩, _, _, _⟩ := hok
  refine Fn.enter (N := 45) Try.func93 rfl Try.ntmps93 (by kernel_rfl) rfl (fun ρ L => ?_)
  refine K.seq ?_
  refine K.region ?_
  refine KO.loud rfl (l_box rfl rfl) ?_
  rintro _ _ ⟨b2, rfl, rfl⟩
  refine KO.loud rfl (l_box rfl rfl) ?_
  rintro _ _ ⟨b3, rfl, rfl⟩
  refine KO.q rfl (q_assign rfl) ?_
  refine KO.done ?_
  refine K.seq ?_
  refine K.region ?_
  refine KO.q rfl (q_field fo_108_0 rfl) ?_
  refine KO.q rfl (q_load1D ck_9 rfl) ?_
  refine KO.q rfl (q_field fo_108_0 rfl) ?_
  refine KO.q rfl (q_load1D ck_9 rfl) ?_
  refine KO.q rfl (q_seq rfl rfl) ?_
  refine KO.q rfl (q_move rfl) ?_
  refine KO.dsplit 10 rfl (fun g10 => ?_) (fun g10 => ?_)
  · refine KO.q rfl (q_field fo_108_1 rfl) ?_
    refine KO.q rfl (q_load1D ck_3 rfl) ?_
    refine KO.q rfl (q_field fo_108_1 rfl) ?_
    refine KO.q rfl (q_load1D ck_3 rfl) ?_
    refine KO.q rfl (q_eq rfl rfl) ?_
    refine KO.q rfl (q_pickT rfl rfl) ?_
    refine KO.q rfl (q_move rfl) ?_
    refine KO.dsplit 17 rfl (fun g17 => ?_) (fun g17 => ?_)
    · refine KO.q rfl (q_field fo_108_2 rfl) ?_
      refine KO.q rfl (q_load1D ck_3 rfl) ?_
      refine KO.q rfl (q_field fo_108_2 rfl) ?_
      refine KO.q rfl (q_load1D ck_3 rfl) ?_
      refine KO.q rfl (q_eq rfl rfl) ?_
      refine KO.q rfl (q_pickT rfl rfl) ?_
      refine KO.q rfl (q_move rfl) ?_
      refine KO.dsplit 24 rfl (fun g24 => ?_) (fun g24 => ?_)
      · refine KO.q rfl (q_field fo_108_3 rfl) ?_
        refine KO.q rfl (q_load1D ck_106 rfl) ?_
        refine KO.q rfl (q_field fo_108_3 rfl) ?_
        refine KO.q rfl (q_load1D ck_106 rfl) ?_
        refine KO.loud rfl (OpL.callD rfl (h := ref_SameRows _ _ _ _ _ _ (by first | omega | (simp; omega)))) ?_
        rintro _ _ ⟨_, ⟨rfl, rfl⟩, rfl⟩
        refine KO.q rfl (q_pickT rfl rfl) ?_
        refine KO.q rfl (q_move rfl) ?_
        refine KO.split 31 rfl (fun g31 => ?_) (fun g31 => ?_)
        · refine KO.q rfl (q_field fo_108_4 rfl) ?_
          refine KO.q rfl (q_load1D ck_26 rfl) ?_
          refine KO.q rfl (q_field fo_108_4 rfl) ?_
          refine KO.q rfl (q_load1D ck_26 rfl) ?_
          refine KO.loud rfl (OpL.callD rfl (h := ref_SameMsgs _ _ _ _ _ _ (by first | omega | (simp; omega)))) ?_
          rintro _ _ ⟨_, ⟨rfl, rfl⟩, rfl⟩
          refine KO.q rfl (q_pickT rfl rfl) ?_
          refine KO.q rfl (q_move rfl) ?_
          refine KO.split 38 rfl (fun g38 => ?_) (fun g38 => ?_)
          · refine KO.q rfl (q_field fo_108_5 rfl) ?_
            refine KO.q rfl (q_load1D ck_26 rfl) ?_
            refine KO.q rfl (q_field fo_108_5 rfl) ?_
            refine KO.q rfl (q_load1D ck_26 rfl) ?_
            refine KO.loud rfl (OpL.callD rfl (h := ref_SameMsgs _ _ _ _ _ _ (by first | omega | (simp; omega)))) ?_
            rintro _ _ ⟨_, ⟨rfl, rfl⟩, rfl⟩
            refine KO.q rfl (q_pickT rfl rfl) ?_
            refine KO.q rfl (q_assign rfl) ?_
            refine KO.done ?_
            refine K.ret (fn := Try.f93) Try.func93 (fun a w hk hs => res1 Try.results93 hk rfl) (fun w hs => ?_)
            exact ⟨_, [], rfl, ⟨by
              refine congrArg Value.bool ?_
              clear hs
              first
                | exact decide_eq_decide.2 (by rw [ob_ext]; simp_all)
                | exact (decide_eq_false (by rw [ob_ext]; simp_all)).symm, rfl⟩, hs.fitD⟩
          · refine KO.skip rfl ?_
            refine KO.skip rfl ?_
            refine KO.skip rfl ?_
            refine KO.skip rfl ?_
            refine KO.skip rfl ?_
            refine KO.q rfl (q_pickF rfl rfl) ?_
            refine KO.q rfl (q_assign rfl) ?_
            refine KO.done ?_
            refine K.ret (fn := Try.f93) Try.func93 (fun a w hk hs => res1 Try.results93 hk rfl) (fun w hs => ?_)
            exact ⟨_, [], rfl, ⟨by
              refine congrArg Value.bool ?_
              clear hs
              first
                | exact decide_eq_decide.2 (by rw [ob_ext]; simp_all)
                | exact (decide_eq_false (by rw [ob_ext]; simp_all)).symm, rfl⟩, hs.fitD⟩
        · refine KO.skip rfl ?_
          refine KO.skip rfl ?_
          refine KO.skip rfl ?_
          refine KO.skip rfl ?_
          refine KO.skip rfl ?_
          refine KO.q rfl (q_pickF rfl rfl) ?_
          refine KO.q rfl (q_move rfl) ?_
          refine KO.skip rfl ?_
          refine KO.skip rfl ?_
          refine KO.skip rfl ?_
          refine KO.skip rfl ?_
          refine KO.skip rfl ?_
          refine KO.q rfl (q_pickF rfl rfl) ?_
          refine KO.q rfl (q_assign rfl) ?_
          refine KO.done ?_
          refine K.ret (fn := Try.f93) Try.func93 (fun a w hk hs => res1 Try.results93 hk rfl) (fun w hs => ?_)
          exact ⟨_, [], rfl, ⟨by
            refine congrArg Value.bool ?_
            clear hs
            first
              | exact decide_eq_decide.2 (by rw [ob_ext]; simp_all)
              | exact (decide_eq_false (by rw [ob_ext]; simp_all)).symm, rfl⟩, hs.fitD⟩
      · refine KO.skip rfl ?_
        refine KO.skip rfl ?_
        refine KO.skip rfl ?_
        refine KO.skip rfl ?_
        refine KO.skip rfl ?_
        refine KO.q rfl (q_pickF rfl rfl) ?_
        refine KO.q rfl (q_move rfl) ?_
        refine KO.skip rfl ?_
        refine KO.skip rfl ?_
        refine KO.skip rfl ?_
        refine KO.skip rfl ?_
        refine KO.skip rfl ?_
        refine KO.q rfl (q_pickF rfl rfl) ?_
        refine KO.q rfl (q_move rfl) ?_
        refine KO.skip rfl ?_
        refine KO.skip rfl ?_
        refine KO.skip rfl ?_
        refine KO.skip rfl ?_
        refine KO.skip rfl ?_
        refine KO.q rfl (q_pickF rfl rfl) ?_
        refine KO.q rfl (q_assign rfl) ?_
        refine KO.done ?_
        refine K.ret (fn := Try.f93) Try.func93 (fun a w hk hs => res1 Try.results93 hk rfl) (fun w hs => ?_)
        exact ⟨_, [], rfl, ⟨by
          refine congrArg Value.bool ?_
          clear hs
          first
            | exact decide_eq_decide.2 (by rw [ob_ext]; simp_all)
            | exact (decide_eq_false (by rw [ob_ext]; simp_all)).symm, rfl⟩, hs.fitD⟩
    · refine KO.skip rfl ?_
      refine KO.skip rfl ?_
      refine KO.skip rfl ?_
      refine KO.skip rfl ?_
      refine KO.skip rfl ?_
      refine KO.q rfl (q_pickF rfl rfl) ?_
      refine KO.q rfl (q_move rfl) ?_
      refine KO.skip rfl ?_
      refine KO.skip rfl ?_
      refine KO.skip rfl ?_
      refine KO.skip rfl ?_
      refine KO.skip rfl ?_
      refine KO.q rfl (q_pickF rfl rfl) ?_
      refine KO.q rfl (q_move rfl) ?_
      refine KO.skip rfl ?_
      refine KO.skip rfl ?_
      refine KO.skip rfl ?_
      refine KO.skip rfl ?_
      refine KO.skip rfl ?_
      refine KO.q rfl (q_pickF rfl rfl) ?_
      refine KO.q rfl (q_move rfl) ?_
      refine KO.skip rfl ?_
      refine KO.skip rfl ?_
      refine KO.skip rfl ?_
      refine KO.skip rfl ?_
      refine KO.skip rfl ?_
      refine KO.q rfl (q_pickF rfl rfl) ?_
      refine KO.q rfl (q_assign rfl) ?_
      refine KO.done ?_
      refine K.ret (fn := Try.f93) Try.func93 (fun a w hk hs => res1 Try.results93 hk rfl) (fun w hs => ?_)
      exact ⟨_, [], rfl, ⟨by
        refine congrArg Value.bool ?_
        clear hs
        first
          | exact decide_eq_decide.2 (by rw [ob_ext]; simp_all)
          | exact (decide_eq_false (by rw [ob_ext]; simp_all)).symm, rfl⟩, hs.fitD⟩
  · refine KO.skip rfl ?_
    refine KO.skip rfl ?_
    refine KO.skip rfl ?_
    refine KO.skip rfl ?_
    refine KO.skip rfl ?_
    refine KO.q rfl (q_pickF rfl rfl) ?_
    refine KO.q rfl (q_move rfl) ?_
    refine KO.skip rfl ?_
    refine KO.skip rfl ?_
    refine KO.skip rfl ?_
    refine KO.skip rfl ?_
    refine KO.skip rfl ?_
    refine KO.q rfl (q_pickF rfl rfl) ?_
    refine KO.q rfl (q_move rfl) ?_
    refine KO.skip rfl ?_
    refine KO.skip rfl ?_
    refine KO.skip rfl ?_
    refine KO.skip rfl ?_
    refine KO.skip rfl ?_
    refine KO.q rfl (q_pickF rfl rfl) ?_
    refine KO.q rfl (q_move rfl) ?_
    refine KO.skip rfl ?_
    refine KO.skip rfl ?_
    refine KO.skip rfl ?_
    refine KO.skip rfl ?_
    refine KO.skip rfl ?_
    refine KO.q rfl (q_pickF rfl rfl) ?_
    refine KO.q rfl (q_move rfl) ?_
    refine KO.skip rfl ?_
    refine KO.skip rfl ?_
    refine KO.skip rfl ?_
    refine KO.skip rfl ?_
    refine KO.skip rfl ?_
    refine KO.q rfl (q_pickF rfl rfl) ?_
    refine KO.q rfl (q_assign rfl) ?_
    refine KO.done ?_
    refine K.ret (fn := Try.f93) Try.func93 (fun a w hk hs => res1 Try.results93 hk rfl) (fun w hs => ?_)
    exact ⟨_, [], rfl, ⟨by
      refine congrArg Value.bool ?_
      clear hs
      first
        | exact decide_eq_decide.2 (by rw [ob_ext]; simp_all)
        | exact (decide_eq_false (by rw [ob_ext]; simp_all)).symm, rfl⟩, hs.fitD⟩
theorem map_take_eq {a b : List Oz} {i : Nat} {x y : Oz} (h1 : a[i]? = some x) (h2 : b[i]? = some y) (h : x.x = y.x) (ht : (a.take i).map (·.x) = (b.take i).map (·.x)) : (a.take (i + 1)).map (·.x) = (b.take (i + 1)).map (·.x) := by
  rw [List.take_add_one, List.take_add_one, h1, h2, List.map_append, List.map_append, ht]; simp [h]
--%call poste/posteref14.SameState := ref_SameState _ _ (by assumption)
set_option maxHeartbeats 1600000 in
theorem ref_SameState (a b : Sz) (hok : a.ok) : Fn Try.prog 60 [.agg a.cells.toArray, .agg b.cells.toArray].toArray (StL a ++ StL b) (fun v post => v = .bool (decide (a.st = b.st)) ∧ post = []) := by
  obtain ⟨hn0, hl, hlc, hall⟩ := hok
  refine Fn.enter (N := 39) Try.func60 rfl Try.ntmps60 (by kernel_rfl) rfl (fun ρ L => ?_)
  refine K.seq ?_
  refine K.region ?_
  refine KO.loud rfl (l_box rfl rfl) ?_
  rintro _ _ ⟨b2, rfl, rfl⟩
  refine KO.loud rfl (l_box rfl rfl) ?_
  rintro _ _ ⟨b3, rfl, rfl⟩
  refine KO.q rfl (q_assign rfl) ?_
  refine KO.done ?_
  refine K.seq <| K.seq ?_
  refine K.region ?_
  refine KO.q rfl (q_field fo_76_0 rfl) ?_
  refine KO.q rfl (q_load1D ck_3 rfl) ?_
  refine KO.q rfl (q_field fo_76_0 rfl) ?_
  refine KO.q rfl (q_load1D ck_3 rfl) ?_
  refine KO.q rfl (q_ne rfl rfl) ?_
  refine KO.q rfl (q_move rfl) ?_
  refine KO.dsplit 11 rfl (fun g11 => ?_) (fun g11 => ?_)
  · refine KO.skip rfl ?_
    refine KO.skip rfl ?_
    refine KO.skip rfl ?_
    refine KO.skip rfl ?_
    refine KO.skip rfl ?_
    refine KO.skip rfl ?_
    refine KO.skip rfl ?_
    refine KO.q rfl (q_pickT rfl rfl) ?_
    refine KO.done ?_
    refine K.yes rfl ?_
    refine K.seq ?_
    have hr : decide (a.st = b.st) = false := decide_eq_false (fun e => by
      have e1 := congrArg Stt.next e
      have e2 := congrArg (fun s => s.objs.length) e
      simp [Sz.st] at e1 e2
      first
        | exact g11 e1
        | (rw [e2] at g19; exact g19 rfl))
    rw [hr]
    refine K.region ?_
    refine KO.q rfl (q_assign rfl) ?_
    refine KO.done ?_
    refine K.ret (fn := Try.f60) Try.func60 (fun a w hk hs => res1 Try.results60 hk rfl) (fun w hs => ?_)
    exact ⟨_, [], rfl, ⟨rfl, rfl⟩, hs.fitD⟩
  · refine KO.q rfl (q_field fo_76_1 rfl) ?_
    refine KO.q rfl (q_load1D ck_74 rfl) ?_
    refine KO.q rfl (q_len Try.underlying74 rfl) ?_
    refine KO.q rfl (q_field fo_76_1 rfl) ?_
    refine KO.q rfl (q_load1D ck_74 rfl) ?_
    refine KO.q rfl (q_len Try.underlying74 rfl) ?_
    refine KO.q rfl (q_ne rfl rfl) ?_
    refine KO.q rfl (q_pickF rfl rfl) ?_
    refine KO.done ?_
    refine K.dcond (s := 19) rfl (fun g19 => ?_) (fun g19 => ?_)
    · refine K.seq ?_
      have hr : decide (a.st = b.st) = false := decide_eq_false (fun e => by
        have e1 := congrArg Stt.next e
        have e2 := congrArg (fun s => s.objs.length) e
        simp [Sz.st] at e1 e2
        first
          | exact g11 e1
          | (rw [e2] at g19; exact g19 rfl))
      rw [hr]
      refine K.region ?_
      refine KO.q rfl (q_assign rfl) ?_
      refine KO.done ?_
      refine K.ret (fn := Try.f60) Try.func60 (fun a w hk hs => res1 Try.results60 hk rfl) (fun w hs => ?_)
      exact ⟨_, [], rfl, ⟨rfl, rfl⟩, hs.fitD⟩
    · refine K.skip <| K.seq <| K.seq ?_
      refine K.region ?_
      refine KO.q rfl (q_assign rfl) ?_
      refine KO.done ?_
      refine K.block ?_
      refine K.rounds2 (ι := { i : Nat // i ≤ a.l.length ∧ (a.l.take i).map (·.x) = (b.l.take i).map (·.x) }) (fun x => [(5, .int .i64 x.1), (2, .pointer (some ⟨b2, 0, none⟩)), (3, .pointer (some ⟨b3, 0, none⟩))]) (fun _ => [pv b2 76 a.cells, pv b3 76 b.cells, RowF Kd.oz a.q a.l, NestF a.l, RowF Kd.oz b.q b.l, NestF b.l] ++ L) (fun x => a.l.length - x.1) ⟨0, Nat.zero_le _, rfl⟩ (by repeat (first | exact Env.sub_nil _ | refine Env.sub_cons rfl ?_)) (fun w h => h.fitD) (fun x ih => ?_)
      obtain ⟨i, hi, ht⟩ := x
      dsimp only at hi ht ⊢
      refine K.seq <| K.seq ?_
      refine K.region ?_
      refine KO.q rfl (q_move rfl) ?_
      refine KO.q rfl (q_field fo_76_1 rfl) ?_
      refine KO.q rfl (q_load1D ck_74 rfl) ?_
      refine KO.q rfl (q_len Try.underlying74 rfl) ?_
      refine KO.q rfl (q_lt rfl rfl) ?_
      refine KO.done ?_
      refine K.dcond (s := 24) rfl (fun g24 => ?_) (fun g24 => ?_)
      · obtain ⟨e1, he1⟩ : ∃ e, a.l[i]? = some e := ⟨_, List.getElem?_eq_getElem (by omega)⟩
        obtain ⟨e2, he2⟩ : ∃ e, b.l[i]? = some e := ⟨_, List.getElem?_eq_getElem (by omega)⟩
        have hoo := hall e1 (List.mem_of_getElem? he1)
        refine K.st (fun w h => nestF_at (l := a.l) (by repeat (first | exact List.Mem.head _ | apply List.Mem.tail)) (List.mem_of_getElem? he1) h) ?_
        refine K.st (fun w h => nestF_at (l := b.l) (by repeat (first | exact List.Mem.head _ | apply List.Mem.tail)) (List.mem_of_getElem? he2) h) ?_
        refine K.skip <| K.seq <| K.block <| K.seq ?_
        refine K.drawU (by repeat (first | apply SubL.pers | apply SubL.own (b := b2) | apply SubL.own (b := b3) | apply SubL.drop | exact SubL.none)) mixed ?_
        refine D.q 0 rfl (by kernel_rfl) (by kernel_rfl) (q_field fo_76_1 rfl) (fun _ h => h.subD) ?_
        refine D.q 1 rfl (by kernel_rfl) (by kernel_rfl) (q_load1D ck_74 rfl) (fun _ h => h.subD) ?_
        refine D.q 2 rfl (by kernel_rfl) (by kernel_rfl) (q_move rfl) (fun _ h => h.subD) ?_
        first | refine D.q 3 rfl (by kernel_rfl) (by kernel_rfl) (q_ix _ se_74 rfl rfl rfl isF (by repeat (first | exact List.Mem.head _ | apply List.Mem.tail)) rfl (by first | assumption | omega | exact (List.getElem?_eq_some_iff.1 (by assumption)).1 | (simp; omega))) (fun _ h => h.subD) ?_ | refine D.q 3 rfl (by kernel_rfl) (by kernel_rfl) (q_ix _ se_74 rfl rfl rfl isO (by repeat (first | exact List.Mem.head _ | apply List.Mem.tail)) rfl (by first | assumption | omega | exact (List.getElem?_eq_some_iff.1 (by assumption)).1 | (simp; omega))) (fun _ h => h.subD) ?_
        first | refine D.q 4 rfl (by kernel_rfl) (by kernel_rfl) (q_ldEN ck_108 rfl isF (by repeat (first | exact List.Mem.head _ | apply List.Mem.tail)) (by first | assumption | exact List.getElem?_eq_getElem (by first | assumption | omega | (simp; omega)))) (fun _ h => h.subD) ?_ | refine D.q 4 rfl (by kernel_rfl) (by kernel_rfl) (q_ldEN ck_108 rfl isO (by repeat (first | exact List.Mem.head _ | apply List.Mem.tail)) (by first | assumption | exact List.getElem?_eq_getElem (by first | assumption | omega | (simp; omega)))) (fun _ h => h.subD) ?_
        refine D.q 5 rfl (by kernel_rfl) (by kernel_rfl) (q_field fo_76_1 rfl) (fun _ h => h.subD) ?_
        refine D.q 6 rfl (by kernel_rfl) (by kernel_rfl) (q_load1D ck_74 rfl) (fun _ h => h.subD) ?_
        refine D.q 7 rfl (by kernel_rfl) (by kernel_rfl) (q_move rfl) (fun _ h => h.subD) ?_
        first | refine D.q 8 rfl (by kernel_rfl) (by kernel_rfl) (q_ix _ se_74 rfl rfl rfl isF (by repeat (first | exact List.Mem.head _ | apply List.Mem.tail)) rfl (by first | assumption | omega | exact (List.getElem?_eq_some_iff.1 (by assumption)).1 | (simp; omega))) (fun _ h => h.subD) ?_ | refine D.q 8 rfl (by kernel_rfl) (by kernel_rfl) (q_ix _ se_74 rfl rfl rfl isO (by repeat (first | exact List.Mem.head _ | apply List.Mem.tail)) rfl (by first | assumption | omega | exact (List.getElem?_eq_some_iff.1 (by assumption)).1 | (simp; omega))) (fun _ h => h.subD) ?_
        first | refine D.q 9 rfl (by kernel_rfl) (by kernel_rfl) (q_ldEN ck_108 rfl isF (by repeat (first | exact List.Mem.head _ | apply List.Mem.tail)) (by first | assumption | exact List.getElem?_eq_getElem (by first | assumption | omega | (simp; omega)))) (fun _ h => h.subD) ?_ | refine D.q 9 rfl (by kernel_rfl) (by kernel_rfl) (q_ldEN ck_108 rfl isO (by repeat (first | exact List.Mem.head _ | apply List.Mem.tail)) (by first | assumption | exact List.getElem?_eq_getElem (by first | assumption | omega | (simp; omega)))) (fun _ h => h.subD) ?_
        refine D.all (rs := [10]) (by kernel_rfl) rfl (DAll.cons rfl (by kernel_rfl) (OpL.callD rfl (h := ref_SameObject _ _ (by assumption))) (.inr (by rintro _ _ ⟨_, ⟨rfl, rfl⟩, rfl⟩ w h; exact h.subD)) rfl ?_ DAll.nil)
        rintro _ _ ⟨_, ⟨rfl, rfl⟩, rfl⟩
        refine D.q 11 rfl (by kernel_rfl) (by kernel_rfl) (q_not rfl) (fun _ h => h.subD) ?_
        refine D.done (by kernel_rfl) ?_
        refine K.bcond (s := 38) rfl (fun g38 => ?_) (fun g38 => ?_)
        · refine K.seq ?_
          have hr : decide (a.st = b.st) = false := decide_eq_false (fun e => by
            have e3 := congrArg (fun s => s.objs[i]?) e
            simp only [Sz.st, List.getElem?_map, he1, he2, Option.map_some] at e3
            have e4 := Option.some.inj e3
            simp [e4] at g38)
          rw [hr]
          refine K.region ?_
          refine KO.q rfl (q_assign rfl) ?_
          refine KO.done ?_
          refine K.ret (fn := Try.f60) Try.func60 (fun a w hk hs => res1 Try.results60 hk rfl) (fun w hs => ?_)
          exact ⟨_, [], rfl, ⟨rfl, rfl⟩, hs.fitD⟩
        · refine K.skip <| K.inBlock ?_
          refine K.region ?_
          refine KO.q rfl (q_move rfl) ?_
          refine KO.q rfl (q_add rfl rfl (by first | omega | (simp; omega)) (by first | omega | (simp; omega))) ?_
          refine KO.q rfl (q_assign rfl) ?_
          refine KO.done ?_
          exact K.weak (by repeat (first | exact Env.sub_nil _ | refine Env.sub_cons rfl ?_)) (fun w h => h.fitD) (ih ⟨i + 1, by omega, map_take_eq he1 he2 (by simpa using g38) ht⟩ (by show a.l.length - (i + 1) < a.l.length - i; omega))
      · have hr : decide (a.st = b.st) = true := decide_eq_true (by
          rw [stt_ext]
          refine ⟨by simpa [Sz.st] using g11, ?_⟩
          rw [List.take_of_length_le (by omega), List.take_of_length_le (by omega)] at ht
          exact ht)
        rw [hr]
        refine K.exit rfl ?_
        refine K.seq ?_
        refine K.region ?_
        refine KO.q rfl (q_assign rfl) ?_
        refine KO.done ?_
        refine K.ret (fn := Try.f60) Try.func60 (fun a w hk hs => res1 Try.results60 hk rfl) (fun w hs => ?_)
        exact ⟨_, [], rfl, ⟨rfl, rfl⟩, hs.fitD⟩
end Go.Proofs.Ytlellgnklohclaa.L
