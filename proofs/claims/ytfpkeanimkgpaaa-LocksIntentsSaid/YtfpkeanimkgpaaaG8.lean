/- Walks: a lock: who waits; asking. -/
import Derived.Test.YtfpkeanimkgpaaaG7
import Derived.Test.YtfpkeanimkgpaaaG2
namespace Go.Proofs.Ytfpkeanimkgpaaa.L
open Go Go.Proofs
attribute [local irreducible] pv fv pt fz RowF RowO rowP old pure_ elA
set_option maxRecDepth 100000
set_option linter.unusedSimpArgs false
set_option linter.unusedVariables false

def wAt (f : One → Bool) (l : List One) : Nat := (l.takeWhile f).length
theorem wAt_eq {f : One → Bool} {l : List One} {i : Nat} (ha : (l.take i).all f = true) (hi : i = l.length ∨ ∃ e, l[i]? = some e ∧ f e = false) : wAt f l = i := by
  unfold wAt
  rcases hi with hi | ⟨e, he, hf⟩
  · subst hi
    rw [List.take_length] at ha
    have := List.takeWhile_append_of_pos (p := f) (l₁ := l) (l₂ := []) (by simpa using ha)
    rw [List.append_nil, List.takeWhile_nil, List.append_nil] at this
    rw [this]
  · have hlt := (List.getElem?_eq_some_iff.1 he).1
    have hs : l = l.take i ++ e :: l.drop (i + 1) := by
      rw [List.getElem?_eq_some_iff] at he
      obtain ⟨h1, h2⟩ := he
      rw [← h2, ← List.drop_eq_getElem_cons h1, List.take_append_drop]
    rw [hs, List.takeWhile_append_of_pos (by simpa using ha), List.takeWhile_cons, if_neg (by simp [hf]), List.append_nil, List.length_take]
    omega
def Lk.waitAt (k : Lk) (who : Int) : Nat := if k.has who = true then wAt (fun y => k.has y.who) k.line else k.line.length
def Lk.wait (k : Lk) (x : One) : Lk := { k with line := k.line.take (k.waitAt x.who) ++ [x] ++ k.line.drop (k.waitAt x.who) }
theorem Lk.wait_len (k : Lk) (x : One) : (k.wait x).line.length = k.line.length + 1 := by
  have e : k.line.length = (k.line.take (k.waitAt x.who) ++ k.line.drop (k.waitAt x.who)).length := by rw [List.take_append_drop]
  show (k.line.take _ ++ [x] ++ k.line.drop _).length = _
  rw [e]
  simp only [List.length_append, List.length_singleton]
  omega
theorem Lk.waitAt_le (k : Lk) (who : Int) : k.waitAt who ≤ k.line.length := by
  unfold Lk.waitAt wAt
  split
  · exact (List.takeWhile_prefix _).length_le
  · exact Nat.le_refl _
--%call (*poste/grant.Lock).wait := lk_wait _ _ _ _ _ _ _ (by assumption) (by assumption) !! ⟨_, ⟨q#, c#, rfl, rfl⟩, rfl⟩
set_option maxHeartbeats 1600000 in
theorem lk_wait (b : Nat) (q1 : Option Addr) (c1 : Nat) (q2 : Option Addr) (c2 : Nat) (k : Lk) (x : One) (hl : k.hold.length ≤ 1000000000) (hl2 : k.line.length ≤ 1000000000) : Fn Try.prog 59 [.pointer (some ⟨b, 0, none⟩), .agg x.cells.toArray].toArray (LkL b q1 c1 q2 c2 k) (fun r post => ∃ q2' c2', r = .tuple #[] ∧ post = LkL b q1 c1 q2' c2' (k.wait x)) := by
  refine Fn.enter (N := 46) Try.func59 rfl Try.ntmps59 (by kernel_rfl) rfl (fun ρ L => ?_)
  refine K.seq ?_
  refine K.fact (fun w h => rowO_cap (e := 94) (k := Kd.one1) (p := q2) (cap := c2) (xs := k.line) (by repeat (first | exact List.Mem.head _ | apply List.Mem.tail)) w h) (fun hc2 => ?_)
  refine K.region ?_
  refine KO.loud rfl (l_box rfl rfl) ?_
  rintro _ _ ⟨b3, rfl, rfl⟩
  refine KO.done ?_
  refine K.seq ?_
  refine K.region ?_
  refine KO.q rfl (q_move rfl) ?_
  refine KO.q rfl (q_nilCheck rfl) ?_
  refine KO.q rfl (q_field fo_48_1 rfl) ?_
  refine KO.q rfl (q_load1D ck_46 rfl) ?_
  refine KO.q rfl (q_len Try.underlying46 rfl) ?_
  refine KO.q rfl (q_assign rfl) ?_
  refine KO.done ?_
  refine K.seq <| K.seq ?_
  refine K.region ?_
  refine KO.q rfl (q_move rfl) ?_
  refine KO.q rfl (q_field fo_94_0 rfl) ?_
  refine KO.q rfl (q_load1D ck_3 rfl) ?_
  refine KO.loud rfl (OpL.callD rfl (h := lk_holds _ _ _ _ _ _ _ (by assumption))) ?_
  rintro _ _ ⟨_, ⟨rfl, rfl⟩, rfl⟩
  refine KO.done ?_
  refine K.bcond (s := 13) rfl (fun g13 => ?_) (fun g13 => ?_)
  · refine K.seq ?_
    refine K.region ?_
    refine KO.q rfl (q_assign rfl) ?_
    refine KO.done ?_
    refine K.block ?_
    refine K.rloop (ι := { i : Nat // i ≤ k.line.length ∧ (k.line.take i).all (fun y => k.has y.who) = true }) (fun x => [(4, .int .i64 x.1), (0, .pointer (some ⟨b, 0, none⟩)), (3, .pointer (some ⟨b3, 0, none⟩))]) (fun x => k.line.length - x.1) ⟨0, Nat.zero_le _, rfl⟩ (by repeat (first | exact Env.sub_nil _ | refine Env.sub_cons rfl ?_)) (fun x ih => ?_)
    obtain ⟨i, hi, hz⟩ := x
    dsimp only at hi hz ⊢
    refine K.seq <| K.seq ?_
    refine K.region ?_
    refine KO.q rfl (q_move rfl) ?_
    refine KO.q rfl (q_move rfl) ?_
    refine KO.q rfl (q_nilCheck rfl) ?_
    refine KO.q rfl (q_field fo_48_1 rfl) ?_
    refine KO.q rfl (q_load1D ck_46 rfl) ?_
    refine KO.q rfl (q_len Try.underlying46 rfl) ?_
    refine KO.q rfl (q_lt rfl rfl) ?_
    refine KO.q rfl (q_move rfl) ?_
    refine KO.dsplit 21 rfl (fun g21 => ?_) (fun g21 => ?_)
    · obtain ⟨e, he⟩ : ∃ e, k.line[i]? = some e := ⟨_, List.getElem?_eq_getElem (by omega)⟩
      refine KO.q rfl (q_move rfl) ?_
      refine KO.q rfl (q_move rfl) ?_
      refine KO.q rfl (q_nilCheck rfl) ?_
      refine KO.q rfl (q_field fo_48_1 rfl) ?_
      refine KO.q rfl (q_load1D ck_46 rfl) ?_
      refine KO.q rfl (q_move rfl) ?_
      first | refine KO.q rfl (q_ix _ se_46 rfl rfl rfl isF (by repeat (first | exact List.Mem.head _ | apply List.Mem.tail)) rfl (by first | assumption | omega | exact (List.getElem?_eq_some_iff.1 (by assumption)).1 | (simp; omega))) ?_ | refine KO.q rfl (q_ix _ se_46 rfl rfl rfl isO (by repeat (first | exact List.Mem.head _ | apply List.Mem.tail)) rfl (by first | assumption | omega | exact (List.getElem?_eq_some_iff.1 (by assumption)).1 | (simp; omega))) ?_
      refine KO.q rfl (q_fieldE fo_94_0 rfl) ?_
      first | refine KO.q rfl (q_ldE ck_3 rfl isF (by repeat (first | exact List.Mem.head _ | apply List.Mem.tail)) (by first | assumption | exact List.getElem?_eq_getElem (by first | assumption | omega | (simp; omega))) rfl) ?_ | refine KO.q rfl (q_ldE ck_3 rfl isO (by repeat (first | exact List.Mem.head _ | apply List.Mem.tail)) (by first | assumption | exact List.getElem?_eq_getElem (by first | assumption | omega | (simp; omega))) rfl) ?_
      refine KO.loud rfl (OpL.callD rfl (h := lk_holds _ _ _ _ _ _ _ (by assumption))) ?_
      rintro _ _ ⟨_, ⟨rfl, rfl⟩, rfl⟩
      refine KO.q rfl (q_pickT rfl rfl) ?_
      refine KO.done ?_
      refine K.bcond (s := 32) rfl (fun g32 => ?_) (fun g32 => ?_)
      · refine K.skip <| K.block ?_
        refine K.region ?_
        refine KO.q rfl (q_move rfl) ?_
        refine KO.q rfl (q_add rfl rfl (by first | omega | (simp; omega)) (by first | omega | (simp; omega))) ?_
        refine KO.q rfl (q_assign rfl) ?_
        refine KO.done ?_
        refine K.inBlock ?_
        exact K.subE (by repeat (first | exact Env.sub_nil _ | refine Env.sub_cons rfl ?_)) (ih ⟨i + 1, by omega, by rw [all_take_succ he, hz, g32]; rfl⟩ (by show k.line.length - (i + 1) < k.line.length - i; omega))
      · have hat : k.waitAt x.who = i := by
          unfold Lk.waitAt
          rw [if_pos g13]
          exact wAt_eq hz (.inr ⟨e, he, by simpa using g32⟩)
        subst hat
        refine K.exit rfl ?_
        refine K.drawS [pv b 48 [.slice q1 k.hold.length c1, .slice q2 k.line.length c2], pv b3 94 x.cells] (fun _ h => h.subD) mixed ?_
        refine D.q 0 rfl (by kernel_rfl) (by kernel_rfl) (q_move rfl) (fun _ h => h.subD) ?_
        refine D.q 1 rfl (by kernel_rfl) (by kernel_rfl) (q_move rfl) (fun _ h => h.subD) ?_
        refine D.q 2 rfl (by kernel_rfl) (by kernel_rfl) (q_nilCheck rfl) (fun _ h => h.subD) ?_
        refine D.q 3 rfl (by kernel_rfl) (by kernel_rfl) (q_field fo_48_1 rfl) (fun _ h => h.subD) ?_
        refine D.q 4 rfl (by kernel_rfl) (by kernel_rfl) (q_load1D ck_46 rfl) (fun _ h => h.subD) ?_
        refine D.q 5 rfl (by kernel_rfl) (by kernel_rfl) (q_move rfl) (fun _ h => h.subD) ?_
        refine D.q 6 rfl (by kernel_rfl) (by kernel_rfl) (q_loadN ck_94 rfl rfl (by first | (apply cells_pv; (repeat (first | exact List.Mem.head _ | apply List.Mem.tail))) | (apply cells_fv; (repeat (first | exact List.Mem.head _ | apply List.Mem.tail))))) (fun _ h => h.subD) ?_
        refine D.all (rs := [7]) (by kernel_rfl) rfl (DAll.cons rfl (by kernel_rfl) (l_slice1 sz_46_1 rfl rfl ⟨rfl, rfl, rfl⟩) (.inr (by rintro _ _ ⟨b42, rfl, rfl⟩ w h; exact h.subD)) rfl ?_ DAll.nil)
        rintro _ _ ⟨b42, rfl, rfl⟩
        refine D.all (rs := [8]) (by kernel_rfl) rfl (DAll.cons rfl (by kernel_rfl) (OpL.callD rfl (h := ins_one q2 c2 k.line (k.waitAt x.who) b42 _ x (k.waitAt_le x.who) hc2 hl2)) (.inr (by rintro _ _ ⟨_, ⟨qn, cn, rfl, rfl⟩, rfl⟩ w h; exact h.subD)) rfl ?_ DAll.nil)
        rintro _ _ ⟨_, ⟨qn, cn, rfl, rfl⟩, rfl⟩
        refine D.all (rs := [9]) (by kernel_rfl) rfl (DAll.cons rfl (by kernel_rfl) (OpQ.loud (q_nilCheck rfl)) (.inl (by kernel_rfl)) rfl ?_ DAll.nil)
        rintro _ _ ⟨rfl, rfl⟩
        refine D.all (rs := [10]) (by kernel_rfl) rfl (DAll.cons rfl (by kernel_rfl) (OpQ.loud (q_field fo_48_1 rfl)) (.inl (by kernel_rfl)) rfl ?_ DAll.nil)
        rintro _ _ ⟨rfl, rfl⟩
        refine D.all (rs := [11]) (by kernel_rfl) rfl (DAll.consN rfl (by kernel_rfl) (l_store1 ck_46 rfl rfl rfl (by repeat (first | exact Pick.here | apply Pick.there)) (by repeat (first | exact SetAt.here | apply SetAt.there))) (.inl (by kernel_rfl)) rfl ?_ DAll.nil)
        rintro _ _ ⟨rfl, rfl⟩
        refine D.done (by kernel_rfl) ?_
        refine K.fin (fn := Try.f59) Try.func59 (fun a w hk hs => res0 Try.results59) (fun w hs => ?_)
        exact ⟨_, [pv b 48 [.slice q1 k.hold.length c1, .slice qn (k.line.length + 1) cn], RowO Kd.one1 94 q1 c1 k.hold, RowO Kd.one1 94 qn cn (k.wait x).line], rfl, ⟨qn, cn, rfl, by show _ = [pv b _ [_, .slice qn (k.wait x).line.length cn], _, _]; rw [Lk.wait_len]; rfl⟩, hs.fitD⟩
    · have hat : k.waitAt x.who = i := by
        unfold Lk.waitAt
        rw [if_pos g13]
        exact wAt_eq hz (.inl (by omega))
      subst hat
      refine KO.skip rfl ?_
      refine KO.skip rfl ?_
      refine KO.skip rfl ?_
      refine KO.skip rfl ?_
      refine KO.skip rfl ?_
      refine KO.skip rfl ?_
      refine KO.skip rfl ?_
      refine KO.skip rfl ?_
      refine KO.skip rfl ?_
      refine KO.skip rfl ?_
      refine KO.q rfl (q_pickF rfl rfl) ?_
      refine KO.done ?_
      refine K.no rfl ?_
      refine K.exit rfl ?_
      refine K.drawS [pv b 48 [.slice q1 k.hold.length c1, .slice q2 k.line.length c2], pv b3 94 x.cells] (fun _ h => h.subD) mixed ?_
      refine D.q 0 rfl (by kernel_rfl) (by kernel_rfl) (q_move rfl) (fun _ h => h.subD) ?_
      refine D.q 1 rfl (by kernel_rfl) (by kernel_rfl) (q_move rfl) (fun _ h => h.subD) ?_
      refine D.q 2 rfl (by kernel_rfl) (by kernel_rfl) (q_nilCheck rfl) (fun _ h => h.subD) ?_
      refine D.q 3 rfl (by kernel_rfl) (by kernel_rfl) (q_field fo_48_1 rfl) (fun _ h => h.subD) ?_
      refine D.q 4 rfl (by kernel_rfl) (by kernel_rfl) (q_load1D ck_46 rfl) (fun _ h => h.subD) ?_
      refine D.q 5 rfl (by kernel_rfl) (by kernel_rfl) (q_move rfl) (fun _ h => h.subD) ?_
      refine D.q 6 rfl (by kernel_rfl) (by kernel_rfl) (q_loadN ck_94 rfl rfl (by first | (apply cells_pv; (repeat (first | exact List.Mem.head _ | apply List.Mem.tail))) | (apply cells_fv; (repeat (first | exact List.Mem.head _ | apply List.Mem.tail))))) (fun _ h => h.subD) ?_
      refine D.all (rs := [7]) (by kernel_rfl) rfl (DAll.cons rfl (by kernel_rfl) (l_slice1 sz_46_1 rfl rfl ⟨rfl, rfl, rfl⟩) (.inr (by rintro _ _ ⟨b42, rfl, rfl⟩ w h; exact h.subD)) rfl ?_ DAll.nil)
      rintro _ _ ⟨b42, rfl, rfl⟩
      refine D.all (rs := [8]) (by kernel_rfl) rfl (DAll.cons rfl (by kernel_rfl) (OpL.callD rfl (h := ins_one q2 c2 k.line (k.waitAt x.who) b42 _ x (k.waitAt_le x.who) hc2 hl2)) (.inr (by rintro _ _ ⟨_, ⟨qn, cn, rfl, rfl⟩, rfl⟩ w h; exact h.subD)) rfl ?_ DAll.nil)
      rintro _ _ ⟨_, ⟨qn, cn, rfl, rfl⟩, rfl⟩
      refine D.all (rs := [9]) (by kernel_rfl) rfl (DAll.cons rfl (by kernel_rfl) (OpQ.loud (q_nilCheck rfl)) (.inl (by kernel_rfl)) rfl ?_ DAll.nil)
      rintro _ _ ⟨rfl, rfl⟩
      refine D.all (rs := [10]) (by kernel_rfl) rfl (DAll.cons rfl (by kernel_rfl) (OpQ.loud (q_field fo_48_1 rfl)) (.inl (by kernel_rfl)) rfl ?_ DAll.nil)
      rintro _ _ ⟨rfl, rfl⟩
      refine D.all (rs := [11]) (by kernel_rfl) rfl (DAll.consN rfl (by kernel_rfl) (l_store1 ck_46 rfl rfl rfl (by repeat (first | exact Pick.here | apply Pick.there)) (by repeat (first | exact SetAt.here | apply SetAt.there))) (.inl (by kernel_rfl)) rfl ?_ DAll.nil)
      rintro _ _ ⟨rfl, rfl⟩
      refine D.done (by kernel_rfl) ?_
      refine K.fin (fn := Try.f59) Try.func59 (fun a w hk hs => res0 Try.results59) (fun w hs => ?_)
      exact ⟨_, [pv b 48 [.slice q1 k.hold.length c1, .slice qn (k.line.length + 1) cn], RowO Kd.one1 94 q1 c1 k.hold, RowO Kd.one1 94 qn cn (k.wait x).line], rfl, ⟨qn, cn, rfl, by show _ = [pv b _ [_, .slice qn (k.wait x).line.length cn], _, _]; rw [Lk.wait_len]; rfl⟩, hs.fitD⟩
  · have hat : k.waitAt x.who = k.line.length := by unfold Lk.waitAt; rw [if_neg (by simp [g13])]
    refine K.subE (E' := [(0, .pointer (some ⟨b, 0, none⟩)), (3, .pointer (some ⟨b3, 0, none⟩)), (13, .bool false), (4, .int .i64 (k.waitAt x.who))]) (Env.sub_cons rfl (Env.sub_cons rfl (Env.sub_cons rfl (Env.sub_cons (by show some (Value.int .i64 _) = some (Value.int .i64 _); rw [hat]) (Env.sub_nil _))))) ?_
    refine K.skip ?_
    refine K.drawS [pv b 48 [.slice q1 k.hold.length c1, .slice q2 k.line.length c2], pv b3 94 x.cells] (fun _ h => h.subD) mixed ?_
    refine D.q 0 rfl (by kernel_rfl) (by kernel_rfl) (q_move rfl) (fun _ h => h.subD) ?_
    refine D.q 1 rfl (by kernel_rfl) (by kernel_rfl) (q_move rfl) (fun _ h => h.subD) ?_
    refine D.q 2 rfl (by kernel_rfl) (by kernel_rfl) (q_nilCheck rfl) (fun _ h => h.subD) ?_
    refine D.q 3 rfl (by kernel_rfl) (by kernel_rfl) (q_field fo_48_1 rfl) (fun _ h => h.subD) ?_
    refine D.q 4 rfl (by kernel_rfl) (by kernel_rfl) (q_load1D ck_46 rfl) (fun _ h => h.subD) ?_
    refine D.q 5 rfl (by kernel_rfl) (by kernel_rfl) (q_move rfl) (fun _ h => h.subD) ?_
    refine D.q 6 rfl (by kernel_rfl) (by kernel_rfl) (q_loadN ck_94 rfl rfl (by first | (apply cells_pv; (repeat (first | exact List.Mem.head _ | apply List.Mem.tail))) | (apply cells_fv; (repeat (first | exact List.Mem.head _ | apply List.Mem.tail))))) (fun _ h => h.subD) ?_
    refine D.all (rs := [7]) (by kernel_rfl) rfl (DAll.cons rfl (by kernel_rfl) (l_slice1 sz_46_1 rfl rfl ⟨rfl, rfl, rfl⟩) (.inr (by rintro _ _ ⟨b42, rfl, rfl⟩ w h; exact h.subD)) rfl ?_ DAll.nil)
    rintro _ _ ⟨b42, rfl, rfl⟩
    refine D.all (rs := [8]) (by kernel_rfl) rfl (DAll.cons rfl (by kernel_rfl) (OpL.callD rfl (h := ins_one q2 c2 k.line (k.waitAt x.who) b42 _ x (k.waitAt_le x.who) hc2 hl2)) (.inr (by rintro _ _ ⟨_, ⟨qn, cn, rfl, rfl⟩, rfl⟩ w h; exact h.subD)) rfl ?_ DAll.nil)
    rintro _ _ ⟨_, ⟨qn, cn, rfl, rfl⟩, rfl⟩
    refine D.all (rs := [9]) (by kernel_rfl) rfl (DAll.cons rfl (by kernel_rfl) (OpQ.loud (q_nilCheck rfl)) (.inl (by kernel_rfl)) rfl ?_ DAll.nil)
    rintro _ _ ⟨rfl, rfl⟩
    refine D.all (rs := [10]) (by kernel_rfl) rfl (DAll.cons rfl (by kernel_rfl) (OpQ.loud (q_field fo_48_1 rfl)) (.inl (by kernel_rfl)) rfl ?_ DAll.nil)
    rintro _ _ ⟨rfl, rfl⟩
    refine D.all (rs := [11]) (by kernel_rfl) rfl (DAll.consN rfl (by kernel_rfl) (l_store1 ck_46 rfl rfl rfl (by repeat (first | exact Pick.here | apply Pick.there)) (by repeat (first | exact SetAt.here | apply SetAt.there))) (.inl (by kernel_rfl)) rfl ?_ DAll.nil)
    rintro _ _ ⟨rfl, rfl⟩
    refine D.done (by kernel_rfl) ?_
    refine K.fin (fn := Try.f59) Try.func59 (fun a w hk hs => res0 Try.results59) (fun w hs => ?_)
    exact ⟨_, [pv b 48 [.slice q1 k.hold.length c1, .slice qn (k.line.length + 1) cn], RowO Kd.one1 94 q1 c1 k.hold, RowO Kd.one1 94 qn cn (k.wait x).line], rfl, ⟨qn, cn, rfl, by show _ = [pv b _ [_, .slice qn (k.wait x).line.length cn], _, _]; rw [Lk.wait_len]; rfl⟩, hs.fitD⟩
/-- Asking. -/
def Lk.ask (k : Lk) (who m : Int) : Bool × Lk :=
  if modeOf m = 0 then (true, k)
  else if 0 ≤ at1 k.line who then (false, k)
  else if 0 ≤ at1 k.hold who then
    if coversM (k.hold.getD (at1 k.hold who).toNat ⟨0, 0⟩).mode (modeOf m) = true then (true, k)
    else if k.fits ⟨who, joinM (k.hold.getD (at1 k.hold who).toNat ⟨0, 0⟩).mode (modeOf m)⟩ = true then (true, k.grant ⟨who, joinM (k.hold.getD (at1 k.hold who).toNat ⟨0, 0⟩).mode (modeOf m)⟩)
    else (false, k.wait ⟨who, joinM (k.hold.getD (at1 k.hold who).toNat ⟨0, 0⟩).mode (modeOf m)⟩)
  else if (k.fits ⟨who, modeOf m⟩ && decide (k.line.length = 0)) = true then (true, k.grant ⟨who, modeOf m⟩)
  else (false, k.wait ⟨who, modeOf m⟩)
theorem getD_at {l : List One} {i : Nat} {el d : One} (h : l[i]? = some el) : l.getD i d = el := by rw [List.getD_eq_getElem?_getD, h]; rfl
--%call (*poste/grant.Lock).Ask := lk_Ask _ _ _ _ _ _ _ _ (by assumption) (by assumption) !! ⟨_, ⟨q#, c#, p#, d#, rfl, rfl⟩, rfl⟩
set_option maxHeartbeats 1600000 in
theorem lk_Ask (b : Nat) (q1 : Option Addr) (c1 : Nat) (q2 : Option Addr) (c2 : Nat) (k : Lk) (who m : Int) (hl : k.hold.length ≤ 1000000000) (hl2 : k.line.length ≤ 1000000000) : Fn Try.prog 28 [.pointer (some ⟨b, 0, none⟩), .int .i64 who, .int .i64 m].toArray (LkL b q1 c1 q2 c2 k) (fun r post => ∃ q1' c1' q2' c2', r = .bool (k.ask who m).1 ∧ post = LkL b q1' c1' q2' c2' (k.ask who m).2) := by
  refine Fn.enter (N := 77) Try.func28 rfl Try.ntmps28 (by kernel_rfl) rfl (fun ρ L => ?_)
  refine K.seq ?_
  refine K.region ?_
  refine KO.q rfl (q_assign rfl) ?_
  refine KO.done ?_
  refine K.seq <| K.seq ?_
  refine K.region ?_
  refine KO.q rfl (q_move rfl) ?_
  refine KO.q rfl (q_pnil Try.underlying45 rfl rfl) ?_
  refine KO.done ?_
  refine K.no rfl ?_
  refine K.skip <| K.seq ?_
  refine K.region ?_
  refine KO.q rfl (q_move rfl) ?_
  refine KO.q rfl (q_move rfl) ?_
  refine KO.loud rfl (OpL.callD rfl (h := md_Of _)) ?_
  rintro _ _ ⟨_, ⟨rfl, rfl⟩, rfl⟩
  refine KO.q rfl (q_as_one (q_build st_94 rfl (by repeat (first | exact Fill.nil | (apply Fill.cons; rfl; rfl; rfl) | exact SetN.nil | apply SetN.cons | exact SetAt.here | apply SetAt.there))) (by rfl)) ?_
  refine KO.loud rfl (l_alloc zo_94) ?_
  rintro _ _ ⟨b7, rfl, rfl⟩
  refine KO.loudN rfl (l_storeAll ck_94 rfl rfl ⟨rfl, rfl⟩ (one_one _) (by repeat (first | exact Pick.here | apply Pick.there))) ?_
  rintro _ _ ⟨rfl, rfl⟩
  refine KO.done ?_
  refine K.seq <| K.seq ?_
  refine K.region ?_
  refine KO.q rfl (q_field fo_94_1 rfl) ?_
  refine KO.q rfl (q_load1D ck_3 rfl) ?_
  refine KO.q rfl (q_eq rfl rfl) ?_
  refine KO.done ?_
  refine K.dcond (s := 17) rfl (fun g17 => ?_) (fun g17 => ?_)
  · have hr : k.ask who m = (true, k) := by unfold Lk.ask; rw [if_pos g17]
    refine K.seq ?_
    refine K.region ?_
    refine KO.q rfl (q_assign rfl) ?_
    refine KO.done ?_
    refine K.ret (fn := Try.f28) Try.func28 (fun a w hk hs => res1 Try.results28 hk rfl) (fun w hs => ?_)
    exact ⟨_, LkL b q1 c1 q2 c2 k, rfl, ⟨q1, c1, q2, c2, by rw [hr], by rw [hr]⟩, hs.fitD⟩
  · refine K.skip <| K.seq <| K.seq ?_
    refine K.region ?_
    refine KO.q rfl (q_move rfl) ?_
    refine KO.q rfl (q_nilCheck rfl) ?_
    refine KO.q rfl (q_field fo_48_1 rfl) ?_
    refine KO.q rfl (q_load1D ck_46 rfl) ?_
    refine KO.q rfl (q_move rfl) ?_
    refine KO.loud rfl (OpL.callD rfl (h := gr_find (RowO Kd.one1 94 q2 c2 k.line) q2 c2 k.line who isO (by omega))) ?_
    rintro _ _ ⟨_, ⟨rfl, rfl⟩, rfl⟩
    refine KO.q rfl (q_ge rfl rfl) ?_
    refine KO.done ?_
    refine K.dcond (s := 24) rfl (fun g24 => ?_) (fun g24 => ?_)
    · have hr : k.ask who m = (false, k) := by unfold Lk.ask; rw [if_neg g17, if_pos g24]
      refine K.seq ?_
      refine K.region ?_
      refine KO.q rfl (q_assign rfl) ?_
      refine KO.done ?_
      refine K.ret (fn := Try.f28) Try.func28 (fun a w hk hs => res1 Try.results28 hk rfl) (fun w hs => ?_)
      exact ⟨_, LkL b q1 c1 q2 c2 k, rfl, ⟨q1, c1, q2, c2, by rw [hr], by rw [hr]⟩, hs.fitD⟩
    · refine K.skip <| K.seq ?_
      refine K.region ?_
      refine KO.q rfl (q_move rfl) ?_
      refine KO.q rfl (q_nilCheck rfl) ?_
      refine KO.q rfl (q_field fo_48_0 rfl) ?_
      refine KO.q rfl (q_load1D ck_46 rfl) ?_
      refine KO.q rfl (q_move rfl) ?_
      refine KO.loud rfl (OpL.callD rfl (h := gr_find (RowO Kd.one1 94 q1 c1 k.hold) q1 c1 k.hold who isO (by omega))) ?_
      rintro _ _ ⟨_, ⟨rfl, rfl⟩, rfl⟩
      refine KO.q rfl (q_assign rfl) ?_
      refine KO.done ?_
      refine K.seq <| K.seq ?_
      refine K.region ?_
      refine KO.q rfl (q_move rfl) ?_
      refine KO.q rfl (q_ge rfl rfl) ?_
      refine KO.done ?_
      refine K.dcond (s := 32) rfl (fun g32 => ?_) (fun g32 => ?_)
      · obtain ⟨i, el, he, hi, hw⟩ := at1_some g32
        have hil := (List.getElem?_eq_some_iff.1 he).1
        have hd : k.hold.getD (at1 k.hold who).toNat ⟨0, 0⟩ = el := by rw [hi, Int.toNat_natCast]; exact getD_at he
        refine K.seq <| K.seq ?_
        refine K.drawS [pv b 48 [.slice q1 k.hold.length c1, .slice q2 k.line.length c2], RowO Kd.one1 94 q1 c1 k.hold, pv b7 94 (One.cells ⟨who, modeOf m⟩)] (fun _ h => h.subD) mixed ?_
        refine D.q 0 rfl (by kernel_rfl) (by kernel_rfl) (q_move rfl) (fun _ h => h.subD) ?_
        refine D.q 1 rfl (by kernel_rfl) (by kernel_rfl) (q_nilCheck rfl) (fun _ h => h.subD) ?_
        refine D.q 2 rfl (by kernel_rfl) (by kernel_rfl) (q_field fo_48_0 rfl) (fun _ h => h.subD) ?_
        refine D.q 3 rfl (by kernel_rfl) (by kernel_rfl) (q_load1D ck_46 rfl) (fun _ h => h.subD) ?_
        refine D.q 4 rfl (by kernel_rfl) (by kernel_rfl) (q_move rfl) (fun _ h => h.subD) ?_
        refine D.q 5 rfl (by kernel_rfl) (by kernel_rfl) (q_ix i se_46 rfl rfl hi isO (by repeat (first | exact List.Mem.head _ | apply List.Mem.tail)) rfl hil) (fun _ h => h.subD) ?_
        refine D.q 6 rfl (by kernel_rfl) (by kernel_rfl) (q_fieldE fo_94_1 rfl) (fun _ h => h.subD) ?_
        first | refine D.q 7 rfl (by kernel_rfl) (by kernel_rfl) (q_ldE ck_3 rfl isF (by repeat (first | exact List.Mem.head _ | apply List.Mem.tail)) (by first | assumption | exact List.getElem?_eq_getElem (by first | assumption | omega | (simp; omega))) rfl) (fun _ h => h.subD) ?_ | refine D.q 7 rfl (by kernel_rfl) (by kernel_rfl) (q_ldE ck_3 rfl isO (by repeat (first | exact List.Mem.head _ | apply List.Mem.tail)) (by first | assumption | exact List.getElem?_eq_getElem (by first | assumption | omega | (simp; omega))) rfl) (fun _ h => h.subD) ?_
        refine D.q 8 rfl (by kernel_rfl) (by kernel_rfl) (q_field fo_94_1 rfl) (fun _ h => h.subD) ?_
        refine D.q 9 rfl (by kernel_rfl) (by kernel_rfl) (q_load1D ck_3 rfl) (fun _ h => h.subD) ?_
        refine D.all (rs := [10]) (by kernel_rfl) rfl (DAll.cons rfl (by kernel_rfl) (OpL.callD rfl (h := md_Covers _ _)) (.inr (by rintro _ _ ⟨_, ⟨rfl, rfl⟩, rfl⟩ w h; exact h.subD)) rfl ?_ DAll.nil)
        rintro _ _ ⟨_, ⟨rfl, rfl⟩, rfl⟩
        refine D.done (by kernel_rfl) ?_
        refine K.bcond (s := 43) rfl (fun g43 => ?_) (fun g43 => ?_)
        · have hr : k.ask who m = (true, k) := by unfold Lk.ask; rw [if_neg g17, if_neg g24, if_pos g32, hd, if_pos g43]
          refine K.seq ?_
          refine K.region ?_
          refine KO.q rfl (q_assign rfl) ?_
          refine KO.done ?_
          refine K.ret (fn := Try.f28) Try.func28 (fun a w hk hs => res1 Try.results28 hk rfl) (fun w hs => ?_)
          exact ⟨_, LkL b q1 c1 q2 c2 k, rfl, ⟨q1, c1, q2, c2, by rw [hr], by rw [hr]⟩, hs.fitD⟩
        · refine K.skip ?_
          refine K.drawS [pv b 48 [.slice q1 k.hold.length c1, .slice q2 k.line.length c2], RowO Kd.one1 94 q1 c1 k.hold, pv b7 94 (One.cells ⟨who, modeOf m⟩)] (fun _ h => h.subD) mixed ?_
          refine D.q 0 rfl (by kernel_rfl) (by kernel_rfl) (q_move rfl) (fun _ h => h.subD) ?_
          refine D.q 1 rfl (by kernel_rfl) (by kernel_rfl) (q_nilCheck rfl) (fun _ h => h.subD) ?_
          refine D.q 2 rfl (by kernel_rfl) (by kernel_rfl) (q_field fo_48_0 rfl) (fun _ h => h.subD) ?_
          refine D.q 3 rfl (by kernel_rfl) (by kernel_rfl) (q_load1D ck_46 rfl) (fun _ h => h.subD) ?_
          refine D.q 4 rfl (by kernel_rfl) (by kernel_rfl) (q_move rfl) (fun _ h => h.subD) ?_
          refine D.q 5 rfl (by kernel_rfl) (by kernel_rfl) (q_ix i se_46 rfl rfl hi isO (by repeat (first | exact List.Mem.head _ | apply List.Mem.tail)) rfl hil) (fun _ h => h.subD) ?_
          refine D.q 6 rfl (by kernel_rfl) (by kernel_rfl) (q_fieldE fo_94_1 rfl) (fun _ h => h.subD) ?_
          first | refine D.q 7 rfl (by kernel_rfl) (by kernel_rfl) (q_ldE ck_3 rfl isF (by repeat (first | exact List.Mem.head _ | apply List.Mem.tail)) (by first | assumption | exact List.getElem?_eq_getElem (by first | assumption | omega | (simp; omega))) rfl) (fun _ h => h.subD) ?_ | refine D.q 7 rfl (by kernel_rfl) (by kernel_rfl) (q_ldE ck_3 rfl isO (by repeat (first | exact List.Mem.head _ | apply List.Mem.tail)) (by first | assumption | exact List.getElem?_eq_getElem (by first | assumption | omega | (simp; omega))) rfl) (fun _ h => h.subD) ?_
          refine D.q 8 rfl (by kernel_rfl) (by kernel_rfl) (q_field fo_94_1 rfl) (fun _ h => h.subD) ?_
          refine D.all (rs := [9]) (by kernel_rfl) rfl (DAll.cons rfl (by kernel_rfl) (OpQ.loud (q_load1D ck_3 rfl)) (.inr (by rintro _ _ ⟨rfl, rfl⟩ w h; exact h.subD)) rfl ?_ DAll.nil)
          rintro _ _ ⟨rfl, rfl⟩
          refine D.all (rs := [10]) (by kernel_rfl) rfl (DAll.cons rfl (by kernel_rfl) (OpL.callD rfl (h := md_Join _ _)) (.inr (by rintro _ _ ⟨_, ⟨rfl, rfl⟩, rfl⟩ w h; exact h.subD)) rfl ?_ DAll.nil)
          rintro _ _ ⟨_, ⟨rfl, rfl⟩, rfl⟩
          refine D.q 11 rfl (by kernel_rfl) (by kernel_rfl) (q_field fo_94_1 rfl) (fun _ h => h.subD) ?_
          refine D.all (rs := [12]) (by kernel_rfl) rfl (DAll.consN rfl (by kernel_rfl) (l_store1 ck_3 rfl rfl rfl (by repeat (first | exact Pick.here | apply Pick.there)) (by repeat (first | exact SetAt.here | apply SetAt.there))) (.inl (by kernel_rfl)) rfl ?_ DAll.nil)
          rintro _ _ ⟨rfl, rfl⟩
          refine D.done (by kernel_rfl) ?_
          refine K.seq <| K.seq ?_
          refine K.region ?_
          refine KO.q rfl (q_move rfl) ?_
          refine KO.q rfl (q_as_one (q_loadN ck_94 rfl rfl (by first | (apply cells_pv; (repeat (first | exact List.Mem.head _ | apply List.Mem.tail))) | (apply cells_fv; (repeat (first | exact List.Mem.head _ | apply List.Mem.tail))))) (by rfl)) ?_
          refine KO.loud rfl (OpL.callD rfl (h := lk_fits _ _ _ _ _ _ _ (by assumption))) ?_
          rintro _ _ ⟨_, ⟨rfl, rfl⟩, rfl⟩
          refine KO.q rfl (q_move rfl) ?_
          refine KO.split 59 rfl (fun g59 => ?_) (fun g59 => ?_)
          · have hr : k.ask who m = (true, k.grant ⟨who, joinM el.mode (modeOf m)⟩) := by unfold Lk.ask; rw [if_neg g17, if_neg g24, if_pos g32, hd, if_neg (by simp [g43]), if_pos g59]
            refine KO.q rfl (q_move rfl) ?_
            refine KO.q rfl (q_nilCheck rfl) ?_
            refine KO.q rfl (q_field fo_48_1 rfl) ?_
            refine KO.q rfl (q_load1D ck_46 rfl) ?_
            refine KO.q rfl (q_len Try.underlying46 rfl) ?_
            refine KO.q rfl (q_eq rfl rfl) ?_
            refine KO.q rfl (q_move rfl) ?_
            refine KO.dsplit 66 rfl (fun g66 => ?_) (fun g66 => ?_)
            · refine KO.skip rfl ?_
              refine KO.skip rfl ?_
              refine KO.q rfl (q_pickT rfl rfl) ?_
              refine KO.q rfl (q_pickT rfl rfl) ?_
              refine KO.done ?_
              refine K.yes rfl ?_
              refine K.seq ?_
              refine K.region ?_
              refine KO.q rfl (q_move rfl) ?_
              refine KO.q rfl (q_as_one (q_loadN ck_94 rfl rfl (by first | (apply cells_pv; (repeat (first | exact List.Mem.head _ | apply List.Mem.tail))) | (apply cells_fv; (repeat (first | exact List.Mem.head _ | apply List.Mem.tail))))) (by rfl)) ?_
              refine KO.loud rfl (OpL.callD rfl (h := lk_grant _ _ _ _ _ _ _ (by assumption))) ?_
              rintro _ _ ⟨_, ⟨qn, cn, rfl, rfl⟩, rfl⟩
              refine KO.done ?_
              refine K.seq ?_
              refine K.region ?_
              refine KO.q rfl (q_assign rfl) ?_
              refine KO.done ?_
              refine K.ret (fn := Try.f28) Try.func28 (fun a w hk hs => res1 Try.results28 hk rfl) (fun w hs => ?_)
              rw [hr]
              exact ⟨_, LkL b qn cn q2 c2 (k.grant _), rfl, ⟨qn, cn, q2, c2, rfl, rfl⟩, hs.fitD⟩
            · refine KO.q rfl (q_move rfl) ?_
              refine KO.q rfl (q_ge rfl rfl) ?_
              refine KO.q rfl (q_pickF rfl rfl) ?_
              refine KO.q rfl (q_pickT rfl rfl) ?_
              refine KO.done ?_
              refine K.dcond (s := 70) rfl (fun g70 => ?_) (fun g70 => ?_)
              · refine K.seq ?_
                refine K.region ?_
                refine KO.q rfl (q_move rfl) ?_
                refine KO.q rfl (q_as_one (q_loadN ck_94 rfl rfl (by first | (apply cells_pv; (repeat (first | exact List.Mem.head _ | apply List.Mem.tail))) | (apply cells_fv; (repeat (first | exact List.Mem.head _ | apply List.Mem.tail))))) (by rfl)) ?_
                refine KO.loud rfl (OpL.callD rfl (h := lk_grant _ _ _ _ _ _ _ (by assumption))) ?_
                rintro _ _ ⟨_, ⟨qn, cn, rfl, rfl⟩, rfl⟩
                refine KO.done ?_
                refine K.seq ?_
                refine K.region ?_
                refine KO.q rfl (q_assign rfl) ?_
                refine KO.done ?_
                refine K.ret (fn := Try.f28) Try.func28 (fun a w hk hs => res1 Try.results28 hk rfl) (fun w hs => ?_)
                rw [hr]
                exact ⟨_, LkL b qn cn q2 c2 (k.grant _), rfl, ⟨qn, cn, q2, c2, rfl, rfl⟩, hs.fitD⟩
              · exact absurd g32 g70
          · have hr : k.ask who m = (false, k.wait ⟨who, joinM el.mode (modeOf m)⟩) := by unfold Lk.ask; rw [if_neg g17, if_neg g24, if_pos g32, hd, if_neg (by simp [g43]), if_neg (by simp [g59])]
            refine KO.skip rfl ?_
            refine KO.skip rfl ?_
            refine KO.skip rfl ?_
            refine KO.skip rfl ?_
            refine KO.skip rfl ?_
            refine KO.skip rfl ?_
            refine KO.skip rfl ?_
            refine KO.gone rfl ?_
            refine KO.gone rfl ?_
            refine KO.skip rfl ?_
            refine KO.q rfl (q_pickF rfl rfl) ?_
            refine KO.done ?_
            refine K.no rfl ?_
            refine K.skip <| K.seq ?_
            refine K.region ?_
            refine KO.q rfl (q_move rfl) ?_
            refine KO.q rfl (q_as_one (q_loadN ck_94 rfl rfl (by first | (apply cells_pv; (repeat (first | exact List.Mem.head _ | apply List.Mem.tail))) | (apply cells_fv; (repeat (first | exact List.Mem.head _ | apply List.Mem.tail))))) (by rfl)) ?_
            refine KO.loud rfl (OpL.callD rfl (h := lk_wait _ _ _ _ _ _ _ (by assumption) (by assumption))) ?_
            rintro _ _ ⟨_, ⟨qn, cn, rfl, rfl⟩, rfl⟩
            refine KO.done ?_
            refine K.seq ?_
            refine K.region ?_
            refine KO.q rfl (q_assign rfl) ?_
            refine KO.done ?_
            refine K.ret (fn := Try.f28) Try.func28 (fun a w hk hs => res1 Try.results28 hk rfl) (fun w hs => ?_)
            rw [hr]
            exact ⟨_, LkL b q1 c1 qn cn (k.wait _), rfl, ⟨q1, c1, qn, cn, rfl, rfl⟩, hs.fitD⟩
      · refine K.skip <| K.seq <| K.seq ?_
        refine K.region ?_
        refine KO.q rfl (q_move rfl) ?_
        refine KO.q rfl (q_as_one (q_loadN ck_94 rfl rfl (by first | (apply cells_pv; (repeat (first | exact List.Mem.head _ | apply List.Mem.tail))) | (apply cells_fv; (repeat (first | exact List.Mem.head _ | apply List.Mem.tail))))) (by rfl)) ?_
        refine KO.loud rfl (OpL.callD rfl (h := lk_fits _ _ _ _ _ _ _ (by assumption))) ?_
        rintro _ _ ⟨_, ⟨rfl, rfl⟩, rfl⟩
        refine KO.q rfl (q_move rfl) ?_
        refine KO.split 59 rfl (fun g59 => ?_) (fun g59 => ?_)
        · refine KO.q rfl (q_move rfl) ?_
          refine KO.q rfl (q_nilCheck rfl) ?_
          refine KO.q rfl (q_field fo_48_1 rfl) ?_
          refine KO.q rfl (q_load1D ck_46 rfl) ?_
          refine KO.q rfl (q_len Try.underlying46 rfl) ?_
          refine KO.q rfl (q_eq rfl rfl) ?_
          refine KO.q rfl (q_move rfl) ?_
          refine KO.dsplit 66 rfl (fun g66 => ?_) (fun g66 => ?_)
          · have hr : k.ask who m = (true, k.grant ⟨who, modeOf m⟩) := by unfold Lk.ask; rw [if_neg g17, if_neg g24, if_neg g32, if_pos (by rw [g59, decide_eq_true (by omega)]; rfl)]
            refine KO.skip rfl ?_
            refine KO.skip rfl ?_
            refine KO.q rfl (q_pickT rfl rfl) ?_
            refine KO.q rfl (q_pickT rfl rfl) ?_
            refine KO.done ?_
            refine K.yes rfl ?_
            refine K.seq ?_
            refine K.region ?_
            refine KO.q rfl (q_move rfl) ?_
            refine KO.q rfl (q_as_one (q_loadN ck_94 rfl rfl (by first | (apply cells_pv; (repeat (first | exact List.Mem.head _ | apply List.Mem.tail))) | (apply cells_fv; (repeat (first | exact List.Mem.head _ | apply List.Mem.tail))))) (by rfl)) ?_
            refine KO.loud rfl (OpL.callD rfl (h := lk_grant _ _ _ _ _ _ _ (by assumption))) ?_
            rintro _ _ ⟨_, ⟨qn, cn, rfl, rfl⟩, rfl⟩
            refine KO.done ?_
            refine K.seq ?_
            refine K.region ?_
            refine KO.q rfl (q_assign rfl) ?_
            refine KO.done ?_
            refine K.ret (fn := Try.f28) Try.func28 (fun a w hk hs => res1 Try.results28 hk rfl) (fun w hs => ?_)
            rw [hr]
            exact ⟨_, LkL b qn cn q2 c2 (k.grant _), rfl, ⟨qn, cn, q2, c2, rfl, rfl⟩, hs.fitD⟩
          · have hr : k.ask who m = (false, k.wait ⟨who, modeOf m⟩) := by unfold Lk.ask; rw [if_neg g17, if_neg g24, if_neg g32, if_neg (by rw [g59, decide_eq_false (by omega)]; decide)]
            refine KO.q rfl (q_move rfl) ?_
            refine KO.q rfl (q_ge rfl rfl) ?_
            refine KO.q rfl (q_pickF rfl rfl) ?_
            refine KO.q rfl (q_pickT rfl rfl) ?_
            refine KO.done ?_
            refine K.dcond (s := 70) rfl (fun g70 => ?_) (fun g70 => ?_)
            · exact absurd g70 g32
            · refine K.skip <| K.seq ?_
              refine K.region ?_
              refine KO.q rfl (q_move rfl) ?_
              refine KO.q rfl (q_as_one (q_loadN ck_94 rfl rfl (by first | (apply cells_pv; (repeat (first | exact List.Mem.head _ | apply List.Mem.tail))) | (apply cells_fv; (repeat (first | exact List.Mem.head _ | apply List.Mem.tail))))) (by rfl)) ?_
              refine KO.loud rfl (OpL.callD rfl (h := lk_wait _ _ _ _ _ _ _ (by assumption) (by assumption))) ?_
              rintro _ _ ⟨_, ⟨qn, cn, rfl, rfl⟩, rfl⟩
              refine KO.done ?_
              refine K.seq ?_
              refine K.region ?_
              refine KO.q rfl (q_assign rfl) ?_
              refine KO.done ?_
              refine K.ret (fn := Try.f28) Try.func28 (fun a w hk hs => res1 Try.results28 hk rfl) (fun w hs => ?_)
              rw [hr]
              exact ⟨_, LkL b q1 c1 qn cn (k.wait _), rfl, ⟨q1, c1, qn, cn, rfl, rfl⟩, hs.fitD⟩
        · have hr : k.ask who m = (false, k.wait ⟨who, modeOf m⟩) := by unfold Lk.ask; rw [if_neg g17, if_neg g24, if_neg g32, if_neg (by simp [g59])]
          refine KO.skip rfl ?_
          refine KO.skip rfl ?_
          refine KO.skip rfl ?_
          refine KO.skip rfl ?_
          refine KO.skip rfl ?_
          refine KO.skip rfl ?_
          refine KO.skip rfl ?_
          refine KO.gone rfl ?_
          refine KO.gone rfl ?_
          refine KO.skip rfl ?_
          refine KO.q rfl (q_pickF rfl rfl) ?_
          refine KO.done ?_
          refine K.no rfl ?_
          refine K.skip <| K.seq ?_
          refine K.region ?_
          refine KO.q rfl (q_move rfl) ?_
          refine KO.q rfl (q_as_one (q_loadN ck_94 rfl rfl (by first | (apply cells_pv; (repeat (first | exact List.Mem.head _ | apply List.Mem.tail))) | (apply cells_fv; (repeat (first | exact List.Mem.head _ | apply List.Mem.tail))))) (by rfl)) ?_
          refine KO.loud rfl (OpL.callD rfl (h := lk_wait _ _ _ _ _ _ _ (by assumption) (by assumption))) ?_
          rintro _ _ ⟨_, ⟨qn, cn, rfl, rfl⟩, rfl⟩
          refine KO.done ?_
          refine K.seq ?_
          refine K.region ?_
          refine KO.q rfl (q_assign rfl) ?_
          refine KO.done ?_
          refine K.ret (fn := Try.f28) Try.func28 (fun a w hk hs => res1 Try.results28 hk rfl) (fun w hs => ?_)
          rw [hr]
          exact ⟨_, LkL b q1 c1 qn cn (k.wait _), rfl, ⟨q1, c1, qn, cn, rfl, rfl⟩, hs.fitD⟩
end Go.Proofs.Ytfpkeanimkgpaaa.L
