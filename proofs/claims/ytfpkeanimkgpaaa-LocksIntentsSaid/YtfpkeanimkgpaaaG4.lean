/- Walks: a lock: what fits, who is let in. -/
import Derived.Test.YtfpkeanimkgpaaaG3
namespace Go.Proofs.Ytfpkeanimkgpaaa.L
open Go Go.Proofs
attribute [local irreducible] pv fv pt fz RowF RowO rowP old pure_ elA
set_option maxRecDepth 100000
set_option linter.unusedSimpArgs false
set_option linter.unusedVariables false

/-- A lock: who holds it, and who waits for it. -/
structure Lk where
  hold : List One
  line : List One
abbrev LkL (b : Nat) (q1 : Option Addr) (c1 : Nat) (q2 : Option Addr) (c2 : Nat) (k : Lk) : List HP := [pv b 48 [.slice q1 k.hold.length c1, .slice q2 k.line.length c2], RowO Kd.one1 94 q1 c1 k.hold, RowO Kd.one1 94 q2 c2 k.line]
def Lk.has (k : Lk) (who : Int) : Bool := decide (0 ≤ at1 k.hold who)
def Lk.fits (k : Lk) (x : One) : Bool := !(k.hold.any (fun h => decide (h.who ≠ x.who) && !fitsM x.mode h.mode))
--%call (*poste/grant.Lock).holds := lk_holds _ _ _ _ _ _ _ (by assumption)
theorem lk_holds (b : Nat) (q1 : Option Addr) (c1 : Nat) (q2 : Option Addr) (c2 : Nat) (k : Lk) (who : Int) (hl : k.hold.length ≤ 1000000000) : Fn Try.prog 68 [.pointer (some ⟨b, 0, none⟩), .int .i64 who].toArray (LkL b q1 c1 q2 c2 k) (fun r post => r = .bool (k.has who) ∧ post = LkL b q1 c1 q2 c2 k) := by
  refine Fn.enter (N := 12) Try.func68 rfl Try.ntmps68 (by kernel_rfl) rfl (fun ρ L => ?_)
  refine K.seq ?_
  refine K.region ?_
  refine KO.q rfl (q_assign rfl) ?_
  refine KO.done ?_
  refine K.seq ?_
  refine K.region ?_
  refine KO.q rfl (q_move rfl) ?_
  refine KO.q rfl (q_nilCheck rfl) ?_
  refine KO.q rfl (q_field fo_48_0 rfl) ?_
  refine KO.q rfl (q_load1D ck_46 rfl) ?_
  refine KO.q rfl (q_move rfl) ?_
  refine KO.loud rfl (OpL.callD rfl (h := gr_find (RowO Kd.one1 94 q1 c1 k.hold) q1 c1 k.hold who isO (by omega))) ?_
  rintro _ _ ⟨_, ⟨rfl, rfl⟩, rfl⟩
  refine KO.q rfl (q_ge rfl rfl) ?_
  refine KO.q rfl (q_assign rfl) ?_
  refine KO.done ?_
  refine K.ret (fn := Try.f68) Try.func68 (fun a w hk hs => res1 Try.results68 hk rfl) (fun w hs => ?_)
  exact ⟨_, LkL b q1 c1 q2 c2 k, rfl, ⟨rfl, rfl⟩, hs.fitD⟩
--%call (*poste/grant.Lock).fits := lk_fits _ _ _ _ _ _ _ (by assumption)
theorem lk_fits (b : Nat) (q1 : Option Addr) (c1 : Nat) (q2 : Option Addr) (c2 : Nat) (k : Lk) (x : One) (hl : k.hold.length ≤ 1000000000) : Fn Try.prog 57 [.pointer (some ⟨b, 0, none⟩), .agg x.cells.toArray].toArray (LkL b q1 c1 q2 c2 k) (fun r post => r = .bool (k.fits x) ∧ post = LkL b q1 c1 q2 c2 k) := by
  refine Fn.enter (N := 12) Try.func57 rfl Try.ntmps57 (by kernel_rfl) rfl (fun ρ L => ?_)
  refine K.seq ?_
  refine K.region ?_
  refine KO.loud rfl (l_box rfl rfl) ?_
  rintro _ _ ⟨b3, rfl, rfl⟩
  refine KO.q rfl (q_assign rfl) ?_
  refine KO.done ?_
  refine K.seq ?_
  refine K.region ?_
  refine KO.q rfl (q_move rfl) ?_
  refine KO.q rfl (q_nilCheck rfl) ?_
  refine KO.q rfl (q_field fo_48_0 rfl) ?_
  refine KO.q rfl (q_load1D ck_46 rfl) ?_
  refine KO.q rfl (q_func rfl rfl) ?_
  refine KO.loud rfl (OpL.callD rfl (h := cof_one (RowO Kd.one1 94 q1 c1 k.hold) (pv b3 94 x.cells) q1 c1 k.hold isO 93 [.pointer (some ⟨b3, 0, none⟩)] (fun h => decide (h.who ≠ x.who) && !fitsM x.mode h.mode) (by omega) (fun h _ => gr_fits1 b3 x h))) ?_
  rintro _ _ ⟨_, ⟨rfl, rfl⟩, rfl⟩
  refine KO.q rfl (q_not rfl) ?_
  refine KO.q rfl (q_assign rfl) ?_
  refine KO.done ?_
  refine K.ret (fn := Try.f57) Try.func57 (fun a w hk hs => res1 Try.results57 hk rfl) (fun w hs => ?_)
  exact ⟨_, LkL b q1 c1 q2 c2 k, rfl, ⟨rfl, rfl⟩, hs.fitD⟩
theorem at1_some {l : List One} {who : Int} (h : 0 ≤ at1 l who) : ∃ (i : Nat) (el : One), l[i]? = some el ∧ at1 l who = (i : Int) ∧ el.who = who := by
  unfold at1 idxP at h ⊢
  cases hf : l.findIdx? (fun x => decide (x.who = who)) with
  | none => rw [hf] at h; exact absurd h (by decide)
  | some i =>
    rw [List.findIdx?_eq_some_iff_getElem] at hf
    obtain ⟨hi, h1, _⟩ := hf
    exact ⟨i, l[i], List.getElem?_eq_getElem hi, rfl, of_decide_eq_true h1⟩
def Lk.grant (k : Lk) (x : One) : Lk := if 0 ≤ at1 k.hold x.who then { k with hold := k.hold.set (at1 k.hold x.who).toNat x } else { k with hold := k.hold ++ [x] }
--%call (*poste/grant.Lock).grant := lk_grant _ _ _ _ _ _ _ (by assumption) !! ⟨_, ⟨q#, c#, rfl, rfl⟩, rfl⟩
set_option maxHeartbeats 800000 in
theorem lk_grant (b : Nat) (q1 : Option Addr) (c1 : Nat) (q2 : Option Addr) (c2 : Nat) (k : Lk) (x : One) (hl : k.hold.length ≤ 1000000000) : Fn Try.prog 58 [.pointer (some ⟨b, 0, none⟩), .agg x.cells.toArray].toArray (LkL b q1 c1 q2 c2 k) (fun r post => ∃ q1' c1', r = .tuple #[] ∧ post = LkL b q1' c1' q2 c2 (k.grant x)) := by
  refine Fn.enter (N := 33) Try.func58 rfl Try.ntmps58 (by kernel_rfl) rfl (fun ρ L => ?_)
  refine K.seq ?_
  refine K.region ?_
  refine KO.loud rfl (l_box rfl rfl) ?_
  rintro _ _ ⟨b3, rfl, rfl⟩
  refine KO.done ?_
  refine K.seq <| K.seq ?_
  refine K.drawS [pv b 48 [.slice q1 k.hold.length c1, .slice q2 k.line.length c2], pv b3 94 x.cells] (fun _ h => h.subD) mixed ?_
  refine D.q 0 rfl (by kernel_rfl) (by kernel_rfl) (q_move rfl) (fun _ h => h.subD) ?_
  refine D.q 1 rfl (by kernel_rfl) (by kernel_rfl) (q_nilCheck rfl) (fun _ h => h.subD) ?_
  refine D.q 2 rfl (by kernel_rfl) (by kernel_rfl) (q_field fo_48_0 rfl) (fun _ h => h.subD) ?_
  refine D.q 3 rfl (by kernel_rfl) (by kernel_rfl) (q_load1D ck_46 rfl) (fun _ h => h.subD) ?_
  refine D.q 4 rfl (by kernel_rfl) (by kernel_rfl) (q_field fo_94_0 rfl) (fun _ h => h.subD) ?_
  refine D.q 5 rfl (by kernel_rfl) (by kernel_rfl) (q_load1D ck_3 rfl) (fun _ h => h.subD) ?_
  refine D.all (rs := [6]) (by kernel_rfl) rfl (DAll.cons rfl (by kernel_rfl) (OpL.callD rfl (h := gr_find (RowO Kd.one1 94 q1 c1 k.hold) q1 c1 k.hold x.who isO (by omega))) (.inr (by rintro _ _ ⟨_, ⟨rfl, rfl⟩, rfl⟩ w h; exact h.subD)) rfl ?_ DAll.nil)
  rintro _ _ ⟨_, ⟨rfl, rfl⟩, rfl⟩
  refine D.q 7 rfl (by kernel_rfl) (by kernel_rfl) (q_assign rfl) (fun _ h => h.subD) ?_
  refine D.done (by kernel_rfl) ?_
  refine K.seq ?_
  refine K.region ?_
  refine KO.q rfl (q_move rfl) ?_
  refine KO.q rfl (q_ge rfl rfl) ?_
  refine KO.done ?_
  refine K.dcond (s := 13) rfl (fun g13 => ?_) (fun g13 => ?_)
  · obtain ⟨i, el, he, hi, hw⟩ := at1_some g13
    have hil := (List.getElem?_eq_some_iff.1 he).1
    have hr : k.grant x = ⟨k.hold.set i x, k.line⟩ := by unfold Lk.grant; rw [if_pos g13, hi, Int.toNat_natCast]
    refine K.seq ?_
    refine K.drawS [pv b 48 [.slice q1 k.hold.length c1, .slice q2 k.line.length c2], pv b3 94 x.cells] (fun _ h => h.subD) mixed ?_
    refine D.q 0 rfl (by kernel_rfl) (by kernel_rfl) (q_move rfl) (fun _ h => h.subD) ?_
    refine D.q 1 rfl (by kernel_rfl) (by kernel_rfl) (q_nilCheck rfl) (fun _ h => h.subD) ?_
    refine D.q 2 rfl (by kernel_rfl) (by kernel_rfl) (q_field fo_48_0 rfl) (fun _ h => h.subD) ?_
    refine D.q 3 rfl (by kernel_rfl) (by kernel_rfl) (q_load1D ck_46 rfl) (fun _ h => h.subD) ?_
    refine D.q 4 rfl (by kernel_rfl) (by kernel_rfl) (q_move rfl) (fun _ h => h.subD) ?_
    refine D.q 5 rfl (by kernel_rfl) (by kernel_rfl) (q_field fo_94_1 rfl) (fun _ h => h.subD) ?_
    refine D.q 6 rfl (by kernel_rfl) (by kernel_rfl) (q_load1D ck_3 rfl) (fun _ h => h.subD) ?_
    refine D.all (rs := [7]) (by kernel_rfl) rfl (DAll.cons rfl (by kernel_rfl) (OpQ.loud (q_ix i se_46 rfl rfl hi isO (by repeat (first | exact List.Mem.head _ | apply List.Mem.tail)) rfl hil)) (.inl (by kernel_rfl)) rfl ?_ DAll.nil)
    rintro _ _ ⟨rfl, rfl⟩
    refine D.all (rs := [8]) (by kernel_rfl) rfl (DAll.cons rfl (by kernel_rfl) (OpQ.loud (q_fieldE fo_94_1 rfl)) (.inl (by kernel_rfl)) rfl ?_ DAll.nil)
    rintro _ _ ⟨rfl, rfl⟩
    refine D.all (rs := [9]) (by kernel_rfl) rfl (DAll.consN rfl (by kernel_rfl) (l_storeE (el := el) x ck_3 rfl rfl rfl (by repeat (first | exact Pick.here | apply Pick.there)) he (by decide) (by show [Value.int .i64 el.who, Value.int .i64 x.mode] = [Value.int .i64 x.who, Value.int .i64 x.mode]; rw [hw])) (.inl (by kernel_rfl)) rfl ?_ DAll.nil)
    rintro _ _ ⟨rfl, rfl⟩
    refine D.done (by kernel_rfl) ?_
    refine K.ret (fn := Try.f58) Try.func58 (fun a w hk hs => res0 Try.results58) (fun w hs => ?_)
    first
      | exact ⟨_, LkL b px capx q2 c2 ⟨k.hold ++ [x], k.line⟩, rfl, ⟨px, capx, rfl, by rw [hr]⟩, hs.fitD⟩
      | exact ⟨_, [pv b 48 [.slice q1 k.hold.length c1, .slice q2 k.line.length c2], RowO Kd.one1 94 q1 c1 (k.hold.set i x), RowO Kd.one1 94 q2 c2 k.line], rfl, ⟨q1, c1, rfl, by rw [hr]; show _ = [pv b _ [.slice q1 (k.hold.set i x).length c1, _], _, _]; rw [List.length_set]⟩, hs.fitD⟩
  · have hr : k.grant x = ⟨k.hold ++ [x], k.line⟩ := by unfold Lk.grant; rw [if_neg g13]
    refine K.skip ?_
    refine K.drawS [pv b 48 [.slice q1 k.hold.length c1, .slice q2 k.line.length c2], pv b3 94 x.cells] (fun _ h => h.subD) mixed ?_
    refine D.q 0 rfl (by kernel_rfl) (by kernel_rfl) (q_move rfl) (fun _ h => h.subD) ?_
    refine D.q 1 rfl (by kernel_rfl) (by kernel_rfl) (q_move rfl) (fun _ h => h.subD) ?_
    refine D.q 2 rfl (by kernel_rfl) (by kernel_rfl) (q_nilCheck rfl) (fun _ h => h.subD) ?_
    refine D.q 3 rfl (by kernel_rfl) (by kernel_rfl) (q_field fo_48_0 rfl) (fun _ h => h.subD) ?_
    refine D.q 4 rfl (by kernel_rfl) (by kernel_rfl) (q_load1D ck_46 rfl) (fun _ h => h.subD) ?_
    refine D.q 5 rfl (by kernel_rfl) (by kernel_rfl) (q_loadN ck_94 rfl rfl (by first | (apply cells_pv; (repeat (first | exact List.Mem.head _ | apply List.Mem.tail))) | (apply cells_fv; (repeat (first | exact List.Mem.head _ | apply List.Mem.tail))))) (fun _ h => h.subD) ?_
    refine D.all (rs := [6]) (by kernel_rfl) rfl (DAll.cons rfl (by kernel_rfl) (l_slice1 sz_46_1 rfl rfl ⟨rfl, rfl, rfl⟩) (.inr (by rintro _ _ ⟨b29, rfl, rfl⟩ w h; exact h.subD)) rfl ?_ DAll.nil)
    rintro _ _ ⟨b29, rfl, rfl⟩
    refine D.all (rs := [7]) (by kernel_rfl) rfl (DAll.cons rfl (by kernel_rfl) (l_append Kd.one1 se_46 Try.underlying46 ⟨_, ze_94, rfl⟩ (by decide) rfl rfl (by repeat (first | exact Pick.here | apply Pick.there)) isP (by repeat (first | exact List.Mem.head _ | apply List.Mem.tail)) rfl rfl (by first | omega | (simp; omega) | (simp; done))) (.inr (by rintro _ _ ⟨px, capx, rfl, rfl⟩ w h; exact h.subD)) rfl ?_ DAll.nil)
    rintro _ _ ⟨px, capx, rfl, rfl⟩
    refine D.all (rs := [8]) (by kernel_rfl) rfl (DAll.cons rfl (by kernel_rfl) (OpQ.loud (q_nilCheck rfl)) (.inl (by kernel_rfl)) rfl ?_ DAll.nil)
    rintro _ _ ⟨rfl, rfl⟩
    refine D.all (rs := [9]) (by kernel_rfl) rfl (DAll.cons rfl (by kernel_rfl) (OpQ.loud (q_field fo_48_0 rfl)) (.inl (by kernel_rfl)) rfl ?_ DAll.nil)
    rintro _ _ ⟨rfl, rfl⟩
    refine D.all (rs := [10]) (by kernel_rfl) rfl (DAll.consN rfl (by kernel_rfl) (l_store1 ck_46 rfl rfl rfl (by repeat (first | exact Pick.here | apply Pick.there)) (by repeat (first | exact SetAt.here | apply SetAt.there))) (.inl (by kernel_rfl)) rfl ?_ DAll.nil)
    rintro _ _ ⟨rfl, rfl⟩
    refine D.done (by kernel_rfl) ?_
    refine K.fin (fn := Try.f58) Try.func58 (fun a w hk hs => res0 Try.results58) (fun w hs => ?_)
    first
      | exact ⟨_, LkL b px capx q2 c2 ⟨k.hold ++ [x], k.line⟩, rfl, ⟨px, capx, rfl, by rw [hr]⟩, hs.fitD⟩
      | exact ⟨_, [pv b 48 [.slice q1 k.hold.length c1, .slice q2 k.line.length c2], RowO Kd.one1 94 q1 c1 (k.hold.set i x), RowO Kd.one1 94 q2 c2 k.line], rfl, ⟨q1, c1, rfl, by rw [hr]; show _ = [pv b _ [.slice q1 (k.hold.set i x).length c1, _], _, _]; rw [List.length_set]⟩, hs.fitD⟩
end Go.Proofs.Ytfpkeanimkgpaaa.L
