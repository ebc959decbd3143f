/- Walks: a lock: what fits, who is let in. Walks: the library's Delete on a lock's lists. Walks: the library's DeleteFunc on a lock's lists. -/
import Derived.Test.YtcpkcjabmookmaaGreatGA
import Derived.Test.YtcpkcjabmookmaaGreatLG
/-! Walks: a lock: what fits, who is let in. -/
namespace Go.Proofs.YtcpkcjabmookmaaGreat.L
open Go Go.Proofs
attribute [local irreducible] pv fv pt fz RowF RowO rowP old pure_ elA
set_option maxRecDepth 100000
set_option linter.unusedSimpArgs false
set_option linter.unusedVariables false

/-- A lock: who holds it, and who waits for it. -/
structure Lk where
  hold : List One
  line : List One
abbrev LkL (b : Nat) (q1 : Option Addr) (c1 : Nat) (q2 : Option Addr) (c2 : Nat) (k : Lk) : List HP := [pv b 68 [.slice q1 k.hold.length c1, .slice q2 k.line.length c2], RowO Kd.one1 100 q1 c1 k.hold, RowO Kd.one1 100 q2 c2 k.line]
def Lk.has (k : Lk) (who : Int) : Bool := decide (0 ≤ at1 k.hold who)
def Lk.fits (k : Lk) (x : One) : Bool := !(k.hold.any (fun h => decide (h.who ≠ x.who) && !fitsM x.mode h.mode))
--%call (*poste/grant.Lock).holds := lk_holds _ _ _ _ _ _ _ (by assumption)
theorem lk_holds (b : Nat) (q1 : Option Addr) (c1 : Nat) (q2 : Option Addr) (c2 : Nat) (k : Lk) (who : Int) (hl : k.hold.length ≤ 1000000000) : Fn Tryz.prog 70 [.pointer (some ⟨b, 0, none⟩), .int .i64 who].toArray (LkL b q1 c1 q2 c2 k) (fun r post => r = .bool (k.has who) ∧ post = LkL b q1 c1 q2 c2 k) := by
  refine Fn.enter (N := 12) Tryz.func70 rfl Tryz.ntmps70 (by kernel_rfl) rfl (fun ρ L => ?_)
  refine K.seq ?_
  refine K.region ?_
  refine KO.q rfl (q_assign rfl) ?_
  refine KO.done ?_
  refine K.seq ?_
  refine K.region ?_
  refine KO.q rfl (q_move rfl) ?_
  refine KO.q rfl (q_nilCheck rfl) ?_
  refine KO.q rfl (q_field fo_68_0 rfl) ?_
  refine KO.q rfl (q_load1D ck_66 rfl) ?_
  refine KO.q rfl (q_move rfl) ?_
  refine KO.loud rfl (OpL.callD rfl (h := gr_find (RowO Kd.one1 100 q1 c1 k.hold) q1 c1 k.hold who isO (by omega))) ?_
  rintro _ _ ⟨_, ⟨rfl, rfl⟩, rfl⟩
  refine KO.q rfl (q_ge rfl rfl) ?_
  refine KO.q rfl (q_assign rfl) ?_
  refine KO.done ?_
  refine K.ret (fn := Tryz.f70) Tryz.func70 (fun a w hk hs => res1 Tryz.results70 hk rfl) (fun w hs => ?_)
  exact ⟨_, LkL b q1 c1 q2 c2 k, rfl, ⟨rfl, rfl⟩, hs.fitD⟩
--%call (*poste/grant.Lock).fits := lk_fits _ _ _ _ _ _ _ (by assumption)
theorem lk_fits (b : Nat) (q1 : Option Addr) (c1 : Nat) (q2 : Option Addr) (c2 : Nat) (k : Lk) (x : One) (hl : k.hold.length ≤ 1000000000) : Fn Tryz.prog 59 [.pointer (some ⟨b, 0, none⟩), .agg x.cells.toArray].toArray (LkL b q1 c1 q2 c2 k) (fun r post => r = .bool (k.fits x) ∧ post = LkL b q1 c1 q2 c2 k) := by
  refine Fn.enter (N := 12) Tryz.func59 rfl Tryz.ntmps59 (by kernel_rfl) rfl (fun ρ L => ?_)
  refine K.seq ?_
  refine K.region ?_
  refine KO.loud rfl (l_box rfl rfl) ?_
  rintro _ _ ⟨b3, rfl, rfl⟩
  refine KO.q rfl (q_assign rfl) ?_
  refine KO.done ?_
  refine K.seq ?_
  refine K.region ?_
  refine KO.q rfl (q_move rfl) ?_
  refine KO.q rfl (q_nilCheck rfl) ?_
  refine KO.q rfl (q_field fo_68_0 rfl) ?_
  refine KO.q rfl (q_load1D ck_66 rfl) ?_
  refine KO.q rfl (q_func rfl rfl) ?_
  refine KO.loud rfl (OpL.callD rfl (h := cof_one (RowO Kd.one1 100 q1 c1 k.hold) (pv b3 100 x.cells) q1 c1 k.hold isO 86 [.pointer (some ⟨b3, 0, none⟩)] (fun h => decide (h.who ≠ x.who) && !fitsM x.mode h.mode) (by omega) (fun h _ => gr_fits1 b3 x h))) ?_
  rintro _ _ ⟨_, ⟨rfl, rfl⟩, rfl⟩
  refine KO.q rfl (q_not rfl) ?_
  refine KO.q rfl (q_assign rfl) ?_
  refine KO.done ?_
  refine K.ret (fn := Tryz.f59) Tryz.func59 (fun a w hk hs => res1 Tryz.results59 hk rfl) (fun w hs => ?_)
  exact ⟨_, LkL b q1 c1 q2 c2 k, rfl, ⟨rfl, rfl⟩, hs.fitD⟩
theorem at1_some {l : List One} {who : Int} (h : 0 ≤ at1 l who) : ∃ (i : Nat) (el : One), l[i]? = some el ∧ at1 l who = (i : Int) ∧ el.who = who := by
  unfold at1 idxP at h ⊢
  cases hf : l.findIdx? (fun x => decide (x.who = who)) with
  | none => rw [hf] at h; exact absurd h (by decide)
  | some i =>
    rw [List.findIdx?_eq_some_iff_getElem] at hf
    obtain ⟨hi, h1, _⟩ := hf
    exact ⟨i, l[i], List.getElem?_eq_getElem hi, rfl, of_decide_eq_true h1⟩
def Lk.grant (k : Lk) (x : One) : Lk := if 0 ≤ at1 k.hold x.who then { k with hold := k.hold.set (at1 k.hold x.who).toNat x } else { k with hold := k.hold ++ [x] }
--%call (*poste/grant.Lock).grant := lk_grant _ _ _ _ _ _ _ (by assumption) !! ⟨_, ⟨q#, c#, rfl, rfl⟩, rfl⟩
set_option maxHeartbeats 800000 in
theorem lk_grant (b : Nat) (q1 : Option Addr) (c1 : Nat) (q2 : Option Addr) (c2 : Nat) (k : Lk) (x : One) (hl : k.hold.length ≤ 1000000000) : Fn Tryz.prog 60 [.pointer (some ⟨b, 0, none⟩), .agg x.cells.toArray].toArray (LkL b q1 c1 q2 c2 k) (fun r post => ∃ q1' c1', r = .tuple #[] ∧ post = LkL b q1' c1' q2 c2 (k.grant x)) := by
  refine Fn.enter (N := 33) Tryz.func60 rfl Tryz.ntmps60 (by kernel_rfl) rfl (fun ρ L => ?_)
  refine K.seq ?_
  refine K.region ?_
  refine KO.loud rfl (l_box rfl rfl) ?_
  rintro _ _ ⟨b3, rfl, rfl⟩
  refine KO.done ?_
  refine K.seq <| K.seq ?_
  refine K.drawS [pv b 68 [.slice q1 k.hold.length c1, .slice q2 k.line.length c2], pv b3 100 x.cells] (fun _ h => h.subD) mixed ?_
  refine D.q 0 rfl (by kernel_rfl) (by kernel_rfl) (q_move rfl) (fun _ h => h.subD) ?_
  refine D.q 1 rfl (by kernel_rfl) (by kernel_rfl) (q_nilCheck rfl) (fun _ h => h.subD) ?_
  refine D.q 2 rfl (by kernel_rfl) (by kernel_rfl) (q_field fo_68_0 rfl) (fun _ h => h.subD) ?_
  refine D.q 3 rfl (by kernel_rfl) (by kernel_rfl) (q_load1D ck_66 rfl) (fun _ h => h.subD) ?_
  refine D.q 4 rfl (by kernel_rfl) (by kernel_rfl) (q_field fo_100_0 rfl) (fun _ h => h.subD) ?_
  refine D.q 5 rfl (by kernel_rfl) (by kernel_rfl) (q_load1D ck_3 rfl) (fun _ h => h.subD) ?_
  refine D.all (rs := [6]) (by kernel_rfl) rfl (DAll.cons rfl (by kernel_rfl) (OpL.callD rfl (h := gr_find (RowO Kd.one1 100 q1 c1 k.hold) q1 c1 k.hold x.who isO (by omega))) (.inr (by rintro _ _ ⟨_, ⟨rfl, rfl⟩, rfl⟩ w h; exact h.subD)) rfl ?_ DAll.nil)
  rintro _ _ ⟨_, ⟨rfl, rfl⟩, rfl⟩
  refine D.q 7 rfl (by kernel_rfl) (by kernel_rfl) (q_assign rfl) (fun _ h => h.subD) ?_
  refine D.done (by kernel_rfl) ?_
  refine K.seq ?_
  refine K.region ?_
  refine KO.q rfl (q_move rfl) ?_
  refine KO.q rfl (q_ge rfl rfl) ?_
  refine KO.done ?_
  refine K.dcond (s := 13) rfl (fun g13 => ?_) (fun g13 => ?_)
  · obtain ⟨i, el, he, hi, hw⟩ := at1_some g13
    have hil := (List.getElem?_eq_some_iff.1 he).1
    have hr : k.grant x = ⟨k.hold.set i x, k.line⟩ := by unfold Lk.grant; rw [if_pos g13, hi, Int.toNat_natCast]
    refine K.seq ?_
    refine K.drawS [pv b 68 [.slice q1 k.hold.length c1, .slice q2 k.line.length c2], pv b3 100 x.cells] (fun _ h => h.subD) mixed ?_
    refine D.q 0 rfl (by kernel_rfl) (by kernel_rfl) (q_move rfl) (fun _ h => h.subD) ?_
    refine D.q 1 rfl (by kernel_rfl) (by kernel_rfl) (q_nilCheck rfl) (fun _ h => h.subD) ?_
    refine D.q 2 rfl (by kernel_rfl) (by kernel_rfl) (q_field fo_68_0 rfl) (fun _ h => h.subD) ?_
    refine D.q 3 rfl (by kernel_rfl) (by kernel_rfl) (q_load1D ck_66 rfl) (fun _ h => h.subD) ?_
    refine D.q 4 rfl (by kernel_rfl) (by kernel_rfl) (q_move rfl) (fun _ h => h.subD) ?_
    refine D.q 5 rfl (by kernel_rfl) (by kernel_rfl) (q_field fo_100_1 rfl) (fun _ h => h.subD) ?_
    refine D.q 6 rfl (by kernel_rfl) (by kernel_rfl) (q_load1D ck_3 rfl) (fun _ h => h.subD) ?_
    refine D.all (rs := [7]) (by kernel_rfl) rfl (DAll.cons rfl (by kernel_rfl) (OpQ.loud (q_ix i se_66 rfl rfl hi isO (by repeat (first | exact List.Mem.head _ | apply List.Mem.tail)) rfl hil)) (.inl (by kernel_rfl)) rfl ?_ DAll.nil)
    rintro _ _ ⟨rfl, rfl⟩
    refine D.all (rs := [8]) (by kernel_rfl) rfl (DAll.cons rfl (by kernel_rfl) (OpQ.loud (q_fieldE fo_100_1 rfl)) (.inl (by kernel_rfl)) rfl ?_ DAll.nil)
    rintro _ _ ⟨rfl, rfl⟩
    refine D.all (rs := [9]) (by kernel_rfl) rfl (DAll.consN rfl (by kernel_rfl) (l_storeE (el := el) x ck_3 rfl rfl rfl (by repeat (first | exact Pick.here | apply Pick.there)) he (by decide) (by show [Value.int .i64 el.who, Value.int .i64 x.mode] = [Value.int .i64 x.who, Value.int .i64 x.mode]; rw [hw])) (.inl (by kernel_rfl)) rfl ?_ DAll.nil)
    rintro _ _ ⟨rfl, rfl⟩
    refine D.done (by kernel_rfl) ?_
    refine K.ret (fn := Tryz.f60) Tryz.func60 (fun a w hk hs => res0 Tryz.results60) (fun w hs => ?_)
    first
      | exact ⟨_, LkL b px capx q2 c2 ⟨k.hold ++ [x], k.line⟩, rfl, ⟨px, capx, rfl, by rw [hr]⟩, hs.fitD⟩
      | exact ⟨_, [pv b 68 [.slice q1 k.hold.length c1, .slice q2 k.line.length c2], RowO Kd.one1 100 q1 c1 (k.hold.set i x), RowO Kd.one1 100 q2 c2 k.line], rfl, ⟨q1, c1, rfl, by rw [hr]; show _ = [pv b _ [.slice q1 (k.hold.set i x).length c1, _], _, _]; rw [List.length_set]⟩, hs.fitD⟩
  · have hr : k.grant x = ⟨k.hold ++ [x], k.line⟩ := by unfold Lk.grant; rw [if_neg g13]
    refine K.skip ?_
    refine K.drawS [pv b 68 [.slice q1 k.hold.length c1, .slice q2 k.line.length c2], pv b3 100 x.cells] (fun _ h => h.subD) mixed ?_
    refine D.q 0 rfl (by kernel_rfl) (by kernel_rfl) (q_move rfl) (fun _ h => h.subD) ?_
    refine D.q 1 rfl (by kernel_rfl) (by kernel_rfl) (q_move rfl) (fun _ h => h.subD) ?_
    refine D.q 2 rfl (by kernel_rfl) (by kernel_rfl) (q_nilCheck rfl) (fun _ h => h.subD) ?_
    refine D.q 3 rfl (by kernel_rfl) (by kernel_rfl) (q_field fo_68_0 rfl) (fun _ h => h.subD) ?_
    refine D.q 4 rfl (by kernel_rfl) (by kernel_rfl) (q_load1D ck_66 rfl) (fun _ h => h.subD) ?_
    refine D.q 5 rfl (by kernel_rfl) (by kernel_rfl) (q_loadN ck_100 rfl rfl (by first | (apply cells_pv; (repeat (first | exact List.Mem.head _ | apply List.Mem.tail))) | (apply cells_fv; (repeat (first | exact List.Mem.head _ | apply List.Mem.tail))))) (fun _ h => h.subD) ?_
    refine D.all (rs := [6]) (by kernel_rfl) rfl (DAll.cons rfl (by kernel_rfl) (l_slice1 sz_66_1 rfl rfl ⟨rfl, rfl, rfl⟩) (.inr (by rintro _ _ ⟨b29, rfl, rfl⟩ w h; exact h.subD)) rfl ?_ DAll.nil)
    rintro _ _ ⟨b29, rfl, rfl⟩
    refine D.all (rs := [7]) (by kernel_rfl) rfl (DAll.cons rfl (by kernel_rfl) (l_append Kd.one1 se_66 Tryz.underlying66 ⟨_, ze_100, rfl⟩ (by decide) rfl rfl (by repeat (first | exact Pick.here | apply Pick.there)) isP (by repeat (first | exact List.Mem.head _ | apply List.Mem.tail)) rfl rfl (by first | omega | (simp; omega) | (simp; done))) (.inr (by rintro _ _ ⟨px, capx, rfl, rfl⟩ w h; exact h.subD)) rfl ?_ DAll.nil)
    rintro _ _ ⟨px, capx, rfl, rfl⟩
    refine D.all (rs := [8]) (by kernel_rfl) rfl (DAll.cons rfl (by kernel_rfl) (OpQ.loud (q_nilCheck rfl)) (.inl (by kernel_rfl)) rfl ?_ DAll.nil)
    rintro _ _ ⟨rfl, rfl⟩
    refine D.all (rs := [9]) (by kernel_rfl) rfl (DAll.cons rfl (by kernel_rfl) (OpQ.loud (q_field fo_68_0 rfl)) (.inl (by kernel_rfl)) rfl ?_ DAll.nil)
    rintro _ _ ⟨rfl, rfl⟩
    refine D.all (rs := [10]) (by kernel_rfl) rfl (DAll.consN rfl (by kernel_rfl) (l_store1 ck_66 rfl rfl rfl (by repeat (first | exact Pick.here | apply Pick.there)) (by repeat (first | exact SetAt.here | apply SetAt.there))) (.inl (by kernel_rfl)) rfl ?_ DAll.nil)
    rintro _ _ ⟨rfl, rfl⟩
    refine D.done (by kernel_rfl) ?_
    refine K.fin (fn := Tryz.f60) Tryz.func60 (fun a w hk hs => res0 Tryz.results60) (fun w hs => ?_)
    first
      | exact ⟨_, LkL b px capx q2 c2 ⟨k.hold ++ [x], k.line⟩, rfl, ⟨px, capx, rfl, by rw [hr]⟩, hs.fitD⟩
      | exact ⟨_, [pv b 68 [.slice q1 k.hold.length c1, .slice q2 k.line.length c2], RowO Kd.one1 100 q1 c1 (k.hold.set i x), RowO Kd.one1 100 q2 c2 k.line], rfl, ⟨q1, c1, rfl, by rw [hr]; show _ = [pv b _ [.slice q1 (k.hold.set i x).length c1, _], _, _]; rw [List.length_set]⟩, hs.fitD⟩
end Go.Proofs.YtcpkcjabmookmaaGreat.L
/-! Walks: the library's Delete on a lock's lists. -/
namespace Go.Proofs.YtcpkcjabmookmaaGreat.L
open Go Go.Proofs
attribute [local irreducible] pv fv pt fz RowF RowO rowP old pure_ elA
set_option maxRecDepth 100000
set_option linter.unusedSimpArgs false
set_option linter.unusedVariables false

set_option maxHeartbeats 800000 in
theorem del_one (q : Option Addr) (cap : Nat) (l : List One) (i : Nat) (hi : i < l.length) (hc : l.length ≤ cap) (hb : l.length ≤ 1000000000000) : Fn Tryz.prog 68 [.slice q l.length cap, .int .i64 i, .int .i64 ((i : Int) + 1)].toArray [RowO Kd.one1 100 q cap l]
    (fun r post => r = .slice q (l.length - 1) cap ∧ post = [RowO Kd.one1 100 q cap (l.take i ++ l.drop (i + 1))]) := by
  refine Fn.enter (N := 33) Tryz.func68 rfl Tryz.ntmps68 (by kernel_rfl) rfl (fun ρ L => ?_)
  refine K.seq ?_
  refine K.region ?_
  refine KO.q rfl (q_assign rfl) ?_
  refine KO.done ?_
  refine K.seq ?_
  refine K.region ?_
  refine KO.q rfl (q_move rfl) ?_
  refine KO.q rfl (q_move rfl) ?_
  refine KO.q rfl (q_move rfl) ?_
  refine KO.q rfl (q_move rfl) ?_
  refine KO.q rfl (q_len Tryz.underlying66 rfl) ?_
  refine KO.q rfl (q_cut3 se_66 rfl rfl rfl rfl (by omega) (by omega) (by omega) (by omega)) ?_
  refine KO.done ?_
  refine K.seq <| K.seq ?_
  refine K.region ?_
  refine KO.q rfl (q_move rfl) ?_
  refine KO.q rfl (q_move rfl) ?_
  refine KO.q rfl (q_eq rfl rfl) ?_
  refine KO.done ?_
  refine K.dcond (s := 16) rfl (fun g16 => ?_) (fun g16 => ?_)
  · exact absurd g16 (by omega)
  · refine K.skip <| K.seq ?_
    refine K.region ?_
    refine KO.q rfl (q_move rfl) ?_
    refine KO.q rfl (q_len Tryz.underlying66 rfl) ?_
    refine KO.q rfl (q_assign rfl) ?_
    refine KO.done ?_
    refine K.seq ?_
    refine K.draw [] mixed ?_
    refine D.q 0 rfl (by kernel_rfl) (by kernel_rfl) (q_move rfl) (fun _ h => h.nil) ?_
    refine D.q 1 rfl (by kernel_rfl) (by kernel_rfl) (q_move rfl) (fun _ h => h.nil) ?_
    refine D.q 2 rfl (by kernel_rfl) (by kernel_rfl) (q_cutH se_66 rfl rfl (by first | omega | (simp; omega)) (by first | omega | (simp; omega))) (fun _ h => h.nil) ?_
    refine D.q 3 rfl (by kernel_rfl) (by kernel_rfl) (q_move rfl) (fun _ h => h.nil) ?_
    refine D.q 4 rfl (by kernel_rfl) (by kernel_rfl) (q_move rfl) (fun _ h => h.nil) ?_
    refine D.q 5 rfl (by kernel_rfl) (by kernel_rfl) (q_cutL se_66 rfl rfl (by first | omega | (simp; omega)) (by first | omega | (simp; omega)) (by first | omega | (simp; omega))) (fun _ h => h.nil) ?_
    refine D.all (rs := [6]) (by kernel_rfl) rfl (DAll.cons rfl (by kernel_rfl) (l_appendIn (i := i) (s0 := i + 1) (m := l.length - (i + 1)) Kd.one1 se_66 Tryz.underlying66 rfl rfl (by repeat (first | exact Pick.here | apply Pick.there)) (by omega) (by omega) (by omega) (by omega)) (.inr (fun _ _ _ _ h => h.nil)) rfl ?_ DAll.nil)
    rintro _ _ ⟨rfl, rfl⟩
    refine D.q 7 rfl (by kernel_rfl) (by kernel_rfl) (q_assign rfl) (fun _ h => h.nil) ?_
    refine D.done (by kernel_rfl) ?_
    rw [show i + (l.length - (i + 1)) = l.length - 1 by omega, List.take_of_length_le (l := l.drop (i + 1)) (by rw [List.length_drop]; omega)]
    refine K.seq ?_
    refine K.region ?_
    refine KO.q rfl (q_move rfl) ?_
    refine KO.q rfl (q_move rfl) ?_
    refine KO.q rfl (q_len Tryz.underlying66 rfl) ?_
    refine KO.q rfl (q_move rfl) ?_
    refine KO.q rfl (q_cutB se_66 rfl rfl rfl (by first | omega | (simp; omega)) (by first | omega | (simp; omega)) (by first | omega | (simp; omega))) ?_
    refine KO.loudN rfl (l_clearS (i := l.length - 1) Kd.one1 se_66 ze_100 rfl (by simp [Value.oneCell']) (by decide) rfl (by repeat (first | exact Pick.here | apply Pick.there)) (by rw [List.length_append, List.length_take, List.length_drop]; omega) (by omega) (by simp only [Int.toNat_natCast]; omega)) ?_
    rintro _ _ ⟨rfl, rfl⟩
    refine KO.done ?_
    refine K.seq ?_
    refine K.region ?_
    refine KO.q rfl (q_move rfl) ?_
    refine KO.q rfl (q_assign rfl) ?_
    refine KO.done ?_
    refine K.ret (fn := Tryz.f68) Tryz.func68 (fun a w hk hs => res1 Tryz.results68 hk rfl) (fun w hs => ?_)
    exact ⟨_, [RowO Kd.one1 100 q cap (l.take i ++ l.drop (i + 1))], rfl, ⟨rfl, rfl⟩, hs.fitD⟩
end Go.Proofs.YtcpkcjabmookmaaGreat.L
/-! Walks: the library's DeleteFunc on a lock's lists. -/
namespace Go.Proofs.YtcpkcjabmookmaaGreat.L
open Go Go.Proofs
attribute [local irreducible] pv fv pt fz RowF RowO rowP old pure_ elA
set_option maxRecDepth 100000
set_option linter.unusedSimpArgs false
set_option linter.unusedVariables false

theorem filt_succ {α : Type} {p : α → Bool} {l : List α} {j : Nat} {x : α} (h : l[j]? = some x) : (l.take (j + 1)).filter (fun x => !p x) = (l.take j).filter (fun x => !p x) ++ (if p x = true then [] else [x]) := by
  rw [List.take_add_one, h, List.filter_append]
  cases hp : p x <;> simp [hp]
set_option maxHeartbeats 800000 in
theorem delf_one (R : HP) (q : Option Addr) (cap : Nat) (l : List One) (f : FuncId) (cs : List Value) (p : One → Bool) (hc : l.length ≤ cap) (hb : l.length ≤ 1000000000000) (hf : ∀ x ∈ l, Fn Tryz.prog f (Value.agg x.cells.toArray :: cs).toArray [R] (fun v post => v = .bool (p x) ∧ post = [R])) :
    Fn Tryz.prog 67 [.slice q l.length cap, .func (.func f) #[] cs.toArray].toArray [RowO Kd.one1 100 q cap l, R] (fun r post => r = .slice q (l.filter (fun x => !p x)).length cap ∧ post = [RowO Kd.one1 100 q cap (l.filter (fun x => !p x)), R]) := by
  refine Fn.enter (N := 42) Tryz.func67 rfl Tryz.ntmps67 (by kernel_rfl) rfl (fun ρ L => ?_)
  refine K.seq ?_
  refine K.region ?_
  refine KO.q rfl (q_assign rfl) ?_
  refine KO.done ?_
  refine K.seq ?_
  refine K.region ?_
  refine KO.q rfl (q_move rfl) ?_
  refine KO.q rfl (q_move rfl) ?_
  refine KO.loud rfl (OpL.callD rfl (h := ixf_one (RowO Kd.one1 100 q cap l) R q cap l isO f cs p (by omega) hf)) ?_
  rintro _ _ ⟨_, ⟨rfl, rfl⟩, rfl⟩
  refine KO.q rfl (q_assign rfl) ?_
  refine KO.done ?_
  refine K.seq <| K.seq ?_
  refine K.region ?_
  refine KO.q rfl (q_move rfl) ?_
  refine KO.q rfl (q_eq rfl rfl) ?_
  refine KO.done ?_
  refine K.dcond (s := 12) rfl (fun g12 => ?_) (fun g12 => ?_)
  · have hnone : l.filter (fun x => !p x) = l := by
      rw [List.filter_eq_self]
      intro x hx
      have hany : l.any p = false := by rw [← idxP_any, g12]; rfl
      rw [List.any_eq_false] at hany
      simpa using hany x hx
    rw [hnone]
    refine K.seq ?_
    refine K.region ?_
    refine KO.q rfl (q_move rfl) ?_
    refine KO.q rfl (q_assign rfl) ?_
    refine KO.done ?_
    refine K.ret (fn := Tryz.f67) Tryz.func67 (fun a w hk hs => res1 Tryz.results67 hk rfl) (fun w hs => ?_)
    first
      | exact ⟨_, [RowO Kd.one1 100 q cap l, R], rfl, ⟨rfl, rfl⟩, hs.fitD⟩
      | exact ⟨_, [RowO Kd.one1 100 q cap (l.filter (fun x => !p x)), R], rfl, ⟨by rw [hlen]; rfl, rfl⟩, hs.fitD⟩
  · obtain ⟨i0, x0, hx0, hi0, hany⟩ : ∃ (i : Nat) (x : One), l[i]? = some x ∧ idxP p l = (i : Int) ∧ p x = true ∧ (l.take i).filter (fun x => !p x) = l.take i := by
      unfold idxP at g12 ⊢
      rcases hfi : l.findIdx? p with _ | i
      · rw [hfi] at g12; exact absurd rfl g12
      · rw [List.findIdx?_eq_some_iff_getElem] at hfi
        obtain ⟨hi, h1, h2⟩ := hfi
        refine ⟨i, l[i], List.getElem?_eq_getElem hi, rfl, h1, ?_⟩
        rw [List.filter_eq_self]
        intro x hx
        obtain ⟨j, hj, rfl⟩ := List.mem_take_iff_getElem.1 hx
        simpa using h2 j (by omega)
    have hil := (List.getElem?_eq_some_iff.1 hx0).1
    rw [hi0]
    refine K.skip <| K.seq <| K.seq ?_
    refine K.region ?_
    refine KO.q rfl (q_move rfl) ?_
    refine KO.q rfl (q_add rfl rfl (by first | omega | (simp; omega)) (by first | omega | (simp; omega))) ?_
    refine KO.q rfl (q_assign rfl) ?_
    refine KO.done ?_
    refine K.block ?_
    refine K.rounds2 (ι := { x : Nat × Nat × List One // x.1 < x.2.1 ∧ x.2.1 ≤ l.length ∧ x.2.2.length = l.length ∧ x.2.2.take x.1 = (l.take x.2.1).filter (fun x => !p x) ∧ x.2.2.drop x.2.1 = l.drop x.2.1 }) (fun x => [(6, .int .i64 x.1.2.1), (5, .int .i64 x.1.1), (0, .slice q l.length cap), (1, .func (.func f) #[] cs.toArray)]) (fun x => [RowO Kd.one1 100 q cap x.1.2.2, R] ++ L) (fun x => l.length - x.1.2.1) ⟨(i0, i0 + 1, l), Nat.lt_succ_self _, by show i0 + 1 ≤ l.length; omega, rfl, by show l.take i0 = (l.take (i0 + 1)).filter _; rw [filt_succ hx0, if_pos hany.1, List.append_nil, hany.2], rfl⟩ (by repeat (first | exact Env.sub_nil _ | refine Env.sub_cons rfl ?_)) (fun w h => h.fitD) (fun x ih => ?_)
    obtain ⟨⟨i, j, M⟩, hij, hj, hM, ht, hd⟩ := x
    dsimp only at hij hj hM ht hd ⊢
    refine K.seq <| K.seq ?_
    refine K.region ?_
    refine KO.q rfl (q_move rfl) ?_
    refine KO.q rfl (q_move rfl) ?_
    refine KO.q rfl (q_len Tryz.underlying66 rfl) ?_
    refine KO.q rfl (q_lt rfl rfl) ?_
    refine KO.done ?_
    refine K.dcond (s := 19) rfl (fun g19 => ?_) (fun g19 => ?_)
    · obtain ⟨e, he⟩ : ∃ e, l[j]? = some e := ⟨_, List.getElem?_eq_getElem (by omega)⟩
      have heM : M[j]? = some e := by
        have := congrArg (fun z => z[0]?) hd
        simpa [List.getElem?_drop, he] using this
      have hfs := filt_succ (p := p) he
      refine K.skip <| K.seq <| K.block <| K.seq ?_
      refine K.region ?_
      refine KO.q rfl (q_move rfl) ?_
      refine KO.q rfl (q_move rfl) ?_
      refine KO.q rfl (q_ix (xs := M) j se_66 rfl rfl rfl isO (by repeat (first | exact List.Mem.head _ | apply List.Mem.tail)) hM.symm (by omega)) ?_
      refine KO.q rfl (q_ldEN (xs := M) ck_100 rfl isO (by repeat (first | exact List.Mem.head _ | apply List.Mem.tail)) heM) ?_
      refine KO.loud rfl (l_alloc zo_100) ?_
      rintro _ _ ⟨b7, rfl, rfl⟩
      refine KO.loudN rfl (l_storeAll ck_100 rfl rfl ⟨rfl, rfl⟩ (one_one _) (by repeat (first | exact Pick.here | apply Pick.there))) ?_
      rintro _ _ ⟨rfl, rfl⟩
      refine KO.done ?_
      refine K.seq ?_
      refine K.region ?_
      refine KO.q rfl (q_move rfl) ?_
      refine KO.q rfl (q_loadN ck_100 rfl rfl (by first | (apply cells_pv; (repeat (first | exact List.Mem.head _ | apply List.Mem.tail))) | (apply cells_fv; (repeat (first | exact List.Mem.head _ | apply List.Mem.tail))))) ?_
      refine KO.loud rfl (OpL.callCG (first := []) (captured := cs) rfl rfl (by repeat (first | exact Give.nil | (apply Give.perI; (repeat (first | exact List.Mem.head _ | apply List.Mem.tail))) | (apply Give.own; (repeat (first | exact Pick.here | apply Pick.there))))) (hf e (List.mem_of_getElem? he))) ?_
      rintro _ _ ⟨_, ⟨rfl, rfl⟩, rfl⟩
      refine KO.q rfl (q_not rfl) ?_
      refine KO.done ?_
      refine K.bcond (s := 29) rfl (fun g29 => ?_) (fun g29 => ?_)
      · refine K.seq ?_
        refine K.region ?_
        refine KO.q rfl (q_move rfl) ?_
        refine KO.q rfl (q_move rfl) ?_
        refine KO.q rfl (q_loadN ck_100 rfl rfl (by first | (apply cells_pv; (repeat (first | exact List.Mem.head _ | apply List.Mem.tail))) | (apply cells_fv; (repeat (first | exact List.Mem.head _ | apply List.Mem.tail))))) ?_
        refine KO.q rfl (q_ix (xs := M) i se_66 rfl rfl rfl isO (by repeat (first | exact List.Mem.head _ | apply List.Mem.tail)) hM.symm (by omega)) ?_
        refine KO.loudN rfl (l_storeEN e ck_100 rfl rfl (by repeat (first | exact Pick.here | apply Pick.there)) (by omega)) ?_
        rintro _ _ ⟨rfl, rfl⟩
        refine KO.done ?_
        refine K.region ?_
        refine KO.q rfl (q_move rfl) ?_
        refine KO.q rfl (q_add rfl rfl (by first | omega | (simp; omega)) (by first | omega | (simp; omega))) ?_
        refine KO.q rfl (q_assign rfl) ?_
        refine KO.done ?_
        refine K.inBlock ?_
        refine K.region ?_
        refine KO.q rfl (q_move rfl) ?_
        refine KO.q rfl (q_add rfl rfl (by first | omega | (simp; omega)) (by first | omega | (simp; omega))) ?_
        refine KO.q rfl (q_assign rfl) ?_
        refine KO.done ?_
        first
          | exact K.weak (by repeat (first | exact Env.sub_nil _ | refine Env.sub_cons rfl ?_)) (fun w h => h.fitD) (ih ⟨(i + 1, j + 1, M.set i e), by show i + 1 < j + 1; omega, by show j + 1 ≤ l.length; omega, by rw [List.length_set]; exact hM, by
              show (M.set i e).take (i + 1) = (l.take (j + 1)).filter _
              rw [hfs, if_neg (by simpa using g29), ← ht, List.take_add_one, List.take_set_of_le (Nat.le_refl i), List.getElem?_set_self (by omega)]
              rfl, by show (M.set i e).drop (j + 1) = l.drop (j + 1); rw [List.drop_set_of_lt (by omega), ← List.drop_drop, hd, List.drop_drop]⟩ (by show l.length - (j + 1) < l.length - j; omega))
          | exact K.weak (by repeat (first | exact Env.sub_nil _ | refine Env.sub_cons rfl ?_)) (fun w h => h.fitD) (ih ⟨(i, j + 1, M), by show i < j + 1; omega, by show j + 1 ≤ l.length; omega, hM, by show M.take i = (l.take (j + 1)).filter _; rw [hfs, if_pos (by simpa using g29), List.append_nil]; exact ht, by show M.drop (j + 1) = l.drop (j + 1); rw [← List.drop_drop, hd, List.drop_drop]⟩ (by show l.length - (j + 1) < l.length - j; omega))
      · refine K.skip <| K.inBlock ?_
        refine K.region ?_
        refine KO.q rfl (q_move rfl) ?_
        refine KO.q rfl (q_add rfl rfl (by first | omega | (simp; omega)) (by first | omega | (simp; omega))) ?_
        refine KO.q rfl (q_assign rfl) ?_
        refine KO.done ?_
        first
          | exact K.weak (by repeat (first | exact Env.sub_nil _ | refine Env.sub_cons rfl ?_)) (fun w h => h.fitD) (ih ⟨(i + 1, j + 1, M.set i e), by show i + 1 < j + 1; omega, by show j + 1 ≤ l.length; omega, by rw [List.length_set]; exact hM, by
              show (M.set i e).take (i + 1) = (l.take (j + 1)).filter _
              rw [hfs, if_neg (by simpa using g29), ← ht, List.take_add_one, List.take_set_of_le (Nat.le_refl i), List.getElem?_set_self (by omega)]
              rfl, by show (M.set i e).drop (j + 1) = l.drop (j + 1); rw [List.drop_set_of_lt (by omega), ← List.drop_drop, hd, List.drop_drop]⟩ (by show l.length - (j + 1) < l.length - j; omega))
          | exact K.weak (by repeat (first | exact Env.sub_nil _ | refine Env.sub_cons rfl ?_)) (fun w h => h.fitD) (ih ⟨(i, j + 1, M), by show i < j + 1; omega, by show j + 1 ≤ l.length; omega, hM, by show M.take i = (l.take (j + 1)).filter _; rw [hfs, if_pos (by simpa using g29), List.append_nil]; exact ht, by show M.drop (j + 1) = l.drop (j + 1); rw [← List.drop_drop, hd, List.drop_drop]⟩ (by show l.length - (j + 1) < l.length - j; omega))
    · obtain rfl : j = l.length := by omega
      rw [List.take_length] at ht
      have hlen : (l.filter (fun x => !p x)).length = i := by rw [← ht, List.length_take]; omega
      refine K.st (fun w h => rowO_take i (h.pick (by repeat (first | exact Pick.here | apply Pick.there)))) ?_
      rw [ht]
      refine K.exit rfl ?_
      refine K.seq ?_
      refine K.region ?_
      refine KO.q rfl (q_move rfl) ?_
      refine KO.q rfl (q_move rfl) ?_
      refine KO.q rfl (q_cutL se_66 rfl rfl (by first | omega | (simp; omega)) (by first | omega | (simp; omega)) (by first | omega | (simp; omega))) ?_
      refine KO.loudN rfl (l_clearS (i := i) Kd.one1 se_66 ze_100 rfl (by simp [Value.oneCell']) (by decide) rfl (by repeat (first | exact Pick.here | apply Pick.there)) (by omega) (by omega) (by simp only [Int.toNat_natCast]; omega)) ?_
      rintro _ _ ⟨rfl, rfl⟩
      refine KO.done ?_
      refine K.seq ?_
      refine K.region ?_
      refine KO.q rfl (q_move rfl) ?_
      refine KO.q rfl (q_move rfl) ?_
      refine KO.q rfl (q_cutH se_66 rfl rfl (by first | omega | (simp; omega)) (by first | omega | (simp; omega))) ?_
      refine KO.q rfl (q_assign rfl) ?_
      refine KO.done ?_
      refine K.ret (fn := Tryz.f67) Tryz.func67 (fun a w hk hs => res1 Tryz.results67 hk rfl) (fun w hs => ?_)
      first
        | exact ⟨_, [RowO Kd.one1 100 q cap l, R], rfl, ⟨rfl, rfl⟩, hs.fitD⟩
        | exact ⟨_, [RowO Kd.one1 100 q cap (l.filter (fun x => !p x)), R], rfl, ⟨by rw [hlen]; rfl, rfl⟩, hs.fitD⟩
end Go.Proofs.YtcpkcjabmookmaaGreat.L
