/- Walks: a lock: who holds, and who waits. Walks: a lock: for whom somebody waits. -/
import Derived.Test.YtcpkcjabmookmaaGreatGC
import Derived.Test.YtcpkcjabmookmaaGreatS2
/-! Walks: a lock: who holds, and who waits. -/
namespace Go.Proofs.YtcpkcjabmookmaaGreat.L
open Go Go.Proofs
attribute [local irreducible] pv fv pt fz RowF RowO rowP old pure_ elA
set_option maxRecDepth 100000
set_option linter.unusedSimpArgs false
set_option linter.unusedVariables false

--%rec api.Hold Hold
--%kd api.Hold Kd.hold
structure Hold where
  who : Int
  mode : Int
  wants : Int
def Hold.cells (x : Hold) : List Value := [.int .i64 x.who, .int .i64 x.mode, .int .i64 x.wants]
theorem hold_sz (x : Hold) : x.cells.length = 3 := rfl
theorem hold_one (x : Hold) : ∀ v ∈ x.cells, v.oneCell' = true := fun v h => by simp [Hold.cells] at h; rcases h with rfl | rfl | rfl <;> rfl
def Kd.hold : Kd Hold := Kd.flat 3 Hold.cells hold_sz hold_one
theorem q_as_hold {X : Fx} {o : Oper} {E : Env} {L : List HP} {cs : List Value} {who_ : Int} {mode_ : Int} {wants_ : Int} (h : OpQ X o E L (.agg cs.toArray)) (e : cs = [.int .i64 who_, .int .i64 mode_, .int .i64 wants_]) : OpQ X o E L (.agg (Hold.cells ⟨who_, mode_, wants_⟩).toArray) := q_as h e
theorem hold_ext {a b : Hold} : a = b ↔ a.who = b.who ∧ a.mode = b.mode ∧ a.wants = b.wants := by cases a; cases b; simp
instance : DecidableEq Hold := fun _ _ => decidable_of_iff _ hold_ext.symm
theorem hold_hp : Tryz.prog.stoodInHeld 59 = false := by kernel_rfl
theorem hold_hg : Tryz.prog.eqGuardType Tryz.prog.depth 59 = false := by kernel_rfl
theorem hold_eqD (a b : Hold) {fs : Array Field} (h : Tryz.prog.underlying 59 = some (.struct fs)) : EqG Tryz.prog a.cells b.cells fs.toList (decide (a = b)) := by
  rw [Tryz.underlying59] at h
  cases h
  have e : ((a.who == b.who) && ((a.mode == b.mode) && ((a.wants == b.wants) && true))) = decide (a = b) := by rw [Bool.eq_iff_iff, decide_eq_true_iff, hold_ext]; simp [bbeq]
  rw [← e]
  exact (.cons rfl ck_3 rfl rfl (.int Tryz.underlying3) (.cons rfl ck_3 rfl rfl (.int Tryz.underlying3) (.cons rfl ck_3 rfl rfl (.int Tryz.underlying3) .nil)))
def Hold.beq (a b : Hold) : Bool := (a.who == b.who) && ((a.mode == b.mode) && ((a.wants == b.wants) && true))
theorem hold_beqD (a b : Hold) : a.beq b = decide (a = b) := by rw [Bool.eq_iff_iff, decide_eq_true_iff, hold_ext]; simp [Hold.beq, bbeq]
theorem hold_eqF (a b : Hold) {fs : Array Field} (h : Tryz.prog.underlying 59 = some (.struct fs)) : EqF Tryz.prog a.cells b.cells fs.toList (a.beq b) := by
  rw [Tryz.underlying59] at h
  cases h
  exact (.cons rfl ck_3 rfl rfl (.int Tryz.underlying3) (.cons rfl ck_3 rfl rfl (.int Tryz.underlying3) (.cons rfl ck_3 rfl rfl (.int Tryz.underlying3) .nil)))
def Hold.fits (x : Hold) : Prop := (-9223372036854775808 ≤ x.who ∧ x.who ≤ 9223372036854775807) ∧ (-9223372036854775808 ≤ x.mode ∧ x.mode ≤ 9223372036854775807) ∧ (-9223372036854775808 ≤ x.wants ∧ x.wants ≤ 9223372036854775807)
theorem hold_len (cs : List Value) (h : cs.length = 3) : ∃ v0 v1 v2, cs = [v0, v1, v2] := by
  match cs, h with
  | [v0, v1, v2], _ => exact ⟨v0, v1, v2, rfl⟩
theorem opens_hold {H : Type} {enc : TypeId × Value → H} {W : World} : Opens enc Tryz.prog W Kd.hold 59 Hold.fits := fun fuel cs y h => by
  obtain ⟨hl, n, hf⟩ := opens_fields Tryz.underlying59 h
  have hl2 : cs.length = 3 := hl.trans (by kernel_rfl)
  obtain ⟨v0, v1, v2, rfl⟩ := hold_len cs hl2
  have cint : Tryz.prog.cellsOf 3 = 1 := by kernel_rfl
  obtain ⟨y0, h0⟩ := hf 0 _ rfl
  replace h0 : DataW.trod enc Tryz.prog W 0 (fun _ => true) true n 3 (([v0, v1, v2].drop 0).take (Tryz.prog.cellsOf 3)) = some y0 := h0
  rw [cint] at h0
  obtain ⟨x0, e0, b0⟩ := opens_int Tryz.underlying3 _ _ _ h0
  have u0 : v0 = Value.int .i64 x0 := (List.cons.inj (show [v0] = [Value.int .i64 x0] from e0)).1
  obtain ⟨y1, h1⟩ := hf 1 _ rfl
  replace h1 : DataW.trod enc Tryz.prog W 0 (fun _ => true) true n 3 (([v0, v1, v2].drop 1).take (Tryz.prog.cellsOf 3)) = some y1 := h1
  rw [cint] at h1
  obtain ⟨x1, e1, b1⟩ := opens_int Tryz.underlying3 _ _ _ h1
  have u1 : v1 = Value.int .i64 x1 := (List.cons.inj (show [v1] = [Value.int .i64 x1] from e1)).1
  obtain ⟨y2, h2⟩ := hf 2 _ rfl
  replace h2 : DataW.trod enc Tryz.prog W 0 (fun _ => true) true n 3 (([v0, v1, v2].drop 2).take (Tryz.prog.cellsOf 3)) = some y2 := h2
  rw [cint] at h2
  obtain ⟨x2, e2, b2⟩ := opens_int Tryz.underlying3 _ _ _ h2
  have u2 : v2 = Value.int .i64 x2 := (List.cons.inj (show [v2] = [Value.int .i64 x2] from e2)).1
  refine ⟨⟨x0, x1, x2⟩, ?_, b0, b1, b2⟩
  show [v0, v1, v2] = Hold.cells _
  simp only [Hold.cells]
  subst u0 u1 u2
  rfl
def wantsIn (line : List One) (who : Int) : Int := if 0 ≤ at1 line who then (line.getD (at1 line who).toNat ⟨0, 0⟩).mode else 0
def Lk.hold1 (k : Lk) (h : One) : Hold := ⟨h.who, h.mode, wantsIn k.line h.who⟩
def One.wait1 (w : One) : Hold := ⟨w.who, 0, w.mode⟩
def Lk.holds (k : Lk) : List Hold := k.hold.map k.hold1 ++ (k.line.filter (fun w => !k.has w.who)).map One.wait1
theorem map_take_succ {α β : Type} (f : α → β) {l : List α} {i : Nat} {x : α} (h : l[i]? = some x) : (l.take (i + 1)).map f = (l.take i).map f ++ [f x] := by
  rw [List.take_add_one, h, List.map_append]; rfl
theorem filter_take_succ {α : Type} (p : α → Bool) {l : List α} {i : Nat} {x : α} (h : l[i]? = some x) : (l.take (i + 1)).filter p = (l.take i).filter p ++ if p x = true then [x] else [] := by
  rw [List.take_add_one, h, List.filter_append]
  cases hp : p x <;> simp [hp]
--%call (*poste/grant.Lock).Holds := lk_Holds _ _ _ _ _ _ (by omega) !! ⟨_, ⟨p#, d#, rfl, rfl⟩, rfl⟩
set_option maxHeartbeats 1600000 in
theorem lk_Holds (b : Nat) (q1 : Option Addr) (c1 : Nat) (q2 : Option Addr) (c2 : Nat) (k : Lk) (hl : k.hold.length + k.line.length ≤ 1000000000) : Fn Tryz.prog 38 [.pointer (some ⟨b, 0, none⟩)].toArray (LkL b q1 c1 q2 c2 k) (fun r post => ∃ po co, r = .slice po k.holds.length co ∧ post = RowO Kd.hold 59 po co k.holds :: LkL b q1 c1 q2 c2 k) := by
  refine Fn.enter (N := 73) Tryz.func38 rfl Tryz.ntmps38 (by kernel_rfl) rfl (fun ρ L => ?_)
  refine K.seq ?_
  refine K.region ?_
  refine KO.q rfl (q_assign rfl) ?_
  refine KO.done ?_
  refine K.seq <| K.seq ?_
  refine K.region ?_
  refine KO.q rfl (q_move rfl) ?_
  refine KO.q rfl (q_pnil Tryz.underlying61 rfl rfl) ?_
  refine KO.done ?_
  refine K.no rfl ?_
  refine K.skip <| K.seq ?_
  refine K.region ?_
  refine KO.q rfl (q_assign rfl) ?_
  refine KO.done ?_
  refine K.seq <| K.seq ?_
  refine K.region ?_
  refine KO.q rfl (q_move rfl) ?_
  refine KO.q rfl (q_nilCheck rfl) ?_
  refine KO.q rfl (q_field fo_68_0 rfl) ?_
  refine KO.q rfl (q_load1D ck_66 rfl) ?_
  refine KO.q rfl (q_len Tryz.underlying66 rfl) ?_
  refine KO.q rfl (q_move rfl) ?_
  refine KO.done ?_
  refine K.block ?_
  refine K.rounds2 (ι := { s : Nat × Option Addr × Nat // s.1 ≤ k.hold.length }) (fun s => [(17, .int .i64 s.1.1), (16, .int .i64 k.hold.length), (15, .slice q1 k.hold.length c1), (3, .slice s.1.2.1 ((k.hold.take s.1.1).map k.hold1).length s.1.2.2), (0, .pointer (some ⟨b, 0, none⟩))]) (fun s => RowO Kd.hold 59 s.1.2.1 s.1.2.2 ((k.hold.take s.1.1).map k.hold1) :: LkL b q1 c1 q2 c2 k ++ L) (fun s => k.hold.length - s.1.1) ⟨(0, none, 0), Nat.zero_le _⟩ (by repeat (first | exact Env.sub_nil _ | refine Env.sub_cons rfl ?_)) (fun w h => rowO_nil (k := Kd.hold) 59 (h.fit (M := LkL b q1 c1 q2 c2 k) (by repeat (first | exact Give.nil | (apply Give.perI; (repeat (first | exact List.Mem.head _ | apply List.Mem.tail))) | (apply Give.own; (repeat (first | exact Pick.here | apply Pick.there))))) (by repeat (first | exact Drop.refl | apply Drop.skip)))) (fun s ih => ?_)
  obtain ⟨⟨i, po, co⟩, hi⟩ := s
  dsimp only at hi ⊢
  refine K.seq ?_
  refine K.region ?_
  refine KO.q rfl (q_lt rfl rfl) ?_
  refine KO.done ?_
  refine K.seq ?_
  refine K.dcond (s := 18) rfl (fun g18 => ?_) (fun g18 => ?_)
  · obtain ⟨e, he⟩ : ∃ e, k.hold[i]? = some e := ⟨_, List.getElem?_eq_getElem (by omega)⟩
    have hm := map_take_succ k.hold1 he
    have hml : ((k.hold.take i).map k.hold1).length = i := by rw [List.length_map, List.length_take]; omega
    refine K.skip <| K.seq <| K.block <| K.seq ?_
    refine K.region ?_
    first | refine KO.q rfl (q_ix _ se_66 rfl rfl rfl isF (by repeat (first | exact List.Mem.head _ | apply List.Mem.tail)) rfl (by first | assumption | omega | exact (List.getElem?_eq_some_iff.1 (by assumption)).1 | (simp; omega))) ?_ | refine KO.q rfl (q_ix _ se_66 rfl rfl rfl isO (by repeat (first | exact List.Mem.head _ | apply List.Mem.tail)) rfl (by first | assumption | omega | exact (List.getElem?_eq_some_iff.1 (by assumption)).1 | (simp; omega))) ?_
    refine KO.q rfl (q_ldEN ck_100 rfl isO (by repeat (first | exact List.Mem.head _ | apply List.Mem.tail)) he) ?_
    refine KO.loud rfl (l_alloc zo_100) ?_
    rintro _ _ ⟨b5, rfl, rfl⟩
    refine KO.loudN rfl (l_storeAll ck_100 rfl rfl ⟨rfl, rfl⟩ (one_one _) (by repeat (first | exact Pick.here | apply Pick.there))) ?_
    rintro _ _ ⟨rfl, rfl⟩
    refine KO.done ?_
    refine K.seq ?_
    refine K.region ?_
    refine KO.q rfl (q_field fo_100_0 rfl) ?_
    refine KO.q rfl (q_load1D ck_3 rfl) ?_
    refine KO.q rfl (q_field fo_100_1 rfl) ?_
    refine KO.q rfl (q_load1D ck_3 rfl) ?_
    refine KO.q rfl (q_as_hold (q_build st_59 rfl (by repeat (first | exact Fill.nil | (apply Fill.cons; rfl; rfl; rfl) | exact SetN.nil | apply SetN.cons | exact SetAt.here | apply SetAt.there))) (by rfl)) ?_
    refine KO.loud rfl (l_alloc zo_59) ?_
    rintro _ _ ⟨b6, rfl, rfl⟩
    refine KO.loudN rfl (l_storeAll ck_59 rfl rfl ⟨rfl, rfl⟩ (hold_one _) (by repeat (first | exact Pick.here | apply Pick.there))) ?_
    rintro _ _ ⟨rfl, rfl⟩
    refine KO.done ?_
    refine K.seq <| K.seq ?_
    refine K.drawS [pv b 68 [.slice q1 k.hold.length c1, .slice q2 k.line.length c2], pv b5 100 e.cells] (fun _ h => h.subD) mixed ?_
    refine D.q 0 rfl (by kernel_rfl) (by kernel_rfl) (q_move rfl) (fun _ h => h.subD) ?_
    refine D.q 1 rfl (by kernel_rfl) (by kernel_rfl) (q_nilCheck rfl) (fun _ h => h.subD) ?_
    refine D.q 2 rfl (by kernel_rfl) (by kernel_rfl) (q_field fo_68_1 rfl) (fun _ h => h.subD) ?_
    refine D.q 3 rfl (by kernel_rfl) (by kernel_rfl) (q_load1D ck_66 rfl) (fun _ h => h.subD) ?_
    refine D.q 4 rfl (by kernel_rfl) (by kernel_rfl) (q_field fo_100_0 rfl) (fun _ h => h.subD) ?_
    refine D.q 5 rfl (by kernel_rfl) (by kernel_rfl) (q_load1D ck_3 rfl) (fun _ h => h.subD) ?_
    refine D.all (rs := [6]) (by kernel_rfl) rfl (DAll.cons rfl (by kernel_rfl) (OpL.callD rfl (h := gr_find (RowO Kd.one1 100 q2 c2 k.line) q2 c2 k.line e.who isO (by omega))) (.inr (by rintro _ _ ⟨_, ⟨rfl, rfl⟩, rfl⟩ w h; exact h.subD)) rfl ?_ DAll.nil)
    rintro _ _ ⟨_, ⟨rfl, rfl⟩, rfl⟩
    refine D.q 7 rfl (by kernel_rfl) (by kernel_rfl) (q_assign rfl) (fun _ h => h.subD) ?_
    refine D.done (by kernel_rfl) ?_
    refine K.seq ?_
    refine K.region ?_
    refine KO.q rfl (q_move rfl) ?_
    refine KO.q rfl (q_ge rfl rfl) ?_
    refine KO.done ?_
    refine K.dcond (s := 34) rfl (fun g34 => ?_) (fun g34 => ?_)
    · obtain ⟨j, el, hje, hj, hw⟩ := at1_some g34
      have hjl := (List.getElem?_eq_some_iff.1 hje).1
      have hk1 : k.hold1 e = ⟨e.who, e.mode, el.mode⟩ := by unfold Lk.hold1 wantsIn; rw [if_pos g34, hj, Int.toNat_natCast, getD_at hje]
      refine K.region ?_
      refine KO.q rfl (q_move rfl) ?_
      refine KO.q rfl (q_nilCheck rfl) ?_
      refine KO.q rfl (q_field fo_68_1 rfl) ?_
      refine KO.q rfl (q_load1D ck_66 rfl) ?_
      refine KO.q rfl (q_move rfl) ?_
      refine KO.q rfl (q_ix j se_66 rfl rfl hj isO (by repeat (first | exact List.Mem.head _ | apply List.Mem.tail)) rfl hjl) ?_
      refine KO.q rfl (q_fieldE fo_100_1 rfl) ?_
      refine KO.q rfl (q_ldE ck_3 rfl isO (by repeat (first | exact List.Mem.head _ | apply List.Mem.tail)) hje rfl) ?_
      refine KO.q rfl (q_field fo_59_2 rfl) ?_
      refine KO.loudN rfl (l_store1 ck_3 rfl rfl rfl (by repeat (first | exact Pick.here | apply Pick.there)) (by repeat (first | exact SetAt.here | apply SetAt.there))) ?_
      rintro _ _ ⟨rfl, rfl⟩
      refine KO.done ?_
      refine K.region ?_
      refine KO.q rfl (q_move rfl) ?_
      refine KO.q rfl (q_as_hold (q_loadN ck_59 rfl rfl (by first | (apply cells_pv; (repeat (first | exact List.Mem.head _ | apply List.Mem.tail))) | (apply cells_fv; (repeat (first | exact List.Mem.head _ | apply List.Mem.tail))))) (by rfl)) ?_
      refine KO.loud rfl (l_slice1 sz_74_1 rfl rfl ⟨rfl, rfl, rfl⟩) ?_
      rintro _ _ ⟨b46, rfl, rfl⟩
      refine KO.loud rfl (l_append Kd.hold se_74 Tryz.underlying74 ⟨_, ze_59, rfl⟩ (by decide) rfl rfl (by repeat (first | exact Pick.here | apply Pick.there)) isP (by repeat (first | exact List.Mem.head _ | apply List.Mem.tail)) rfl rfl (by rw [hml]; show (2 * (i + 1) + 768) * 24 ≤ _; omega)) ?_
      rintro _ _ ⟨pn, dn, rfl, rfl⟩
      refine KO.q rfl (q_assign rfl) ?_
      refine KO.done ?_
      refine K.inBlock ?_
      refine K.region ?_
      refine KO.q rfl (q_add rfl rfl (by first | omega | (simp; omega)) (by first | omega | (simp; omega))) ?_
      refine KO.q rfl (q_move rfl) ?_
      refine KO.done ?_
      exact K.weak (E' := [(17, .int .i64 ((i + 1 : Nat) : Int)), (16, .int .i64 k.hold.length), (15, .slice q1 k.hold.length c1), (3, .slice pn ((k.hold.take (i + 1)).map k.hold1).length dn), (0, .pointer (some ⟨b, 0, none⟩))]) (by rw [hm, hk1]; exact (by repeat (first | exact Env.sub_nil _ | refine Env.sub_cons rfl ?_))) (fun w h => by rw [hm, hk1]; exact h.fitD) (ih ⟨(i + 1, pn, dn), by show i + 1 ≤ _; omega⟩ (by show k.hold.length - (i + 1) < k.hold.length - i; omega))
    · have hk1 : k.hold1 e = ⟨e.who, e.mode, 0⟩ := by unfold Lk.hold1 wantsIn; rw [if_neg g34]
      refine K.skip ?_
      refine K.region ?_
      refine KO.q rfl (q_move rfl) ?_
      refine KO.q rfl (q_as_hold (q_loadN ck_59 rfl rfl (by first | (apply cells_pv; (repeat (first | exact List.Mem.head _ | apply List.Mem.tail))) | (apply cells_fv; (repeat (first | exact List.Mem.head _ | apply List.Mem.tail))))) (by rfl)) ?_
      refine KO.loud rfl (l_slice1 sz_74_1 rfl rfl ⟨rfl, rfl, rfl⟩) ?_
      rintro _ _ ⟨b46, rfl, rfl⟩
      refine KO.loud rfl (l_append Kd.hold se_74 Tryz.underlying74 ⟨_, ze_59, rfl⟩ (by decide) rfl rfl (by repeat (first | exact Pick.here | apply Pick.there)) isP (by repeat (first | exact List.Mem.head _ | apply List.Mem.tail)) rfl rfl (by rw [hml]; show (2 * (i + 1) + 768) * 24 ≤ _; omega)) ?_
      rintro _ _ ⟨pn, dn, rfl, rfl⟩
      refine KO.q rfl (q_assign rfl) ?_
      refine KO.done ?_
      refine K.inBlock ?_
      refine K.region ?_
      refine KO.q rfl (q_add rfl rfl (by first | omega | (simp; omega)) (by first | omega | (simp; omega))) ?_
      refine KO.q rfl (q_move rfl) ?_
      refine KO.done ?_
      exact K.weak (E' := [(17, .int .i64 ((i + 1 : Nat) : Int)), (16, .int .i64 k.hold.length), (15, .slice q1 k.hold.length c1), (3, .slice pn ((k.hold.take (i + 1)).map k.hold1).length dn), (0, .pointer (some ⟨b, 0, none⟩))]) (by rw [hm, hk1]; exact (by repeat (first | exact Env.sub_nil _ | refine Env.sub_cons rfl ?_))) (fun w h => by rw [hm, hk1]; exact h.fitD) (ih ⟨(i + 1, pn, dn), by show i + 1 ≤ _; omega⟩ (by show k.hold.length - (i + 1) < k.hold.length - i; omega))
  · obtain rfl : i = k.hold.length := by omega
    rw [List.take_length]
    refine K.exit rfl ?_
    refine K.seq <| K.seq ?_
    refine K.region ?_
    refine KO.q rfl (q_move rfl) ?_
    refine KO.q rfl (q_nilCheck rfl) ?_
    refine KO.q rfl (q_field fo_68_1 rfl) ?_
    refine KO.q rfl (q_load1D ck_66 rfl) ?_
    refine KO.q rfl (q_len Tryz.underlying66 rfl) ?_
    refine KO.q rfl (q_move rfl) ?_
    refine KO.done ?_
    refine K.block ?_
    refine K.rounds2 (ι := { s : Nat × Option Addr × Nat // s.1 ≤ k.line.length }) (fun s => [(54, .int .i64 s.1.1), (53, .int .i64 k.line.length), (52, .slice q2 k.line.length c2), (3, .slice s.1.2.1 (k.hold.map k.hold1 ++ ((k.line.take s.1.1).filter (fun w => !k.has w.who)).map One.wait1).length s.1.2.2), (0, .pointer (some ⟨b, 0, none⟩))]) (fun s => RowO Kd.hold 59 s.1.2.1 s.1.2.2 (k.hold.map k.hold1 ++ ((k.line.take s.1.1).filter (fun w => !k.has w.who)).map One.wait1) :: LkL b q1 c1 q2 c2 k ++ L) (fun s => k.line.length - s.1.1) ⟨(0, po, co), Nat.zero_le _⟩ (by rw [List.take_zero, List.filter_nil, List.map_nil, List.append_nil]; exact (by repeat (first | exact Env.sub_nil _ | refine Env.sub_cons rfl ?_))) (fun w h => by rw [List.take_zero, List.filter_nil, List.map_nil, List.append_nil]; exact h.fitD) (fun s ih2 => ?_)
    obtain ⟨⟨j, po, co⟩, hj⟩ := s
    dsimp only at hj ⊢
    have hol : (k.hold.map k.hold1 ++ ((k.line.take j).filter (fun w => !k.has w.who)).map One.wait1).length ≤ 1000000000 := by
      rw [List.length_append, List.length_map, List.length_map]
      have h1 := List.length_filter_le (fun w => !k.has w.who) (k.line.take j)
      have h2 : (k.line.take j).length ≤ k.line.length := by rw [List.length_take]; omega
      omega
    obtain ⟨out, hout⟩ : ∃ out, out = k.hold.map k.hold1 ++ ((k.line.take j).filter (fun w => !k.has w.who)).map One.wait1 := ⟨_, rfl⟩
    rw [← hout] at hol ⊢
    refine K.seq ?_
    refine K.region ?_
    refine KO.q rfl (q_lt rfl rfl) ?_
    refine KO.done ?_
    refine K.seq ?_
    refine K.dcond (s := 55) rfl (fun g55 => ?_) (fun g55 => ?_)
    · obtain ⟨e, he⟩ : ∃ e, k.line[j]? = some e := ⟨_, List.getElem?_eq_getElem (by omega)⟩
      have hm := filter_take_succ (fun w => !k.has w.who) he
      refine K.skip <| K.seq <| K.block <| K.seq ?_
      refine K.region ?_
      first | refine KO.q rfl (q_ix _ se_66 rfl rfl rfl isF (by repeat (first | exact List.Mem.head _ | apply List.Mem.tail)) rfl (by first | assumption | omega | exact (List.getElem?_eq_some_iff.1 (by assumption)).1 | (simp; omega))) ?_ | refine KO.q rfl (q_ix _ se_66 rfl rfl rfl isO (by repeat (first | exact List.Mem.head _ | apply List.Mem.tail)) rfl (by first | assumption | omega | exact (List.getElem?_eq_some_iff.1 (by assumption)).1 | (simp; omega))) ?_
      refine KO.q rfl (q_ldEN ck_100 rfl isO (by repeat (first | exact List.Mem.head _ | apply List.Mem.tail)) he) ?_
      refine KO.loud rfl (l_alloc zo_100) ?_
      rintro _ _ ⟨b9, rfl, rfl⟩
      refine KO.loudN rfl (l_storeAll ck_100 rfl rfl ⟨rfl, rfl⟩ (one_one _) (by repeat (first | exact Pick.here | apply Pick.there))) ?_
      rintro _ _ ⟨rfl, rfl⟩
      refine KO.done ?_
      refine K.seq ?_
      refine K.region ?_
      refine KO.q rfl (q_move rfl) ?_
      refine KO.q rfl (q_field fo_100_0 rfl) ?_
      refine KO.q rfl (q_load1D ck_3 rfl) ?_
      refine KO.loud rfl (OpL.callD rfl (h := lk_holds b q1 c1 q2 c2 k e.who (by omega))) ?_
      rintro _ _ ⟨_, ⟨rfl, rfl⟩, rfl⟩
      refine KO.q rfl (q_not rfl) ?_
      refine KO.done ?_
      refine K.bcond (s := 62) rfl (fun g62 => ?_) (fun g62 => ?_)
      · have hz : k.hold.map k.hold1 ++ ((k.line.take (j + 1)).filter (fun w => !k.has w.who)).map One.wait1 = out ++ [⟨e.who, 0, e.mode⟩] := by rw [hm, if_pos g62, List.map_append, ← List.append_assoc, ← hout]; rfl
        refine K.region ?_
        refine KO.q rfl (q_move rfl) ?_
        refine KO.q rfl (q_field fo_100_0 rfl) ?_
        refine KO.q rfl (q_load1D ck_3 rfl) ?_
        refine KO.q rfl (q_field fo_100_1 rfl) ?_
        refine KO.q rfl (q_load1D ck_3 rfl) ?_
        refine KO.q rfl (q_as_hold (q_build st_59 rfl (by repeat (first | exact Fill.nil | (apply Fill.cons; rfl; rfl; rfl) | exact SetN.nil | apply SetN.cons | exact SetAt.here | apply SetAt.there))) (by rfl)) ?_
        refine KO.loud rfl (l_slice1 sz_74_1 rfl rfl ⟨rfl, rfl, rfl⟩) ?_
        rintro _ _ ⟨b69, rfl, rfl⟩
        refine KO.loud rfl (l_append Kd.hold se_74 Tryz.underlying74 ⟨_, ze_59, rfl⟩ (by decide) rfl rfl (by repeat (first | exact Pick.here | apply Pick.there)) isP (by repeat (first | exact List.Mem.head _ | apply List.Mem.tail)) rfl rfl (by show (2 * (out.length + 1) + 768) * 24 ≤ _; omega)) ?_
        rintro _ _ ⟨pn, dn, rfl, rfl⟩
        refine KO.q rfl (q_assign rfl) ?_
        refine KO.done ?_
        refine K.inBlock ?_
        refine K.region ?_
        refine KO.q rfl (q_add rfl rfl (by first | omega | (simp; omega)) (by first | omega | (simp; omega))) ?_
        refine KO.q rfl (q_move rfl) ?_
        refine KO.done ?_
        exact K.weak (E' := [(54, .int .i64 ((j + 1 : Nat) : Int)), (53, .int .i64 k.line.length), (52, .slice q2 k.line.length c2), (3, .slice pn (k.hold.map k.hold1 ++ ((k.line.take (j + 1)).filter (fun w => !k.has w.who)).map One.wait1).length dn), (0, .pointer (some ⟨b, 0, none⟩))]) (by rw [hz]; exact (by repeat (first | exact Env.sub_nil _ | refine Env.sub_cons rfl ?_))) (fun w h => by rw [hz]; exact h.fitD) (ih2 ⟨(j + 1, pn, dn), by show j + 1 ≤ _; omega⟩ (by show k.line.length - (j + 1) < k.line.length - j; omega))
      · have hz : k.hold.map k.hold1 ++ ((k.line.take (j + 1)).filter (fun w => !k.has w.who)).map One.wait1 = out := by rw [hm, if_neg (by simp only [g62]; decide), List.append_nil, ← hout]
        refine K.skip <| K.inBlock ?_
        refine K.region ?_
        refine KO.q rfl (q_add rfl rfl (by first | omega | (simp; omega)) (by first | omega | (simp; omega))) ?_
        refine KO.q rfl (q_move rfl) ?_
        refine KO.done ?_
        exact K.weak (E' := [(54, .int .i64 ((j + 1 : Nat) : Int)), (53, .int .i64 k.line.length), (52, .slice q2 k.line.length c2), (3, .slice po (k.hold.map k.hold1 ++ ((k.line.take (j + 1)).filter (fun w => !k.has w.who)).map One.wait1).length co), (0, .pointer (some ⟨b, 0, none⟩))]) (by rw [hz]; exact (by repeat (first | exact Env.sub_nil _ | refine Env.sub_cons rfl ?_))) (fun w h => by rw [hz]; exact h.fitD) (ih2 ⟨(j + 1, po, co), by show j + 1 ≤ _; omega⟩ (by show k.line.length - (j + 1) < k.line.length - j; omega))
    · obtain rfl : j = k.line.length := by omega
      rw [List.take_length] at hout
      have hh : out = k.holds := hout
      subst hh
      refine K.exit rfl ?_
      refine K.seq ?_
      refine K.region ?_
      refine KO.q rfl (q_move rfl) ?_
      refine KO.q rfl (q_assign rfl) ?_
      refine KO.done ?_
      refine K.ret (fn := Tryz.f38) Tryz.func38 (fun a w hk hs => res1 Tryz.results38 hk rfl) (fun w hs => ?_)
      exact ⟨_, RowO Kd.hold 59 po co k.holds :: LkL b q1 c1 q2 c2 k, rfl, ⟨po, co, rfl, rfl⟩, hs.fitD⟩
end Go.Proofs.YtcpkcjabmookmaaGreat.L
/-! Walks: a lock: for whom somebody waits. -/
namespace Go.Proofs.YtcpkcjabmookmaaGreat.L
open Go Go.Proofs
attribute [local irreducible] pv fv pt fz RowF RowO rowP old pure_ elA
set_option maxRecDepth 100000
set_option linter.unusedSimpArgs false
set_option linter.unusedVariables false

def Lk.waitsH (k : Lk) (who m : Int) (l : List One) : List Int := (l.filter (fun h => decide (h.who ≠ who) && !fitsM m h.mode)).map One.who
def Lk.waitsR (k : Lk) (who : Int) : List Int := if at1 k.line who < 0 then [] else k.waitsH who (k.line.getD (at1 k.line who).toNat ⟨0, 0⟩).mode k.hold ++ (k.line.take (at1 k.line who).toNat).map One.who
def Lk.waits (k : Lk) (who : Int) : List Int := compactL ((k.waitsR who).mergeSort fun x y => decide (x ≤ y))
theorem Lk.waitsH_len (k : Lk) (who m : Int) (l : List One) : (k.waitsH who m l).length ≤ l.length := by
  unfold Lk.waitsH; rw [List.length_map]; exact List.length_filter_le _ _
theorem Lk.waitsH_succ (k : Lk) (who m : Int) {l : List One} {i : Nat} {x : One} (h : l[i]? = some x) : k.waitsH who m (l.take (i + 1)) = k.waitsH who m (l.take i) ++ if (decide (x.who ≠ who) && !fitsM m x.mode) = true then [x.who] else [] := by
  unfold Lk.waitsH
  rw [filter_take_succ _ h, List.map_append]
  split <;> rfl
theorem Lk.waits_len (k : Lk) (who : Int) : (k.waits who).length ≤ k.hold.length + k.line.length := by
  unfold Lk.waits
  refine Nat.le_trans (compactL_len _) ?_
  rw [List.length_mergeSort]
  unfold Lk.waitsR
  split
  · exact Nat.zero_le _
  · have h1 := k.waitsH_len who (k.line.getD (at1 k.line who).toNat ⟨0, 0⟩).mode k.hold
    rw [List.length_append, List.length_map, List.length_take]
    omega
--%call (*poste/grant.Lock).Waits := lk_Waits _ _ _ _ _ _ _ (by omega) !! ⟨_, ⟨p#, d#, rfl, rfl⟩, rfl⟩
set_option maxHeartbeats 1600000 in
theorem lk_Waits (b : Nat) (q1 : Option Addr) (c1 : Nat) (q2 : Option Addr) (c2 : Nat) (k : Lk) (who : Int) (hl : k.hold.length + k.line.length ≤ 1000000000) : Fn Tryz.prog 41 [.pointer (some ⟨b, 0, none⟩), .int .i64 who].toArray (LkL b q1 c1 q2 c2 k) (fun r post => ∃ po co, r = .slice po (k.waits who).length co ∧ post = RowO (Kd.int .i64) 3 po co (k.waits who) :: LkL b q1 c1 q2 c2 k) := by
  refine Fn.enter (N := 75) Tryz.func41 rfl Tryz.ntmps41 (by kernel_rfl) rfl (fun ρ L => ?_)
  refine K.seq ?_
  refine K.fact (fun w h => rowO_cap (e := 100) (k := Kd.one1) (p := q2) (cap := c2) (xs := k.line) (by repeat (first | exact List.Mem.head _ | apply List.Mem.tail)) w h) (fun hc2 => ?_)
  refine K.region ?_
  refine KO.q rfl (q_assign rfl) ?_
  refine KO.done ?_
  refine K.seq <| K.seq ?_
  refine K.region ?_
  refine KO.q rfl (q_move rfl) ?_
  refine KO.q rfl (q_pnil Tryz.underlying61 rfl rfl) ?_
  refine KO.done ?_
  refine K.no rfl ?_
  refine K.skip <| K.seq ?_
  refine K.region ?_
  refine KO.q rfl (q_move rfl) ?_
  refine KO.q rfl (q_nilCheck rfl) ?_
  refine KO.q rfl (q_field fo_68_1 rfl) ?_
  refine KO.q rfl (q_load1D ck_66 rfl) ?_
  refine KO.q rfl (q_move rfl) ?_
  refine KO.loud rfl (OpL.callD rfl (h := gr_find (RowO Kd.one1 100 q2 c2 k.line) q2 c2 k.line who isO (by omega))) ?_
  rintro _ _ ⟨_, ⟨rfl, rfl⟩, rfl⟩
  refine KO.q rfl (q_assign rfl) ?_
  refine KO.done ?_
  refine K.seq <| K.seq ?_
  refine K.region ?_
  refine KO.q rfl (q_move rfl) ?_
  refine KO.q rfl (q_lt rfl rfl) ?_
  refine KO.done ?_
  refine K.dcond (s := 20) rfl (fun g20 => ?_) (fun g20 => ?_)
  · have hr : k.waits who = [] := by unfold Lk.waits Lk.waitsR; rw [if_pos g20, List.mergeSort_nil]; rfl
    refine K.seq ?_
    refine K.region ?_
    refine KO.q rfl (q_assign rfl) ?_
    refine KO.done ?_
    refine K.ret (fn := Tryz.f41) Tryz.func41 (fun a w hk hs => res1 Tryz.results41 hk rfl) (fun w hs => ?_)
    rw [hr]
    exact ⟨_, RowO (Kd.int .i64) 3 none 0 [] :: LkL b q1 c1 q2 c2 k, rfl, ⟨none, 0, rfl, rfl⟩, (rowO_nil (k := Kd.int .i64) 3 hs).fitD⟩
  · obtain ⟨j, el, hje, hj, hw⟩ := at1_some (l := k.line) (who := who) (by omega)
    have hjl := (List.getElem?_eq_some_iff.1 hje).1
    have hR : k.waitsR who = k.waitsH who el.mode k.hold ++ (k.line.take j).map One.who := by unfold Lk.waitsR; rw [if_neg g20, hj, Int.toNat_natCast, getD_at hje]
    rw [hj]
    refine K.skip <| K.seq ?_
    refine K.region ?_
    refine KO.q rfl (q_assign rfl) ?_
    refine KO.done ?_
    refine K.seq <| K.seq ?_
    refine K.region ?_
    refine KO.q rfl (q_move rfl) ?_
    refine KO.q rfl (q_nilCheck rfl) ?_
    refine KO.q rfl (q_field fo_68_0 rfl) ?_
    refine KO.q rfl (q_load1D ck_66 rfl) ?_
    refine KO.q rfl (q_len Tryz.underlying66 rfl) ?_
    refine KO.q rfl (q_move rfl) ?_
    refine KO.done ?_
    refine K.block ?_
    refine K.rounds2 (ι := { s : Nat × Option Addr × Nat // s.1 ≤ k.hold.length }) (fun s => [(26, .int .i64 s.1.1), (25, .int .i64 k.hold.length), (24, .slice q1 k.hold.length c1), (6, .slice s.1.2.1 (k.waitsH who el.mode (k.hold.take s.1.1)).length s.1.2.2), (5, .int .i64 j), (0, .pointer (some ⟨b, 0, none⟩)), (1, .int .i64 who)]) (fun s => RowO (Kd.int .i64) 3 s.1.2.1 s.1.2.2 (k.waitsH who el.mode (k.hold.take s.1.1)) :: LkL b q1 c1 q2 c2 k ++ L) (fun s => k.hold.length - s.1.1) ⟨(0, none, 0), Nat.zero_le _⟩ (by repeat (first | exact Env.sub_nil _ | refine Env.sub_cons rfl ?_)) (fun w h => rowO_nil (k := Kd.int .i64) 3 (h.fit (M := LkL b q1 c1 q2 c2 k) (by repeat (first | exact Give.nil | (apply Give.perI; (repeat (first | exact List.Mem.head _ | apply List.Mem.tail))) | (apply Give.own; (repeat (first | exact Pick.here | apply Pick.there))))) (by repeat (first | exact Drop.refl | apply Drop.skip)))) (fun s ih => ?_)
    obtain ⟨⟨i, po, co⟩, hi⟩ := s
    dsimp only at hi ⊢
    obtain ⟨out, hout⟩ : ∃ out, out = k.waitsH who el.mode (k.hold.take i) := ⟨_, rfl⟩
    have hol : out.length ≤ 1000000000 := by
      rw [hout]
      have h1 := k.waitsH_len who el.mode (k.hold.take i)
      rw [List.length_take] at h1
      omega
    rw [← hout]
    refine K.seq ?_
    refine K.region ?_
    refine KO.q rfl (q_lt rfl rfl) ?_
    refine KO.done ?_
    refine K.seq ?_
    refine K.dcond (s := 27) rfl (fun g27 => ?_) (fun g27 => ?_)
    · obtain ⟨e, he⟩ : ∃ e, k.hold[i]? = some e := ⟨_, List.getElem?_eq_getElem (by omega)⟩
      have hm := k.waitsH_succ who el.mode he
      rw [← hout] at hm
      refine K.skip <| K.seq <| K.block <| K.seq ?_
      refine K.region ?_
      first | refine KO.q rfl (q_ix _ se_66 rfl rfl rfl isF (by repeat (first | exact List.Mem.head _ | apply List.Mem.tail)) rfl (by first | assumption | omega | exact (List.getElem?_eq_some_iff.1 (by assumption)).1 | (simp; omega))) ?_ | refine KO.q rfl (q_ix _ se_66 rfl rfl rfl isO (by repeat (first | exact List.Mem.head _ | apply List.Mem.tail)) rfl (by first | assumption | omega | exact (List.getElem?_eq_some_iff.1 (by assumption)).1 | (simp; omega))) ?_
      refine KO.q rfl (q_ldEN ck_100 rfl isO (by repeat (first | exact List.Mem.head _ | apply List.Mem.tail)) he) ?_
      refine KO.loud rfl (l_alloc zo_100) ?_
      rintro _ _ ⟨b8, rfl, rfl⟩
      refine KO.loudN rfl (l_storeAll ck_100 rfl rfl ⟨rfl, rfl⟩ (one_one _) (by repeat (first | exact Pick.here | apply Pick.there))) ?_
      rintro _ _ ⟨rfl, rfl⟩
      refine KO.done ?_
      refine K.seq ?_
      refine K.drawS [pv b 68 [.slice q1 k.hold.length c1, .slice q2 k.line.length c2], RowO Kd.one1 100 q2 c2 k.line, pv b8 100 e.cells] (fun _ h => h.subD) mixed ?_
      refine D.q 0 rfl (by kernel_rfl) (by kernel_rfl) (q_field fo_100_0 rfl) (fun _ h => h.subD) ?_
      refine D.q 1 rfl (by kernel_rfl) (by kernel_rfl) (q_load1D ck_3 rfl) (fun _ h => h.subD) ?_
      refine D.q 2 rfl (by kernel_rfl) (by kernel_rfl) (q_move rfl) (fun _ h => h.subD) ?_
      refine D.q 3 rfl (by kernel_rfl) (by kernel_rfl) (q_ne rfl rfl) (fun _ h => h.subD) ?_
      refine D.q 4 rfl (by kernel_rfl) (by kernel_rfl) (q_move rfl) (fun _ h => h.subD) ?_
      refine D.dsplit 34 rfl (fun g34 => ?_) (fun g34 => ?_)
      · refine D.q 5 rfl (by kernel_rfl) (by kernel_rfl) (q_move rfl) (fun _ h => h.subD) ?_
        refine D.q 6 rfl (by kernel_rfl) (by kernel_rfl) (q_nilCheck rfl) (fun _ h => h.subD) ?_
        refine D.q 7 rfl (by kernel_rfl) (by kernel_rfl) (q_field fo_68_1 rfl) (fun _ h => h.subD) ?_
        refine D.q 8 rfl (by kernel_rfl) (by kernel_rfl) (q_load1D ck_66 rfl) (fun _ h => h.subD) ?_
        refine D.q 9 rfl (by kernel_rfl) (by kernel_rfl) (q_move rfl) (fun _ h => h.subD) ?_
        refine D.q 10 rfl (by kernel_rfl) (by kernel_rfl) (q_ix j se_66 rfl rfl rfl isO (by repeat (first | exact List.Mem.head _ | apply List.Mem.tail)) rfl hjl) (fun _ h => h.subD) ?_
        refine D.q 11 rfl (by kernel_rfl) (by kernel_rfl) (q_fieldE fo_100_1 rfl) (fun _ h => h.subD) ?_
        refine D.q 12 rfl (by kernel_rfl) (by kernel_rfl) (q_ldE ck_3 rfl isO (by repeat (first | exact List.Mem.head _ | apply List.Mem.tail)) hje rfl) (fun _ h => h.subD) ?_
        refine D.q 13 rfl (by kernel_rfl) (by kernel_rfl) (q_field fo_100_1 rfl) (fun _ h => h.subD) ?_
        refine D.q 14 rfl (by kernel_rfl) (by kernel_rfl) (q_load1D ck_3 rfl) (fun _ h => h.subD) ?_
        refine D.all (rs := [15]) (by kernel_rfl) rfl (DAll.cons rfl (by kernel_rfl) (OpL.callD rfl (h := md_Fits _ _)) (.inr (by rintro _ _ ⟨_, ⟨rfl, rfl⟩, rfl⟩ w h; exact h.subD)) rfl ?_ DAll.nil)
        rintro _ _ ⟨_, ⟨rfl, rfl⟩, rfl⟩
        refine D.q 16 rfl (by kernel_rfl) (by kernel_rfl) (q_not rfl) (fun _ h => h.subD) ?_
        refine D.q 17 rfl (by kernel_rfl) (by kernel_rfl) (q_pickT rfl rfl) (fun _ h => h.subD) ?_
        refine D.done (by kernel_rfl) ?_
        refine K.bcond (s := 47) rfl (fun g47 => ?_) (fun g47 => ?_)
        · have hz : k.waitsH who el.mode (k.hold.take (i + 1)) = out ++ [e.who] := by rw [hm, if_pos (by rw [decide_eq_true (by assumption), Bool.true_and]; exact g47)]
          refine K.region ?_
          refine KO.q rfl (q_move rfl) ?_
          refine KO.q rfl (q_field fo_100_0 rfl) ?_
          refine KO.q rfl (q_load1D ck_3 rfl) ?_
          refine KO.loud rfl (l_slice sz_39_1 rfl (by repeat (first | exact Fill.nil | (apply Fill.cons; rfl; rfl; rfl) | exact SetN.nil | apply SetN.cons | exact SetAt.here | apply SetAt.there))) ?_
          rintro _ _ ⟨b51, rfl, rfl⟩
          refine KO.loud rfl (l_append (Kd.int .i64) (ys := [e.who]) se_39 Tryz.underlying39 ⟨_, ze_3, rfl⟩ (by decide) rfl rfl (by repeat (first | exact Pick.here | apply Pick.there)) isP (by repeat (first | exact List.Mem.head _ | apply List.Mem.tail)) rfl rfl (by show (2 * (out.length + 1) + 768) * 8 ≤ _; omega)) ?_
          rintro _ _ ⟨pn, dn, rfl, rfl⟩
          refine KO.q rfl (q_assign rfl) ?_
          refine KO.done ?_
          refine K.inBlock ?_
          refine K.region ?_
          refine KO.q rfl (q_add rfl rfl (by first | omega | (simp; omega)) (by first | omega | (simp; omega))) ?_
          refine KO.q rfl (q_move rfl) ?_
          refine KO.done ?_
          exact K.weak (E' := [(26, .int .i64 ((i + 1 : Nat) : Int)), (25, .int .i64 k.hold.length), (24, .slice q1 k.hold.length c1), (6, .slice pn (k.waitsH who el.mode (k.hold.take (i + 1))).length dn), (5, .int .i64 j), (0, .pointer (some ⟨b, 0, none⟩)), (1, .int .i64 who)]) (by rw [hz]; exact (by repeat (first | exact Env.sub_nil _ | refine Env.sub_cons rfl ?_))) (fun w h => by rw [hz]; exact h.fitD) (ih ⟨(i + 1, pn, dn), by show i + 1 ≤ _; omega⟩ (by show k.hold.length - (i + 1) < k.hold.length - i; omega))
        · have hz : k.waitsH who el.mode (k.hold.take (i + 1)) = out := by rw [hm, if_neg (by rw [g47, Bool.and_false]; decide), List.append_nil]
          refine K.skip <| K.inBlock ?_
          refine K.region ?_
          refine KO.q rfl (q_add rfl rfl (by first | omega | (simp; omega)) (by first | omega | (simp; omega))) ?_
          refine KO.q rfl (q_move rfl) ?_
          refine KO.done ?_
          exact K.weak (E' := [(26, .int .i64 ((i + 1 : Nat) : Int)), (25, .int .i64 k.hold.length), (24, .slice q1 k.hold.length c1), (6, .slice po (k.waitsH who el.mode (k.hold.take (i + 1))).length co), (5, .int .i64 j), (0, .pointer (some ⟨b, 0, none⟩)), (1, .int .i64 who)]) (by rw [hz]; exact (by repeat (first | exact Env.sub_nil _ | refine Env.sub_cons rfl ?_))) (fun w h => by rw [hz]; exact h.fitD) (ih ⟨(i + 1, po, co), by show i + 1 ≤ _; omega⟩ (by show k.hold.length - (i + 1) < k.hold.length - i; omega))
      · have hz : k.waitsH who el.mode (k.hold.take (i + 1)) = out := by rw [hm, if_neg (by rw [decide_eq_false g34, Bool.false_and]; decide), List.append_nil]
        refine D.skip 5 rfl (by kernel_rfl) (by kernel_rfl) (fun _ h => h.subD) ?_
        refine D.skip 6 rfl (by kernel_rfl) (by kernel_rfl) (fun _ h => h.subD) ?_
        refine D.skip 7 rfl (by kernel_rfl) (by kernel_rfl) (fun _ h => h.subD) ?_
        refine D.skip 8 rfl (by kernel_rfl) (by kernel_rfl) (fun _ h => h.subD) ?_
        refine D.skip 9 rfl (by kernel_rfl) (by kernel_rfl) (fun _ h => h.subD) ?_
        refine D.skip 10 rfl (by kernel_rfl) (by kernel_rfl) (fun _ h => h.subD) ?_
        refine D.skip 11 rfl (by kernel_rfl) (by kernel_rfl) (fun _ h => h.subD) ?_
        refine D.skip 12 rfl (by kernel_rfl) (by kernel_rfl) (fun _ h => h.subD) ?_
        refine D.skip 13 rfl (by kernel_rfl) (by kernel_rfl) (fun _ h => h.subD) ?_
        refine D.skip 14 rfl (by kernel_rfl) (by kernel_rfl) (fun _ h => h.subD) ?_
        refine D.skip 15 rfl (by kernel_rfl) (by kernel_rfl) (fun _ h => h.subD) ?_
        refine D.skip 16 rfl (by kernel_rfl) (by kernel_rfl) (fun _ h => h.subD) ?_
        refine D.q 17 rfl (by kernel_rfl) (by kernel_rfl) (q_pickF rfl rfl) (fun _ h => h.subD) ?_
        refine D.done (by kernel_rfl) ?_
        refine K.no rfl ?_
        refine K.skip <| K.inBlock ?_
        refine K.region ?_
        refine KO.q rfl (q_add rfl rfl (by first | omega | (simp; omega)) (by first | omega | (simp; omega))) ?_
        refine KO.q rfl (q_move rfl) ?_
        refine KO.done ?_
        exact K.weak (E' := [(26, .int .i64 ((i + 1 : Nat) : Int)), (25, .int .i64 k.hold.length), (24, .slice q1 k.hold.length c1), (6, .slice po (k.waitsH who el.mode (k.hold.take (i + 1))).length co), (5, .int .i64 j), (0, .pointer (some ⟨b, 0, none⟩)), (1, .int .i64 who)]) (by rw [hz]; exact (by repeat (first | exact Env.sub_nil _ | refine Env.sub_cons rfl ?_))) (fun w h => by rw [hz]; exact h.fitD) (ih ⟨(i + 1, po, co), by show i + 1 ≤ _; omega⟩ (by show k.hold.length - (i + 1) < k.hold.length - i; omega))
    · obtain rfl : i = k.hold.length := by omega
      rw [List.take_length] at hout
      clear ih
      refine K.exit rfl ?_
      refine K.seq <| K.seq ?_
      refine K.region ?_
      refine KO.q rfl (q_move rfl) ?_
      refine KO.q rfl (q_nilCheck rfl) ?_
      refine KO.q rfl (q_field fo_68_1 rfl) ?_
      refine KO.q rfl (q_load1D ck_66 rfl) ?_
      refine KO.q rfl (q_move rfl) ?_
      refine KO.q rfl (q_cutH se_66 rfl rfl (by first | omega | (simp; omega)) (by first | omega | (simp; omega))) ?_
      refine KO.q rfl (q_len Tryz.underlying66 rfl) ?_
      refine KO.q rfl (q_move rfl) ?_
      refine KO.done ?_
      refine K.block ?_
      refine K.rounds2 (ι := { s : Nat × Option Addr × Nat // s.1 ≤ j }) (fun s => [(61, .int .i64 s.1.1), (60, .int .i64 j), (59, .slice q2 j c2), (6, .slice s.1.2.1 (out ++ (k.line.take s.1.1).map One.who).length s.1.2.2), (0, .pointer (some ⟨b, 0, none⟩))]) (fun s => RowO (Kd.int .i64) 3 s.1.2.1 s.1.2.2 (out ++ (k.line.take s.1.1).map One.who) :: LkL b q1 c1 q2 c2 k ++ L) (fun s => j - s.1.1) ⟨(0, po, co), Nat.zero_le _⟩ (by rw [List.take_zero, List.map_nil, List.append_nil]; exact (by repeat (first | exact Env.sub_nil _ | refine Env.sub_cons rfl ?_))) (fun w h => by rw [List.take_zero, List.map_nil, List.append_nil]; exact h.fitD) (fun s ih2 => ?_)
      obtain ⟨⟨i, po, co⟩, hi⟩ := s
      dsimp only at hi ⊢
      obtain ⟨out2, hout2⟩ : ∃ out2, out2 = out ++ (k.line.take i).map One.who := ⟨_, rfl⟩
      have hol2 : out2.length ≤ 2000000000 := by
        rw [hout2, List.length_append, List.length_map, List.length_take]
        omega
      rw [← hout2]
      refine K.seq ?_
      refine K.region ?_
      refine KO.q rfl (q_lt rfl rfl) ?_
      refine KO.done ?_
      refine K.seq ?_
      refine K.dcond (s := 62) rfl (fun g62 => ?_) (fun g62 => ?_)
      · obtain ⟨e, he⟩ : ∃ e, k.line[i]? = some e := ⟨_, List.getElem?_eq_getElem (by omega)⟩
        have heT : (k.line.take j)[i]? = some e := by rw [List.getElem?_take_of_lt (by omega)]; exact he
        have hz : out ++ (k.line.take (i + 1)).map One.who = out2 ++ [e.who] := by rw [map_take_succ _ he, ← List.append_assoc, ← hout2]
        refine K.skip <| K.seq <| K.block <| K.seq ?_
        refine K.region ?_
        refine KO.q rfl (q_ix (xs := k.line.take j) i se_66 rfl rfl rfl (isRow_take isO j) (by repeat (first | exact List.Mem.head _ | apply List.Mem.tail)) (by rw [List.length_take]; omega) (by rw [List.length_take]; omega)) ?_
        refine KO.q rfl (q_ldEN (xs := k.line.take j) ck_100 rfl (isRow_take isO j) (by repeat (first | exact List.Mem.head _ | apply List.Mem.tail)) heT) ?_
        refine KO.loud rfl (l_alloc zo_100) ?_
        rintro _ _ ⟨b10, rfl, rfl⟩
        refine KO.loudN rfl (l_storeAll ck_100 rfl rfl ⟨rfl, rfl⟩ (one_one _) (by repeat (first | exact Pick.here | apply Pick.there))) ?_
        rintro _ _ ⟨rfl, rfl⟩
        refine KO.done ?_
        refine K.region ?_
        refine KO.q rfl (q_move rfl) ?_
        refine KO.q rfl (q_field fo_100_0 rfl) ?_
        refine KO.q rfl (q_load1D ck_3 rfl) ?_
        refine KO.loud rfl (l_slice sz_39_1 rfl (by repeat (first | exact Fill.nil | (apply Fill.cons; rfl; rfl; rfl) | exact SetN.nil | apply SetN.cons | exact SetAt.here | apply SetAt.there))) ?_
        rintro _ _ ⟨b68, rfl, rfl⟩
        refine KO.loud rfl (l_append (Kd.int .i64) (ys := [e.who]) se_39 Tryz.underlying39 ⟨_, ze_3, rfl⟩ (by decide) rfl rfl (by repeat (first | exact Pick.here | apply Pick.there)) isP (by repeat (first | exact List.Mem.head _ | apply List.Mem.tail)) rfl rfl (by show (2 * (out2.length + 1) + 768) * 8 ≤ _; omega)) ?_
        rintro _ _ ⟨pn, dn, rfl, rfl⟩
        refine KO.q rfl (q_assign rfl) ?_
        refine KO.done ?_
        refine K.inBlock ?_
        refine K.region ?_
        refine KO.q rfl (q_add rfl rfl (by first | omega | (simp; omega)) (by first | omega | (simp; omega))) ?_
        refine KO.q rfl (q_move rfl) ?_
        refine KO.done ?_
        exact K.weak (E' := [(61, .int .i64 ((i + 1 : Nat) : Int)), (60, .int .i64 j), (59, .slice q2 j c2), (6, .slice pn (out ++ (k.line.take (i + 1)).map One.who).length dn), (0, .pointer (some ⟨b, 0, none⟩))]) (by rw [hz]; exact (by repeat (first | exact Env.sub_nil _ | refine Env.sub_cons rfl ?_))) (fun w h => by rw [hz]; exact h.fitD) (ih2 ⟨(i + 1, pn, dn), by show i + 1 ≤ _; omega⟩ (by show j - (i + 1) < j - i; omega))
      · obtain rfl : i = j := by omega
        have hR2 : k.waitsR who = out2 := by rw [hR, hout2, hout]
        refine K.fact (fun w h => rowO_cap (e := 3) (k := Kd.int .i64) (p := po) (cap := co) (xs := out2) (by repeat (first | exact List.Mem.head _ | apply List.Mem.tail)) w h) (fun hc3 => ?_)
        have hms : (out2.mergeSort fun x y => decide (x ≤ y)).length = out2.length := List.length_mergeSort _
        refine K.exit rfl ?_
        refine K.seq ?_
        refine K.region ?_
        refine KO.q rfl (q_move rfl) ?_
        refine KO.loud rfl (OpL.callD rfl (h := so_Sort 3 po co out2 (by omega))) ?_
        rintro _ _ ⟨_, ⟨rfl, rfl⟩, rfl⟩
        rw [← hms] at hc3
        rw [← hms]
        refine KO.done ?_
        refine K.seq ?_
        refine K.region ?_
        refine KO.q rfl (q_move rfl) ?_
        refine KO.loud rfl (OpL.callD rfl (h := cpt_int po co (out2.mergeSort fun x y => decide (x ≤ y)) hc3 (by omega))) ?_
        rintro _ _ ⟨_, ⟨rfl, rfl⟩, rfl⟩
        refine KO.q rfl (q_assign rfl) ?_
        refine KO.done ?_
        refine K.ret (fn := Tryz.f41) Tryz.func41 (fun a w hk hs => res1 Tryz.results41 hk rfl) (fun w hs => ?_)
        exact ⟨_, RowO (Kd.int .i64) 3 po co (k.waits who) :: LkL b q1 c1 q2 c2 k, rfl, ⟨po, co, by unfold Lk.waits; rw [hR2], rfl⟩, by unfold Lk.waits; rw [hR2]; exact hs.fitD⟩
end Go.Proofs.YtcpkcjabmookmaaGreat.L
