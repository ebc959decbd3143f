/- Walks: a lock: freeing. -/
import Derived.Test.YtfpkeanimkgpaaaG8
namespace Go.Proofs.Ytfpkeanimkgpaaa.L
open Go Go.Proofs
attribute [local irreducible] pv fv pt fz RowF RowO rowP old pure_ elA
set_option maxRecDepth 100000
set_option linter.unusedSimpArgs false
set_option linter.unusedVariables false

def Lk.without (k : Lk) (who : Int) : Lk := ⟨k.hold.filter (fun x => !decide (x.who = who)), k.line.filter (fun x => !decide (x.who = who))⟩
def pump : List One → List One → List Int × Lk
  | hold, [] => ([], ⟨hold, []⟩)
  | hold, x :: l => if (Lk.mk hold []).fits x = true then (x.who :: (pump ((Lk.mk hold []).grant x).hold l).1, (pump ((Lk.mk hold []).grant x).hold l).2) else ([], ⟨hold, x :: l⟩)
def Lk.pump (k : Lk) : List Int × Lk := L.pump k.hold k.line
def Lk.drop (k : Lk) (who : Int) : List Int × Lk := (k.without who).pump
theorem Lk.fits_line (h l : List One) (x : One) : (Lk.mk h l).fits x = (Lk.mk h []).fits x := rfl
theorem Lk.grant_line (h l : List One) (x : One) : (Lk.mk h l).grant x = ⟨((Lk.mk h []).grant x).hold, l⟩ := by unfold Lk.grant; split <;> rfl
theorem Lk.grant_len (k : Lk) (x : One) : (k.grant x).hold.length ≤ k.hold.length + 1 := by
  unfold Lk.grant
  split
  · show (k.hold.set _ _).length ≤ _; rw [List.length_set]; omega
  · show (k.hold ++ [x]).length ≤ _; rw [List.length_append]; exact Nat.le_refl _
theorem Lk.grant_same (k : Lk) (x : One) : (k.grant x).line = k.line := by unfold Lk.grant; split <;> rfl
theorem pump_go {k : Lk} {x : One} {l : List One} (hl : k.line = x :: l) (hf : k.fits x = true) : k.pump = (x.who :: (Lk.mk (k.grant x).hold l).pump.1, (Lk.mk (k.grant x).hold l).pump.2) := by
  obtain ⟨h, l'⟩ := k
  simp only at hl
  subst hl
  rw [Lk.grant_line]
  show L.pump h (x :: l) = _
  unfold L.pump
  rw [if_pos (by rw [← Lk.fits_line h (x :: l)]; exact hf)]
  rfl
theorem pump_stop {k : Lk} (hf : ∀ x, k.line[0]? = some x → k.fits x = false) : k.pump = ([], k) := by
  obtain ⟨h, l⟩ := k
  cases l with
  | nil => rfl
  | cons x l =>
    show L.pump h (x :: l) = _
    unfold L.pump
    rw [if_neg (by have := hf x rfl; rw [Lk.fits_line] at this; simp [this])]
theorem gr_drop1 (b : Nat) (who : Int) (x : One) : Fn Try.prog 64 [.agg x.cells.toArray, .pointer (some ⟨b, 0, none⟩)].toArray [pv b 3 [.int .i64 who]] (fun v post => v = .bool (decide (x.who = who)) ∧ post = [pv b 3 [.int .i64 who]]) := by
  refine Fn.enter (N := 8) Try.func64 rfl Try.ntmps64 (by kernel_rfl) rfl (fun ρ L => ?_)
  refine K.seq ?_
  refine K.region ?_
  refine KO.loud rfl (l_box rfl rfl) ?_
  rintro _ _ ⟨b2, rfl, rfl⟩
  refine KO.q rfl (q_assign rfl) ?_
  refine KO.done ?_
  refine K.seq ?_
  refine K.region ?_
  refine KO.q rfl (q_field fo_94_0 rfl) ?_
  refine KO.q rfl (q_load1D ck_3 rfl) ?_
  refine KO.q rfl (q_load1D ck_3 rfl) ?_
  refine KO.q rfl (q_eq rfl rfl) ?_
  refine KO.q rfl (q_assign rfl) ?_
  refine KO.done ?_
  refine K.ret (fn := Try.f64) Try.func64 (fun a w hk hs => res1 Try.results64 hk rfl) (fun w hs => ?_)
  exact ⟨_, [pv b 3 [.int .i64 who]], rfl, ⟨rfl, rfl⟩, hs.fitD⟩
structure DropS where
  k : Lk
  out : List Int
  q1 : Option Addr
  c1 : Nat
  q2 : Option Addr
  c2 : Nat
  po : Option Addr
  co : Nat
--%call (*poste/grant.Lock).Drop := lk_Drop _ _ _ _ _ _ _ (by omega) !! ⟨_, ⟨q#, c#, p#, d#, r#, e#, rfl, rfl⟩, rfl⟩
set_option maxHeartbeats 1600000 in
theorem lk_Drop (b : Nat) (q1 : Option Addr) (c1 : Nat) (q2 : Option Addr) (c2 : Nat) (k : Lk) (who : Int) (hl : k.hold.length + k.line.length ≤ 1000000000) : Fn Try.prog 30 [.pointer (some ⟨b, 0, none⟩), .int .i64 who].toArray (LkL b q1 c1 q2 c2 k) (fun r post => ∃ q1' c1' q2' c2' po co, r = .slice po (k.drop who).1.length co ∧ post = RowO (Kd.int .i64) 3 po co (k.drop who).1 :: LkL b q1' c1' q2' c2' (k.drop who).2) := by
  refine Fn.enter (N := 71) Try.func30 rfl Try.ntmps30 (by kernel_rfl) rfl (fun ρ L => ?_)
  refine K.seq ?_
  refine K.fact (fun w h => rowO_cap (e := 94) (k := Kd.one1) (p := q1) (cap := c1) (xs := k.hold) (by repeat (first | exact List.Mem.head _ | apply List.Mem.tail)) w h) (fun hc1 => ?_)
  refine K.fact (fun w h => rowO_cap (e := 94) (k := Kd.one1) (p := q2) (cap := c2) (xs := k.line) (by repeat (first | exact List.Mem.head _ | apply List.Mem.tail)) w h) (fun hc2 => ?_)
  have hw : (k.without who).hold.length + (k.without who).line.length ≤ 1000000000 ∧ ([] : List Int).length + (k.without who).line.length ≤ 1000000000 := by
    have h1 : (k.without who).hold.length ≤ k.hold.length := List.length_filter_le _ _
    have h2 : (k.without who).line.length ≤ k.line.length := List.length_filter_le _ _
    exact ⟨by omega, by simp only [List.length_nil]; omega⟩
  refine K.region ?_
  refine KO.loud rfl (l_box rfl rfl) ?_
  rintro _ _ ⟨b3, rfl, rfl⟩
  refine KO.q rfl (q_assign rfl) ?_
  refine KO.done ?_
  refine K.seq <| K.seq ?_
  refine K.region ?_
  refine KO.q rfl (q_move rfl) ?_
  refine KO.q rfl (q_pnil Try.underlying45 rfl rfl) ?_
  refine KO.done ?_
  refine K.no rfl ?_
  refine K.skip <| K.seq ?_
  refine K.region ?_
  refine KO.q rfl (q_func rfl rfl) ?_
  refine KO.q rfl (q_assign rfl) ?_
  refine KO.done ?_
  refine K.seq ?_
  refine K.region ?_
  refine KO.q rfl (q_move rfl) ?_
  refine KO.q rfl (q_move rfl) ?_
  refine KO.q rfl (q_nilCheck rfl) ?_
  refine KO.q rfl (q_field fo_48_0 rfl) ?_
  refine KO.q rfl (q_load1D ck_46 rfl) ?_
  refine KO.q rfl (q_move rfl) ?_
  refine KO.loud rfl (OpL.callD rfl (h := delf_one (pv b3 3 [.int .i64 who]) q1 c1 k.hold 64 [.pointer (some ⟨b3, 0, none⟩)] (fun x => decide (x.who = who)) hc1 (by omega) (fun x _ => gr_drop1 b3 who x))) ?_
  rintro _ _ ⟨_, ⟨rfl, rfl⟩, rfl⟩
  refine KO.q rfl (q_nilCheck rfl) ?_
  refine KO.q rfl (q_field fo_48_0 rfl) ?_
  refine KO.loudN rfl (l_store1 ck_46 rfl rfl rfl (by repeat (first | exact Pick.here | apply Pick.there)) (by repeat (first | exact SetAt.here | apply SetAt.there))) ?_
  rintro _ _ ⟨rfl, rfl⟩
  refine KO.done ?_
  refine K.seq ?_
  refine K.region ?_
  refine KO.q rfl (q_move rfl) ?_
  refine KO.q rfl (q_move rfl) ?_
  refine KO.q rfl (q_nilCheck rfl) ?_
  refine KO.q rfl (q_field fo_48_1 rfl) ?_
  refine KO.q rfl (q_load1D ck_46 rfl) ?_
  refine KO.q rfl (q_move rfl) ?_
  refine KO.loud rfl (OpL.callD rfl (h := delf_one (pv b3 3 [.int .i64 who]) q2 c2 k.line 64 [.pointer (some ⟨b3, 0, none⟩)] (fun x => decide (x.who = who)) hc2 (by omega) (fun x _ => gr_drop1 b3 who x))) ?_
  rintro _ _ ⟨_, ⟨rfl, rfl⟩, rfl⟩
  refine KO.q rfl (q_nilCheck rfl) ?_
  refine KO.q rfl (q_field fo_48_1 rfl) ?_
  refine KO.loudN rfl (l_store1 ck_46 rfl rfl rfl (by repeat (first | exact Pick.here | apply Pick.there)) (by repeat (first | exact SetAt.here | apply SetAt.there))) ?_
  rintro _ _ ⟨rfl, rfl⟩
  refine KO.done ?_
  refine K.seq ?_
  refine K.region ?_
  refine KO.q rfl (q_assign rfl) ?_
  refine KO.done ?_
  refine K.seq <| K.block ?_
  refine K.rounds2 (ι := { s : DropS // k.drop who = (s.out ++ s.k.pump.1, s.k.pump.2) ∧ s.k.hold.length + s.k.line.length ≤ 1000000000 ∧ s.out.length + s.k.line.length ≤ 1000000000 }) (fun s => [(6, .slice s.1.po s.1.out.length s.1.co), (0, .pointer (some ⟨b, 0, none⟩))]) (fun s => RowO (Kd.int .i64) 3 s.1.po s.1.co s.1.out :: LkL b s.1.q1 s.1.c1 s.1.q2 s.1.c2 s.1.k ++ L) (fun s => s.1.k.line.length) ⟨⟨k.without who, [], q1, c1, q2, c2, none, 0⟩, rfl, hw.1, hw.2⟩ (by repeat (first | exact Env.sub_nil _ | refine Env.sub_cons rfl ?_)) (fun w h => rowO_nil (k := Kd.int .i64) 3 (h.fit (M := LkL b q1 c1 q2 c2 (k.without who)) (by repeat (first | exact Give.nil | (apply Give.perI; (repeat (first | exact List.Mem.head _ | apply List.Mem.tail))) | (apply Give.own; (repeat (first | exact Pick.here | apply Pick.there))))) (by repeat (first | exact Drop.refl | apply Drop.skip)))) (fun s ih => ?_)
  obtain ⟨⟨⟨H0, l0⟩, out, q1, c1, q2, c2, po, co⟩, hd, hn, hn2⟩ := s
  dsimp only at hd hn hn2 ⊢
  refine K.fact (fun w h => rowO_cap (e := 94) (k := Kd.one1) (p := q2) (cap := c2) (xs := l0) (by repeat (first | exact List.Mem.head _ | apply List.Mem.tail)) w h) (fun hc2 => ?_)
  refine K.seq <| K.seq ?_
  refine K.region ?_
  refine KO.q rfl (q_move rfl) ?_
  refine KO.q rfl (q_nilCheck rfl) ?_
  refine KO.q rfl (q_field fo_48_1 rfl) ?_
  refine KO.q rfl (q_load1D ck_46 rfl) ?_
  refine KO.q rfl (q_len Try.underlying46 rfl) ?_
  refine KO.q rfl (q_gt rfl rfl) ?_
  refine KO.q rfl (q_move rfl) ?_
  refine KO.dsplit 34 rfl (fun g34 => ?_) (fun g34 => ?_)
  · rcases l0 with _ | ⟨x, l⟩
    · exact absurd g34 (by simp)
    simp only [List.length_cons] at hn hn2 hc2
    refine KO.q rfl (q_move rfl) ?_
    refine KO.q rfl (q_move rfl) ?_
    refine KO.q rfl (q_nilCheck rfl) ?_
    refine KO.q rfl (q_field fo_48_1 rfl) ?_
    refine KO.q rfl (q_load1D ck_46 rfl) ?_
    refine KO.q rfl (q_ix 0 se_46 rfl rfl rfl isO (by repeat (first | exact List.Mem.head _ | apply List.Mem.tail)) rfl (Nat.succ_pos _)) ?_
    refine KO.q rfl (q_ldEN (el := x) ck_94 rfl isO (by repeat (first | exact List.Mem.head _ | apply List.Mem.tail)) rfl) ?_
    refine KO.loud rfl (OpL.callD rfl (h := lk_fits b q1 c1 q2 c2 ⟨H0, x :: l⟩ x (by show H0.length ≤ _; omega))) ?_
    rintro _ _ ⟨_, ⟨rfl, rfl⟩, rfl⟩
    refine KO.q rfl (q_pickT rfl rfl) ?_
    refine KO.done ?_
    refine K.bcond (s := 43) rfl (fun g43 => ?_) (fun g43 => ?_)
    · refine K.skip <| K.block <| K.seq ?_
      refine K.region ?_
      refine KO.q rfl (q_move rfl) ?_
      refine KO.q rfl (q_move rfl) ?_
      refine KO.q rfl (q_nilCheck rfl) ?_
      refine KO.q rfl (q_field fo_48_1 rfl) ?_
      refine KO.q rfl (q_load1D ck_46 rfl) ?_
      refine KO.q rfl (q_ix 0 se_46 rfl rfl rfl isO (by repeat (first | exact List.Mem.head _ | apply List.Mem.tail)) rfl (Nat.succ_pos _)) ?_
      refine KO.q rfl (q_ldEN (el := x) ck_94 rfl isO (by repeat (first | exact List.Mem.head _ | apply List.Mem.tail)) rfl) ?_
      refine KO.loud rfl (OpL.callD rfl (h := lk_grant b q1 c1 q2 c2 ⟨H0, x :: l⟩ x (by show H0.length ≤ _; omega))) ?_
      rintro _ _ ⟨_, ⟨qn, cn, rfl, rfl⟩, rfl⟩
      obtain ⟨H, hH⟩ : ∃ H, (Lk.mk H0 (x :: l)).grant x = ⟨H, x :: l⟩ := ⟨_, Lk.grant_line _ _ _⟩
      rw [hH]
      refine KO.done ?_
      refine K.seq ?_
      refine K.region ?_
      refine KO.q rfl (q_move rfl) ?_
      refine KO.q rfl (q_move rfl) ?_
      refine KO.q rfl (q_nilCheck rfl) ?_
      refine KO.q rfl (q_field fo_48_1 rfl) ?_
      refine KO.q rfl (q_load1D ck_46 rfl) ?_
      refine KO.q rfl (q_ix 0 se_46 rfl rfl rfl isO (by repeat (first | exact List.Mem.head _ | apply List.Mem.tail)) rfl (Nat.succ_pos _)) ?_
      refine KO.q rfl (q_fieldE fo_94_0 rfl) ?_
      refine KO.q rfl (q_ldE (el := x) ck_3 rfl isO (by repeat (first | exact List.Mem.head _ | apply List.Mem.tail)) rfl rfl) ?_
      refine KO.loud rfl (l_slice sz_36_1 rfl (by repeat (first | exact Fill.nil | (apply Fill.cons; rfl; rfl; rfl) | exact SetN.nil | apply SetN.cons | exact SetAt.here | apply SetAt.there))) ?_
      rintro _ _ ⟨b60, rfl, rfl⟩
      refine KO.loud rfl (l_append (Kd.int .i64) (ys := [x.who]) se_36 Try.underlying36 ⟨_, ze_3, rfl⟩ (by decide) rfl rfl (by repeat (first | exact Pick.here | apply Pick.there)) isP (by repeat (first | exact List.Mem.head _ | apply List.Mem.tail)) rfl rfl (by show (2 * (out.length + 1) + 768) * 8 ≤ _; omega)) ?_
      rintro _ _ ⟨pn, dn, rfl, rfl⟩
      refine KO.q rfl (q_assign rfl) ?_
      refine KO.done ?_
      refine K.region ?_
      refine KO.q rfl (q_move rfl) ?_
      refine KO.q rfl (q_move rfl) ?_
      refine KO.q rfl (q_nilCheck rfl) ?_
      refine KO.q rfl (q_field fo_48_1 rfl) ?_
      refine KO.q rfl (q_load1D ck_46 rfl) ?_
      refine KO.loud rfl (OpL.callD rfl (h := del_one q2 c2 (x :: l) 0 (Nat.succ_pos _) hc2 (by show l.length + 1 ≤ _; omega))) ?_
      rintro _ _ ⟨_, ⟨rfl, rfl⟩, rfl⟩
      refine KO.q rfl (q_nilCheck rfl) ?_
      refine KO.q rfl (q_field fo_48_1 rfl) ?_
      refine KO.loudN rfl (l_store1 ck_46 rfl rfl rfl (by repeat (first | exact Pick.here | apply Pick.there)) (by repeat (first | exact SetAt.here | apply SetAt.there))) ?_
      rintro _ _ ⟨rfl, rfl⟩
      refine KO.done ?_
      refine K.inBlock ?_
      exact K.weak (by repeat (first | exact Env.sub_nil _ | refine Env.sub_cons rfl ?_)) (fun w h => h.fitD) (ih ⟨⟨⟨H, l⟩, out ++ [x.who], qn, cn, q2, c2, pn, dn⟩, by
        show k.drop who = _
        have hp := pump_go (k := ⟨H0, x :: l⟩) rfl g43
        rw [hH] at hp
        rw [hd, hp, List.append_assoc]
        rfl, by
        have := Lk.grant_len ⟨H0, x :: l⟩ x
        rw [hH] at this
        show H.length + l.length ≤ _
        have : H.length ≤ H0.length + 1 := this
        omega, by show (out ++ [x.who]).length + l.length ≤ _; rw [List.length_append]; show out.length + 1 + l.length ≤ _; omega⟩ (Nat.lt_succ_self _))
    · refine K.exit rfl ?_
      refine K.seq ?_
      have hr : k.drop who = (out, ⟨H0, x :: l⟩) := by
        rw [hd, pump_stop (by intro y hy; cases hy; exact g43), List.append_nil]
      rw [hr]
      refine K.region ?_
      refine KO.q rfl (q_move rfl) ?_
      refine KO.q rfl (q_assign rfl) ?_
      refine KO.done ?_
      refine K.ret (fn := Try.f30) Try.func30 (fun a w hk hs => res1 Try.results30 hk rfl) (fun w hs => ?_)
      exact ⟨_, RowO (Kd.int .i64) 3 po co out :: LkL b q1 c1 q2 c2 ⟨H0, x :: l⟩, rfl, ⟨q1, c1, q2, c2, po, co, rfl, rfl⟩, hs.fitD⟩
  · rcases l0 with _ | ⟨x, l⟩
    rotate_left
    · exact absurd g34 (by simp only [List.length_cons]; omega)
    refine KO.skip rfl ?_
    refine KO.skip rfl ?_
    refine KO.skip rfl ?_
    refine KO.skip rfl ?_
    refine KO.skip rfl ?_
    refine KO.skip rfl ?_
    refine KO.skip rfl ?_
    refine KO.skip rfl ?_
    refine KO.q rfl (q_pickF rfl rfl) ?_
    refine KO.done ?_
    refine K.no rfl ?_
    refine K.exit rfl ?_
    refine K.seq ?_
    have hr : k.drop who = (out, ⟨H0, []⟩) := by
      rw [hd, pump_stop (by intro y hy; cases hy), List.append_nil]
    rw [hr]
    refine K.region ?_
    refine KO.q rfl (q_move rfl) ?_
    refine KO.q rfl (q_assign rfl) ?_
    refine KO.done ?_
    refine K.ret (fn := Try.f30) Try.func30 (fun a w hk hs => res1 Try.results30 hk rfl) (fun w hs => ?_)
    exact ⟨_, RowO (Kd.int .i64) 3 po co out :: LkL b q1 c1 q2 c2 ⟨H0, []⟩, rfl, ⟨q1, c1, q2, c2, po, co, rfl, rfl⟩, hs.fitD⟩
end Go.Proofs.Ytfpkeanimkgpaaa.L
