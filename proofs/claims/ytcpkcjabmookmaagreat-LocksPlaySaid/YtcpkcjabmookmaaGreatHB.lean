/- Walks: the document's lock: asking. Walks: the document's lock: freeing. Walks: the document's lock: who holds, who waits; lists compared. -/
import Derived.Test.YtcpkcjabmookmaaGreatHA
/-! Walks: the document's lock: asking. -/
namespace Go.Proofs.YtcpkcjabmookmaaGreat.L
open Go Go.Proofs
attribute [local irreducible] pv fv pt fz RowF RowO rowP old pure_ elA
set_option maxRecDepth 100000
set_option linter.unusedSimpArgs false
set_option linter.unusedVariables false

def One.heldC (o : One) : List Value := [.int .i64 o.who, .int .i64 o.mode, .int .i64 0]
def One.lineC (o : One) : List Value := [.int .i64 o.who, .int .i64 0, .int .i64 o.mode]
theorem heldC_one (o : One) : ∀ v ∈ o.heldC, v.oneCell' = true := fun v h => by simp [One.heldC] at h; rcases h with rfl | rfl | rfl <;> rfl
theorem lineC_one (o : One) : ∀ v ∈ o.lineC, v.oneCell' = true := fun v h => by simp [One.lineC] at h; rcases h with rfl | rfl | rfl <;> rfl
def Kd.oneH : Kd One := Kd.flat 3 One.heldC (fun _ => rfl) heldC_one
def Kd.oneW : Kd One := Kd.flat 3 One.lineC (fun _ => rfl) lineC_one
abbrev RkL (b : Nat) (q1 : Option Addr) (c1 : Nat) (q2 : Option Addr) (c2 : Nat) (k : Lk) : List HP := [pv b 76 [.slice q1 k.hold.length c1, .slice q2 k.line.length c2], RowO Kd.oneH 59 q1 c1 k.hold, RowO Kd.oneW 59 q2 c2 k.line]
theorem rf_find {α : Type} {enc : α → List Value} {hl : ∀ x, (enc x).length = 3} {h1 : ∀ x, ∀ v ∈ enc x, v.oneCell' = true} (wf : α → Int) (h0 : ∀ x, (enc x)[0]? = some (.int .i64 (wf x))) (A : HP) (q : Option Addr) (cap : Nat) (l : List α) (who : Int) (hA : IsRow A (Kd.flat 3 enc hl h1) q l) (hn : (l.length : Int) ≤ 9223372036854775807) : Fn Tryz.prog 32 [.slice q l.length cap, .int .i64 who].toArray [A] (fun r post => r = .int .i64 (idxP (fun x => decide (wf x = who)) l) ∧ post = [A]) := by
  refine Fn.enter (N := 20) Tryz.func32 rfl Tryz.ntmps32 (by kernel_rfl) rfl (fun ρ L => ?_)
  refine K.seq ?_
  refine K.region ?_
  refine KO.q rfl (q_assign rfl) ?_
  refine KO.done ?_
  refine K.seq <| K.seq ?_
  refine K.region ?_
  refine KO.q rfl (q_assign rfl) ?_
  refine KO.done ?_
  refine K.block ?_
  refine K.rloop (ι := { i : Nat // i ≤ l.length ∧ (l.take i).any (fun x => decide (wf x = who)) = false }) (fun x => [(5, .int .i64 x.1), (0, .slice q l.length cap), (1, .int .i64 who)]) (fun x => l.length - x.1) ⟨0, Nat.zero_le _, rfl⟩ (by repeat (first | exact Env.sub_nil _ | refine Env.sub_cons rfl ?_)) (fun x ih => ?_)
  obtain ⟨i, hi, hz⟩ := x
  dsimp only at hi hz ⊢
  refine K.seq <| K.seq ?_
  refine K.region ?_
  refine KO.q rfl (q_move rfl) ?_
  refine KO.q rfl (q_move rfl) ?_
  refine KO.q rfl (q_len Tryz.underlying74 rfl) ?_
  refine KO.q rfl (q_lt rfl rfl) ?_
  refine KO.done ?_
  refine K.dcond (s := 9) rfl (fun g9 => ?_) (fun g9 => ?_)
  · obtain ⟨e, he⟩ : ∃ e, l[i]? = some e := ⟨_, List.getElem?_eq_getElem (by omega)⟩
    refine K.skip <| K.seq <| K.block <| K.seq ?_
    refine K.region ?_
    refine KO.q rfl (q_move rfl) ?_
    refine KO.q rfl (q_move rfl) ?_
    refine KO.q rfl (q_ix i se_74 rfl rfl rfl hA (by repeat (first | exact List.Mem.head _ | apply List.Mem.tail)) rfl (by omega)) ?_
    refine KO.q rfl (q_fieldE fo_59_0 rfl) ?_
    refine KO.q rfl (q_ldE ck_3 rfl hA (by repeat (first | exact List.Mem.head _ | apply List.Mem.tail)) he (h0 e)) ?_
    refine KO.q rfl (q_move rfl) ?_
    refine KO.q rfl (q_eq rfl rfl) ?_
    refine KO.done ?_
    refine K.dcond (s := 18) rfl (fun g18 => ?_) (fun g18 => ?_)
    · refine K.seq ?_
      have hr : idxP (fun x => decide (wf x = who)) l = i := idxP_some he (decide_eq_true g18) hz
      refine K.region ?_
      refine KO.q rfl (q_move rfl) ?_
      refine KO.q rfl (q_assign rfl) ?_
      refine KO.done ?_
      refine K.ret (fn := Tryz.f32) Tryz.func32 (fun a w hk hs => res1 Tryz.results32 hk rfl) (fun w hs => ?_)
      rw [hr]
      exact ⟨_, [A], rfl, ⟨rfl, rfl⟩, hs.fitD⟩
    · refine K.skip <| K.inBlock ?_
      refine K.region ?_
      refine KO.q rfl (q_move rfl) ?_
      refine KO.q rfl (q_add rfl rfl (by first | omega | (simp; omega)) (by first | omega | (simp; omega))) ?_
      refine KO.q rfl (q_assign rfl) ?_
      refine KO.done ?_
      exact K.subE (by repeat (first | exact Env.sub_nil _ | refine Env.sub_cons rfl ?_)) (ih ⟨i + 1, by omega, by rw [any_take_succ he, hz, decide_eq_false g18]; rfl⟩ (by show l.length - (i + 1) < l.length - i; omega))
  · refine K.exit rfl ?_
    refine K.seq ?_
    have hr : idxP (fun x => decide (wf x = who)) l = -1 := idxP_none (by rw [List.take_of_length_le (by omega)] at hz; exact hz)
    refine K.region ?_
    refine KO.q rfl (q_assign rfl) ?_
    refine KO.done ?_
    refine K.ret (fn := Tryz.f32) Tryz.func32 (fun a w hk hs => res1 Tryz.results32 hk rfl) (fun w hs => ?_)
    rw [hr]
    exact ⟨_, [A], rfl, ⟨rfl, rfl⟩, hs.fitD⟩
theorem rf_findH (e : TypeId) (q : Option Addr) (cap : Nat) (l : List One) (who : Int) (hn : l.length ≤ 1000000000) : Fn Tryz.prog 32 [.slice q l.length cap, .int .i64 who].toArray [RowO Kd.oneH e q cap l] (fun r post => r = .int .i64 (at1 l who) ∧ post = [RowO Kd.oneH e q cap l]) := rf_find One.who (fun _ => rfl) (RowO Kd.oneH e q cap l) q cap l who isO (by omega)
theorem rf_findW (e : TypeId) (q : Option Addr) (cap : Nat) (l : List One) (who : Int) (hn : l.length ≤ 1000000000) : Fn Tryz.prog 32 [.slice q l.length cap, .int .i64 who].toArray [RowO Kd.oneW e q cap l] (fun r post => r = .int .i64 (at1 l who) ∧ post = [RowO Kd.oneW e q cap l]) := rf_find One.who (fun _ => rfl) (RowO Kd.oneW e q cap l) q cap l who isO (by omega)
theorem rf_fits (b : Nat) (q1 : Option Addr) (c1 : Nat) (q2 : Option Addr) (c2 : Nat) (k : Lk) (x : One) (hl : k.hold.length ≤ 1000000000) : Fn Tryz.prog 65 [.pointer (some ⟨b, 0, none⟩), .int .i64 x.who, .int .i64 x.mode].toArray (RkL b q1 c1 q2 c2 k) (fun r post => r = .bool (k.fits x) ∧ post = RkL b q1 c1 q2 c2 k) := by
  refine Fn.enter (N := 40) Tryz.func65 rfl Tryz.ntmps65 (by kernel_rfl) rfl (fun ρ L => ?_)
  refine K.seq ?_
  refine K.region ?_
  refine KO.q rfl (q_assign rfl) ?_
  refine KO.done ?_
  refine K.seq <| K.seq ?_
  refine K.region ?_
  refine KO.q rfl (q_assign rfl) ?_
  refine KO.done ?_
  refine K.block ?_
  refine K.rloop (ι := { i : Nat // i ≤ k.hold.length ∧ (k.hold.take i).any (fun h => decide (h.who ≠ x.who) && !fitsM x.mode h.mode) = false }) (fun s => [(7, .int .i64 s.1), (0, .pointer (some ⟨b, 0, none⟩)), (1, .int .i64 x.who), (2, .int .i64 x.mode)]) (fun s => k.hold.length - s.1) ⟨0, Nat.zero_le _, rfl⟩ (by repeat (first | exact Env.sub_nil _ | refine Env.sub_cons rfl ?_)) (fun s ih => ?_)
  obtain ⟨i, hi, hz⟩ := s
  dsimp only at hi hz ⊢
  refine K.seq <| K.seq ?_
  refine K.region ?_
  refine KO.q rfl (q_move rfl) ?_
  refine KO.q rfl (q_move rfl) ?_
  refine KO.q rfl (q_nilCheck rfl) ?_
  refine KO.q rfl (q_field fo_76_0 rfl) ?_
  refine KO.q rfl (q_load1D ck_74 rfl) ?_
  refine KO.q rfl (q_len Tryz.underlying74 rfl) ?_
  refine KO.q rfl (q_lt rfl rfl) ?_
  refine KO.done ?_
  refine K.dcond (s := 14) rfl (fun g14 => ?_) (fun g14 => ?_)
  · obtain ⟨e, he⟩ : ∃ e, k.hold[i]? = some e := ⟨_, List.getElem?_eq_getElem (by omega)⟩
    refine K.skip <| K.seq <| K.block <| K.seq ?_
    refine K.region ?_
    refine KO.q rfl (q_move rfl) ?_
    refine KO.q rfl (q_nilCheck rfl) ?_
    refine KO.q rfl (q_field fo_76_0 rfl) ?_
    refine KO.q rfl (q_load1D ck_74 rfl) ?_
    refine KO.q rfl (q_move rfl) ?_
    refine KO.q rfl (q_ix i se_74 rfl rfl rfl isO (by repeat (first | exact List.Mem.head _ | apply List.Mem.tail)) rfl (by omega)) ?_
    refine KO.q rfl (q_fieldE fo_59_0 rfl) ?_
    refine KO.q rfl (q_ldE ck_3 rfl isO (by repeat (first | exact List.Mem.head _ | apply List.Mem.tail)) he rfl) ?_
    refine KO.q rfl (q_move rfl) ?_
    refine KO.q rfl (q_ne rfl rfl) ?_
    refine KO.q rfl (q_move rfl) ?_
    refine KO.dsplit 27 rfl (fun g27 => ?_) (fun g27 => ?_)
    · refine KO.q rfl (q_move rfl) ?_
      refine KO.q rfl (q_move rfl) ?_
      refine KO.q rfl (q_nilCheck rfl) ?_
      refine KO.q rfl (q_field fo_76_0 rfl) ?_
      refine KO.q rfl (q_load1D ck_74 rfl) ?_
      refine KO.q rfl (q_move rfl) ?_
      refine KO.q rfl (q_ix i se_74 rfl rfl rfl isO (by repeat (first | exact List.Mem.head _ | apply List.Mem.tail)) rfl (by omega)) ?_
      refine KO.q rfl (q_fieldE fo_59_1 rfl) ?_
      refine KO.q rfl (q_ldE ck_3 rfl isO (by repeat (first | exact List.Mem.head _ | apply List.Mem.tail)) he rfl) ?_
      refine KO.loud rfl (OpL.callD rfl (h := rm_Fits _ _)) ?_
      rintro _ _ ⟨_, ⟨rfl, rfl⟩, rfl⟩
      refine KO.q rfl (q_not rfl) ?_
      refine KO.q rfl (q_pickT rfl rfl) ?_
      refine KO.done ?_
      refine K.bcond (s := 39) rfl (fun g39 => ?_) (fun g39 => ?_)
      · refine K.seq ?_
        have hr : k.fits x = false := by
          unfold Lk.fits
          rw [any_of_at he (by rw [decide_eq_true (by assumption), Bool.true_and]; exact g39)]
          rfl
        refine K.region ?_
        refine KO.q rfl (q_assign rfl) ?_
        refine KO.done ?_
        refine K.ret (fn := Tryz.f65) Tryz.func65 (fun a w hk hs => res1 Tryz.results65 hk rfl) (fun w hs => ?_)
        rw [hr]
        exact ⟨_, RkL b q1 c1 q2 c2 k, rfl, ⟨rfl, rfl⟩, hs.fitD⟩
      · refine K.skip <| K.inBlock ?_
        refine K.region ?_
        refine KO.q rfl (q_move rfl) ?_
        refine KO.q rfl (q_add rfl rfl (by first | omega | (simp; omega)) (by first | omega | (simp; omega))) ?_
        refine KO.q rfl (q_assign rfl) ?_
        refine KO.done ?_
        exact K.subE (by repeat (first | exact Env.sub_nil _ | refine Env.sub_cons rfl ?_)) (ih ⟨i + 1, by omega, by rw [any_take_succ he, hz, g39, Bool.and_false]; rfl⟩ (by show k.hold.length - (i + 1) < k.hold.length - i; omega))
    · refine KO.skip rfl ?_
      refine KO.skip rfl ?_
      refine KO.skip rfl ?_
      refine KO.skip rfl ?_
      refine KO.skip rfl ?_
      refine KO.skip rfl ?_
      refine KO.skip rfl ?_
      refine KO.skip rfl ?_
      refine KO.skip rfl ?_
      refine KO.skip rfl ?_
      refine KO.skip rfl ?_
      refine KO.q rfl (q_pickF rfl rfl) ?_
      refine KO.done ?_
      refine K.no rfl ?_
      refine K.skip <| K.inBlock ?_
      refine K.region ?_
      refine KO.q rfl (q_move rfl) ?_
      refine KO.q rfl (q_add rfl rfl (by first | omega | (simp; omega)) (by first | omega | (simp; omega))) ?_
      refine KO.q rfl (q_assign rfl) ?_
      refine KO.done ?_
      exact K.subE (by repeat (first | exact Env.sub_nil _ | refine Env.sub_cons rfl ?_)) (ih ⟨i + 1, by omega, by rw [any_take_succ he, hz, decide_eq_false g27]; rfl⟩ (by show k.hold.length - (i + 1) < k.hold.length - i; omega))
  · refine K.exit rfl ?_
    refine K.seq ?_
    have hr : k.fits x = true := by
      rw [List.take_of_length_le (by omega)] at hz
      unfold Lk.fits
      rw [hz]; rfl
    refine K.region ?_
    refine KO.q rfl (q_assign rfl) ?_
    refine KO.done ?_
    refine K.ret (fn := Tryz.f65) Tryz.func65 (fun a w hk hs => res1 Tryz.results65 hk rfl) (fun w hs => ?_)
    rw [hr]
    exact ⟨_, RkL b q1 c1 q2 c2 k, rfl, ⟨rfl, rfl⟩, hs.fitD⟩
set_option maxHeartbeats 3200000 in
theorem rf_Ask (b : Nat) (q1 : Option Addr) (c1 : Nat) (q2 : Option Addr) (c2 : Nat) (k : Lk) (who m : Int) (hl : k.hold.length ≤ 1000000000) (hl2 : k.line.length ≤ 1000000000) : Fn Tryz.prog 34 [.pointer (some ⟨b, 0, none⟩), .int .i64 who, .int .i64 m].toArray (RkL b q1 c1 q2 c2 k) (fun r post => ∃ q1' c1' q2' c2', r = .bool (k.ask who m).1 ∧ post = RkL b q1' c1' q2' c2' (k.ask who m).2) := by
  refine Fn.enter (N := 140) Tryz.func34 rfl Tryz.ntmps34 (by kernel_rfl) rfl (fun ρ L => ?_)
  refine K.seq ?_
  refine K.fact (fun w h => rowO_cap (e := 59) (k := Kd.oneW) (p := q2) (cap := c2) (xs := k.line) (by repeat (first | exact List.Mem.head _ | apply List.Mem.tail)) w h) (fun hc2 => ?_)
  refine K.region ?_
  refine KO.q rfl (q_assign rfl) ?_
  refine KO.done ?_
  refine K.seq ?_
  refine K.region ?_
  refine KO.q rfl (q_move rfl) ?_
  refine KO.loud rfl (OpL.callD rfl (h := rm_mode _)) ?_
  rintro _ _ ⟨_, ⟨rfl, rfl⟩, rfl⟩
  refine KO.q rfl (q_assign rfl) ?_
  refine KO.done ?_
  refine K.seq <| K.seq ?_
  refine K.region ?_
  refine KO.q rfl (q_move rfl) ?_
  refine KO.q rfl (q_eq rfl rfl) ?_
  refine KO.done ?_
  refine K.dcond (s := 12) rfl (fun g12 => ?_) (fun g12 => ?_)
  · have hr : k.ask who m = (true, k) := by unfold Lk.ask; rw [if_pos g12]
    refine K.seq ?_
    refine K.region ?_
    refine KO.q rfl (q_assign rfl) ?_
    refine KO.done ?_
    refine K.ret (fn := Tryz.f34) Tryz.func34 (fun a w hk hs => res1 Tryz.results34 hk rfl) (fun w hs => ?_)
    rw [hr]
    exact ⟨_, RkL b q1 c1 q2 c2 k, rfl, ⟨q1, c1, q2, c2, rfl, rfl⟩, hs.fitD⟩
  · refine K.skip <| K.seq <| K.seq ?_
    refine K.region ?_
    refine KO.q rfl (q_move rfl) ?_
    refine KO.q rfl (q_nilCheck rfl) ?_
    refine KO.q rfl (q_field fo_76_1 rfl) ?_
    refine KO.q rfl (q_load1D ck_74 rfl) ?_
    refine KO.q rfl (q_move rfl) ?_
    refine KO.loud rfl (OpL.callD rfl (h := rf_findW 59 q2 c2 k.line who hl2)) ?_
    rintro _ _ ⟨_, ⟨rfl, rfl⟩, rfl⟩
    refine KO.q rfl (q_ge rfl rfl) ?_
    refine KO.done ?_
    refine K.dcond (s := 19) rfl (fun g19 => ?_) (fun g19 => ?_)
    · have hr : k.ask who m = (false, k) := by unfold Lk.ask; rw [if_neg g12, if_pos g19]
      refine K.seq ?_
      refine K.region ?_
      refine KO.q rfl (q_assign rfl) ?_
      refine KO.done ?_
      refine K.ret (fn := Tryz.f34) Tryz.func34 (fun a w hk hs => res1 Tryz.results34 hk rfl) (fun w hs => ?_)
      rw [hr]
      exact ⟨_, RkL b q1 c1 q2 c2 k, rfl, ⟨q1, c1, q2, c2, rfl, rfl⟩, hs.fitD⟩
    · refine K.skip <| K.seq ?_
      refine K.region ?_
      refine KO.q rfl (q_move rfl) ?_
      refine KO.q rfl (q_nilCheck rfl) ?_
      refine KO.q rfl (q_field fo_76_0 rfl) ?_
      refine KO.q rfl (q_load1D ck_74 rfl) ?_
      refine KO.q rfl (q_move rfl) ?_
      refine KO.loud rfl (OpL.callD rfl (h := rf_findH 59 q1 c1 k.hold who hl)) ?_
      rintro _ _ ⟨_, ⟨rfl, rfl⟩, rfl⟩
      refine KO.q rfl (q_assign rfl) ?_
      refine KO.done ?_
      refine K.seq <| K.seq ?_
      refine K.region ?_
      refine KO.q rfl (q_move rfl) ?_
      refine KO.q rfl (q_ge rfl rfl) ?_
      refine KO.done ?_
      refine K.dcond (s := 27) rfl (fun g27 => ?_) (fun g27 => ?_)
      · obtain ⟨i, el, he, hi, hw⟩ := at1_some g27
        have hil := (List.getElem?_eq_some_iff.1 he).1
        have hd : k.hold.getD (at1 k.hold who).toNat ⟨0, 0⟩ = el := by rw [hi, Int.toNat_natCast]; exact getD_at he
        refine K.seq <| K.seq ?_
        refine K.region ?_
        refine KO.q rfl (q_move rfl) ?_
        refine KO.q rfl (q_nilCheck rfl) ?_
        refine KO.q rfl (q_field fo_76_0 rfl) ?_
        refine KO.q rfl (q_load1D ck_74 rfl) ?_
        refine KO.q rfl (q_move rfl) ?_
        refine KO.q rfl (q_ix i se_74 rfl rfl hi isO (by repeat (first | exact List.Mem.head _ | apply List.Mem.tail)) rfl hil) ?_
        refine KO.q rfl (q_fieldE fo_59_1 rfl) ?_
        refine KO.q rfl (q_ldE ck_3 rfl isO (by repeat (first | exact List.Mem.head _ | apply List.Mem.tail)) he rfl) ?_
        refine KO.q rfl (q_move rfl) ?_
        refine KO.loud rfl (OpL.callD rfl (h := rm_Covers _ _)) ?_
        rintro _ _ ⟨_, ⟨rfl, rfl⟩, rfl⟩
        refine KO.done ?_
        refine K.bcond (s := 37) rfl (fun g37 => ?_) (fun g37 => ?_)
        · have hr : k.ask who m = (true, k) := by unfold Lk.ask; rw [if_neg g12, if_neg g19, if_pos g27, hd, if_pos g37]
          refine K.seq ?_
          refine K.region ?_
          refine KO.q rfl (q_assign rfl) ?_
          refine KO.done ?_
          refine K.ret (fn := Tryz.f34) Tryz.func34 (fun a w hk hs => res1 Tryz.results34 hk rfl) (fun w hs => ?_)
          rw [hr]
          exact ⟨_, RkL b q1 c1 q2 c2 k, rfl, ⟨q1, c1, q2, c2, rfl, rfl⟩, hs.fitD⟩
        · refine K.skip ?_
          refine K.region ?_
          refine KO.q rfl (q_move rfl) ?_
          refine KO.q rfl (q_nilCheck rfl) ?_
          refine KO.q rfl (q_field fo_76_0 rfl) ?_
          refine KO.q rfl (q_load1D ck_74 rfl) ?_
          refine KO.q rfl (q_move rfl) ?_
          refine KO.q rfl (q_ix i se_74 rfl rfl hi isO (by repeat (first | exact List.Mem.head _ | apply List.Mem.tail)) rfl hil) ?_
          refine KO.q rfl (q_fieldE fo_59_1 rfl) ?_
          refine KO.q rfl (q_ldE ck_3 rfl isO (by repeat (first | exact List.Mem.head _ | apply List.Mem.tail)) he rfl) ?_
          refine KO.q rfl (q_move rfl) ?_
          refine KO.loud rfl (OpL.callD rfl (h := rm_Join _ _)) ?_
          rintro _ _ ⟨_, ⟨rfl, rfl⟩, rfl⟩
          refine KO.q rfl (q_assign rfl) ?_
          refine KO.done ?_
          refine K.seq <| K.seq ?_
          refine K.region ?_
          refine KO.q rfl (q_move rfl) ?_
          refine KO.q rfl (q_move rfl) ?_
          refine KO.q rfl (q_move rfl) ?_
          refine KO.loud rfl (OpL.callD rfl (h := rf_fits b q1 c1 q2 c2 k ⟨who, joinM el.mode (modeOf m)⟩ hl)) ?_
          rintro _ _ ⟨_, ⟨rfl, rfl⟩, rfl⟩
          refine KO.q rfl (q_move rfl) ?_
          refine KO.split 52 rfl (fun g52 => ?_) (fun g52 => ?_)
          · have hr : k.ask who m = (true, k.grant ⟨who, joinM el.mode (modeOf m)⟩) := by unfold Lk.ask; rw [if_neg g12, if_neg g19, if_pos g27, hd, if_neg (by simp [g37]), if_pos g52]
            refine KO.q rfl (q_move rfl) ?_
            refine KO.q rfl (q_nilCheck rfl) ?_
            refine KO.q rfl (q_field fo_76_1 rfl) ?_
            refine KO.q rfl (q_load1D ck_74 rfl) ?_
            refine KO.q rfl (q_len Tryz.underlying74 rfl) ?_
            refine KO.q rfl (q_eq rfl rfl) ?_
            refine KO.q rfl (q_move rfl) ?_
            refine KO.dsplit 59 rfl (fun g59 => ?_) (fun g59 => ?_)
            · refine KO.skip rfl ?_
              refine KO.skip rfl ?_
              refine KO.q rfl (q_pickT rfl rfl) ?_
              refine KO.q rfl (q_pickT rfl rfl) ?_
              refine KO.done ?_
              refine K.yes rfl ?_
              refine K.seq <| K.seq ?_
              refine K.region ?_
              refine KO.q rfl (q_move rfl) ?_
              refine KO.q rfl (q_ge rfl rfl) ?_
              refine KO.done ?_
              refine K.dcond (s := 65) rfl (fun g65 => ?_) (fun g65 => ?_)
              · refine K.region ?_
                refine KO.q rfl (q_move rfl) ?_
                refine KO.q rfl (q_nilCheck rfl) ?_
                refine KO.q rfl (q_field fo_76_0 rfl) ?_
                refine KO.q rfl (q_load1D ck_74 rfl) ?_
                refine KO.q rfl (q_move rfl) ?_
                refine KO.q rfl (q_move rfl) ?_
                refine KO.q rfl (q_ix i se_74 rfl rfl hi isO (by repeat (first | exact List.Mem.head _ | apply List.Mem.tail)) rfl hil) ?_
                refine KO.q rfl (q_fieldE fo_59_1 rfl) ?_
                refine KO.loudN rfl (l_storeE (el := el) ⟨who, joinM el.mode (modeOf m)⟩ ck_3 rfl rfl rfl (by repeat (first | exact Pick.here | apply Pick.there)) he (by decide) (by show [Value.int .i64 el.who, Value.int .i64 _, Value.int .i64 0] = [Value.int .i64 who, Value.int .i64 _, Value.int .i64 0]; rw [hw])) ?_
                rintro _ _ ⟨rfl, rfl⟩
                refine KO.done ?_
                refine K.seq ?_
                refine K.region ?_
                refine KO.q rfl (q_assign rfl) ?_
                refine KO.done ?_
                refine K.ret (fn := Tryz.f34) Tryz.func34 (fun a w hk hs => res1 Tryz.results34 hk rfl) (fun w hs => ?_)
                rw [hr]
                have hg : k.grant ⟨who, joinM el.mode (modeOf m)⟩ = ⟨k.hold.set i ⟨who, joinM el.mode (modeOf m)⟩, k.line⟩ := by unfold Lk.grant; rw [if_pos g27, hi, Int.toNat_natCast]
                exact ⟨_, [pv b 76 [.slice q1 k.hold.length c1, .slice q2 k.line.length c2], RowO Kd.oneH 59 q1 c1 (k.hold.set i ⟨who, joinM el.mode (modeOf m)⟩), RowO Kd.oneW 59 q2 c2 k.line], rfl, ⟨q1, c1, q2, c2, rfl, by rw [hg]; show _ = [pv b _ [.slice q1 (k.hold.set i _).length c1, _], _, _]; rw [List.length_set]⟩, hs.fitD⟩
              · exact absurd g27 g65
            · refine KO.q rfl (q_move rfl) ?_
              refine KO.q rfl (q_ge rfl rfl) ?_
              refine KO.q rfl (q_pickF rfl rfl) ?_
              refine KO.q rfl (q_pickT rfl rfl) ?_
              refine KO.done ?_
              refine K.dcond (s := 63) rfl (fun g63 => ?_) (fun g63 => ?_)
              · refine K.seq <| K.seq ?_
                refine K.region ?_
                refine KO.q rfl (q_move rfl) ?_
                refine KO.q rfl (q_ge rfl rfl) ?_
                refine KO.done ?_
                refine K.dcond (s := 65) rfl (fun g65 => ?_) (fun g65 => ?_)
                · refine K.region ?_
                  refine KO.q rfl (q_move rfl) ?_
                  refine KO.q rfl (q_nilCheck rfl) ?_
                  refine KO.q rfl (q_field fo_76_0 rfl) ?_
                  refine KO.q rfl (q_load1D ck_74 rfl) ?_
                  refine KO.q rfl (q_move rfl) ?_
                  refine KO.q rfl (q_move rfl) ?_
                  refine KO.q rfl (q_ix i se_74 rfl rfl hi isO (by repeat (first | exact List.Mem.head _ | apply List.Mem.tail)) rfl hil) ?_
                  refine KO.q rfl (q_fieldE fo_59_1 rfl) ?_
                  refine KO.loudN rfl (l_storeE (el := el) ⟨who, joinM el.mode (modeOf m)⟩ ck_3 rfl rfl rfl (by repeat (first | exact Pick.here | apply Pick.there)) he (by decide) (by show [Value.int .i64 el.who, Value.int .i64 _, Value.int .i64 0] = [Value.int .i64 who, Value.int .i64 _, Value.int .i64 0]; rw [hw])) ?_
                  rintro _ _ ⟨rfl, rfl⟩
                  refine KO.done ?_
                  refine K.seq ?_
                  refine K.region ?_
                  refine KO.q rfl (q_assign rfl) ?_
                  refine KO.done ?_
                  refine K.ret (fn := Tryz.f34) Tryz.func34 (fun a w hk hs => res1 Tryz.results34 hk rfl) (fun w hs => ?_)
                  rw [hr]
                  have hg : k.grant ⟨who, joinM el.mode (modeOf m)⟩ = ⟨k.hold.set i ⟨who, joinM el.mode (modeOf m)⟩, k.line⟩ := by unfold Lk.grant; rw [if_pos g27, hi, Int.toNat_natCast]
                  exact ⟨_, [pv b 76 [.slice q1 k.hold.length c1, .slice q2 k.line.length c2], RowO Kd.oneH 59 q1 c1 (k.hold.set i ⟨who, joinM el.mode (modeOf m)⟩), RowO Kd.oneW 59 q2 c2 k.line], rfl, ⟨q1, c1, q2, c2, rfl, by rw [hg]; show _ = [pv b _ [.slice q1 (k.hold.set i _).length c1, _], _, _]; rw [List.length_set]⟩, hs.fitD⟩
                · exact absurd g27 g65
              · exact absurd g27 g63
          · have hr : k.ask who m = (false, k.wait ⟨who, joinM el.mode (modeOf m)⟩) := by unfold Lk.ask; rw [if_neg g12, if_neg g19, if_pos g27, hd, if_neg (by simp [g37]), if_neg (by simp [g52])]
            refine KO.skip rfl ?_
            refine KO.skip rfl ?_
            refine KO.skip rfl ?_
            refine KO.skip rfl ?_
            refine KO.skip rfl ?_
            refine KO.skip rfl ?_
            refine KO.skip rfl ?_
            refine KO.gone rfl ?_
            refine KO.gone rfl ?_
            refine KO.skip rfl ?_
            refine KO.q rfl (q_pickF rfl rfl) ?_
            refine KO.done ?_
            refine K.no rfl ?_
            refine K.skip <| K.seq ?_
            refine K.region ?_
            refine KO.q rfl (q_move rfl) ?_
            refine KO.q rfl (q_nilCheck rfl) ?_
            refine KO.q rfl (q_field fo_76_1 rfl) ?_
            refine KO.q rfl (q_load1D ck_74 rfl) ?_
            refine KO.q rfl (q_len Tryz.underlying74 rfl) ?_
            refine KO.q rfl (q_assign rfl) ?_
            refine KO.done ?_
            refine K.seq <| K.seq ?_
            refine K.region ?_
            refine KO.q rfl (q_move rfl) ?_
            refine KO.q rfl (q_ge rfl rfl) ?_
            refine KO.done ?_
            refine K.dcond (s := 92) rfl (fun g92 => ?_) (fun g92 => ?_)
            · refine K.seq ?_
              refine K.region ?_
              refine KO.q rfl (q_assign rfl) ?_
              refine KO.done ?_
              refine K.block ?_
              refine K.rloop (ι := { i : Nat // i ≤ k.line.length ∧ (k.line.take i).all (fun y => k.has y.who) = true }) (fun x => [(8, .int .i64 x.1), (0, .pointer (some ⟨b, 0, none⟩)), (1, .int .i64 who), (2, .int .i64 (joinM el.mode (modeOf m)))]) (fun x => k.line.length - x.1) ⟨0, Nat.zero_le _, rfl⟩ (by repeat (first | exact Env.sub_nil _ | refine Env.sub_cons rfl ?_)) (fun x ih => ?_)
              obtain ⟨j, hj, hz⟩ := x
              dsimp only at hj hz ⊢
              refine K.seq <| K.seq ?_
              refine K.drawS [pv b 76 [.slice q1 k.hold.length c1, .slice q2 k.line.length c2], RowO Kd.oneH 59 q1 c1 k.hold, RowO Kd.oneW 59 q2 c2 k.line] (fun _ h => h.subD) mixed ?_
              refine D.q 0 rfl (by kernel_rfl) (by kernel_rfl) (q_move rfl) (fun _ h => h.subD) ?_
              refine D.q 1 rfl (by kernel_rfl) (by kernel_rfl) (q_move rfl) (fun _ h => h.subD) ?_
              refine D.q 2 rfl (by kernel_rfl) (by kernel_rfl) (q_nilCheck rfl) (fun _ h => h.subD) ?_
              refine D.q 3 rfl (by kernel_rfl) (by kernel_rfl) (q_field fo_76_1 rfl) (fun _ h => h.subD) ?_
              refine D.q 4 rfl (by kernel_rfl) (by kernel_rfl) (q_load1D ck_74 rfl) (fun _ h => h.subD) ?_
              refine D.q 5 rfl (by kernel_rfl) (by kernel_rfl) (q_len Tryz.underlying74 rfl) (fun _ h => h.subD) ?_
              refine D.q 6 rfl (by kernel_rfl) (by kernel_rfl) (q_lt rfl rfl) (fun _ h => h.subD) ?_
              refine D.q 7 rfl (by kernel_rfl) (by kernel_rfl) (q_move rfl) (fun _ h => h.subD) ?_
              refine D.dsplit 100 rfl (fun g100 => ?_) (fun g100 => ?_)
              · obtain ⟨e, hje⟩ : ∃ e, k.line[j]? = some e := ⟨_, List.getElem?_eq_getElem (by omega)⟩
                refine D.q 8 rfl (by kernel_rfl) (by kernel_rfl) (q_move rfl) (fun _ h => h.subD) ?_
                refine D.q 9 rfl (by kernel_rfl) (by kernel_rfl) (q_nilCheck rfl) (fun _ h => h.subD) ?_
                refine D.q 10 rfl (by kernel_rfl) (by kernel_rfl) (q_field fo_76_0 rfl) (fun _ h => h.subD) ?_
                refine D.q 11 rfl (by kernel_rfl) (by kernel_rfl) (q_load1D ck_74 rfl) (fun _ h => h.subD) ?_
                refine D.q 12 rfl (by kernel_rfl) (by kernel_rfl) (q_move rfl) (fun _ h => h.subD) ?_
                refine D.q 13 rfl (by kernel_rfl) (by kernel_rfl) (q_nilCheck rfl) (fun _ h => h.subD) ?_
                refine D.q 14 rfl (by kernel_rfl) (by kernel_rfl) (q_field fo_76_1 rfl) (fun _ h => h.subD) ?_
                refine D.q 15 rfl (by kernel_rfl) (by kernel_rfl) (q_load1D ck_74 rfl) (fun _ h => h.subD) ?_
                refine D.q 16 rfl (by kernel_rfl) (by kernel_rfl) (q_move rfl) (fun _ h => h.subD) ?_
                refine D.q 17 rfl (by kernel_rfl) (by kernel_rfl) (q_ix j se_74 rfl rfl rfl isO (by repeat (first | exact List.Mem.head _ | apply List.Mem.tail)) rfl (by omega)) (fun _ h => h.subD) ?_
                refine D.q 18 rfl (by kernel_rfl) (by kernel_rfl) (q_fieldE fo_59_0 rfl) (fun _ h => h.subD) ?_
                refine D.q 19 rfl (by kernel_rfl) (by kernel_rfl) (q_ldE ck_3 rfl isO (by repeat (first | exact List.Mem.head _ | apply List.Mem.tail)) hje rfl) (fun _ h => h.subD) ?_
                refine D.all (rs := [20]) (by kernel_rfl) rfl (DAll.cons rfl (by kernel_rfl) (OpL.callD rfl (h := rf_findH 59 q1 c1 k.hold e.who hl)) (.inr (by rintro _ _ ⟨_, ⟨rfl, rfl⟩, rfl⟩ w h; exact h.subD)) rfl ?_ DAll.nil)
                rintro _ _ ⟨_, ⟨rfl, rfl⟩, rfl⟩
                refine D.q 21 rfl (by kernel_rfl) (by kernel_rfl) (q_ge rfl rfl) (fun _ h => h.subD) ?_
                refine D.q 22 rfl (by kernel_rfl) (by kernel_rfl) (q_pickT rfl rfl) (fun _ h => h.subD) ?_
                refine D.done (by kernel_rfl) ?_
                refine K.dcond (s := 115) rfl (fun g115 => ?_) (fun g115 => ?_)
                · refine K.skip <| K.block ?_
                  refine K.region ?_
                  refine KO.q rfl (q_move rfl) ?_
                  refine KO.q rfl (q_add rfl rfl (by first | omega | (simp; omega)) (by first | omega | (simp; omega))) ?_
                  refine KO.q rfl (q_assign rfl) ?_
                  refine KO.done ?_
                  refine K.inBlock ?_
                  exact K.weak (by repeat (first | exact Env.sub_nil _ | refine Env.sub_cons rfl ?_)) (fun w h => h.fitD) (ih ⟨j + 1, by omega, by rw [all_take_succ hje, hz]; exact (show k.has e.who = true from decide_eq_true g115)⟩ (by show k.line.length - (j + 1) < k.line.length - j; omega))
                · have hat : k.waitAt who = j := by
                    unfold Lk.waitAt
                    rw [if_pos (show k.has who = true from decide_eq_true g27)]
                    exact wAt_eq hz (.inr ⟨e, hje, (show k.has e.who = false from decide_eq_false g115)⟩)
                  subst hat
                  refine K.exit rfl ?_
                  refine K.seq ?_
                  refine K.drawS [pv b 76 [.slice q1 k.hold.length c1, .slice q2 k.line.length c2], RowO Kd.oneW 59 q2 c2 k.line] (fun _ h => h.subD) mixed ?_
                  refine D.q 0 rfl (by kernel_rfl) (by kernel_rfl) (q_move rfl) (fun _ h => h.subD) ?_
                  refine D.q 1 rfl (by kernel_rfl) (by kernel_rfl) (q_move rfl) (fun _ h => h.subD) ?_
                  refine D.q 2 rfl (by kernel_rfl) (by kernel_rfl) (q_nilCheck rfl) (fun _ h => h.subD) ?_
                  refine D.q 3 rfl (by kernel_rfl) (by kernel_rfl) (q_field fo_76_1 rfl) (fun _ h => h.subD) ?_
                  refine D.q 4 rfl (by kernel_rfl) (by kernel_rfl) (q_load1D ck_74 rfl) (fun _ h => h.subD) ?_
                  refine D.q 5 rfl (by kernel_rfl) (by kernel_rfl) (q_move rfl) (fun _ h => h.subD) ?_
                  refine D.q 6 rfl (by kernel_rfl) (by kernel_rfl) (q_cutH se_74 rfl rfl (by first | omega | (simp; omega)) (by first | omega | (simp; omega))) (fun _ h => h.subD) ?_
                  refine D.q 8 rfl (by kernel_rfl) (by kernel_rfl) (q_move rfl) (fun _ h => h.subD) ?_
                  refine D.q 9 rfl (by kernel_rfl) (by kernel_rfl) (q_move rfl) (fun _ h => h.subD) ?_
                  refine D.q 10 rfl (by kernel_rfl) (by kernel_rfl) (q_as (q_build st_59 rfl (by repeat (first | exact Fill.nil | (apply Fill.cons; rfl; rfl; rfl) | exact SetN.nil | apply SetN.cons | exact SetAt.here | apply SetAt.there))) (show _ = One.lineC ⟨_, _⟩ from rfl)) (fun _ h => h.subD) ?_
                  refine D.q 13 rfl (by kernel_rfl) (by kernel_rfl) (q_move rfl) (fun _ h => h.subD) ?_
                  refine D.q 14 rfl (by kernel_rfl) (by kernel_rfl) (q_nilCheck rfl) (fun _ h => h.subD) ?_
                  refine D.q 15 rfl (by kernel_rfl) (by kernel_rfl) (q_field fo_76_1 rfl) (fun _ h => h.subD) ?_
                  refine D.q 16 rfl (by kernel_rfl) (by kernel_rfl) (q_load1D ck_74 rfl) (fun _ h => h.subD) ?_
                  refine D.q 17 rfl (by kernel_rfl) (by kernel_rfl) (q_move rfl) (fun _ h => h.subD) ?_
                  refine D.q 18 rfl (by kernel_rfl) (by kernel_rfl) (q_cutL se_74 rfl rfl (by first | omega | (simp; omega)) (by first | omega | (simp; omega)) (by first | omega | (simp; omega))) (fun _ h => h.subD) ?_
                  refine D.st (fun w h => rowO_nil (k := Kd.oneW) 59 h) ?_
                  refine D.all (rs := [7, 11]) (by kernel_rfl) rfl (DAll.cons rfl (by kernel_rfl) (l_append Kd.oneW (ys := k.line.take (k.waitAt who)) se_74 Tryz.underlying74 ⟨_, ze_59, rfl⟩ (by decide) rfl rfl (by repeat (first | exact Pick.here | apply Pick.there)) (isRow_take isO (k.waitAt who)) (by repeat (first | exact List.Mem.head _ | apply List.Mem.tail)) rfl (by rw [List.length_take]; omega) (by rw [List.length_take]; show (2 * (0 + _) + 768) * 24 ≤ _; omega)) (.inr (by rintro _ _ ⟨pa, ca, rfl, rfl⟩ w h; exact h.subD)) rfl ?_ (DAll.cons rfl (by kernel_rfl) (l_slice1 sz_74_1 rfl rfl ⟨rfl, rfl, rfl⟩) (.inr (by rintro _ _ ⟨b129, rfl, rfl⟩ w h; exact h.subD)) rfl ?_ DAll.nil))
                  · rintro _ _ ⟨pa, ca, rfl, rfl⟩
                    refine D.all (rs := [11]) (by kernel_rfl) rfl (DAll.cons rfl (by kernel_rfl) (l_slice1 sz_74_1 rfl rfl ⟨rfl, rfl, rfl⟩) (.inr (by rintro _ _ ⟨b129, rfl, rfl⟩ w h; exact h.subD)) rfl ?_ DAll.nil)
                    rintro _ _ ⟨b129, rfl, rfl⟩
                    refine D.all (rs := [12]) (by kernel_rfl) rfl (DAll.cons rfl (by kernel_rfl) (l_append Kd.oneW se_74 Tryz.underlying74 ⟨_, ze_59, rfl⟩ (by decide) rfl rfl (by repeat (first | exact Pick.here | apply Pick.there)) isP (by repeat (first | exact List.Mem.head _ | apply List.Mem.tail)) rfl rfl (by rw [List.nil_append, List.length_take]; show (2 * (_ + 1) + 768) * 24 ≤ _; omega)) (.inr (by rintro _ _ ⟨pb, cb, rfl, rfl⟩ w h; exact h.subD)) rfl ?_ DAll.nil)
                    rintro _ _ ⟨pb, cb, rfl, rfl⟩
                    refine D.all (rs := [19]) (by kernel_rfl) rfl (DAll.cons rfl (by kernel_rfl) (l_append Kd.oneW se_74 Tryz.underlying74 ⟨_, ze_59, rfl⟩ (by decide) rfl rfl (by repeat (first | exact Pick.here | apply Pick.there)) (isO_cut (k.waitAt who)) (by repeat (first | exact List.Mem.head _ | apply List.Mem.tail)) rfl (by rw [List.length_drop]; rfl) (by rw [List.nil_append, List.length_append, List.length_take, List.length_drop]; show (2 * (_ + 1 + _) + 768) * 24 ≤ _; omega)) (.inr (by rintro _ _ ⟨pn, dn, rfl, rfl⟩ w h; exact h.subD)) rfl ?_ DAll.nil)
                    rintro _ _ ⟨pn, dn, rfl, rfl⟩
                    refine D.all (rs := [20]) (by kernel_rfl) rfl (DAll.cons rfl (by kernel_rfl) (OpQ.loud (q_nilCheck rfl)) (.inl (by kernel_rfl)) rfl ?_ DAll.nil)
                    rintro _ _ ⟨rfl, rfl⟩
                    refine D.all (rs := [21]) (by kernel_rfl) rfl (DAll.cons rfl (by kernel_rfl) (OpQ.loud (q_field fo_76_1 rfl)) (.inl (by kernel_rfl)) rfl ?_ DAll.nil)
                    rintro _ _ ⟨rfl, rfl⟩
                    refine D.all (rs := [22]) (by kernel_rfl) rfl (DAll.consN rfl (by kernel_rfl) (l_store1 ck_74 rfl rfl rfl (by repeat (first | exact Pick.here | apply Pick.there)) (by repeat (first | exact SetAt.here | apply SetAt.there))) (.inl (by kernel_rfl)) rfl ?_ DAll.nil)
                    rintro _ _ ⟨rfl, rfl⟩
                    refine D.done (by kernel_rfl) ?_
                    refine K.seq ?_
                    refine K.region ?_
                    refine KO.q rfl (q_assign rfl) ?_
                    refine KO.done ?_
                    refine K.ret (fn := Tryz.f34) Tryz.func34 (fun a w hk hs => res1 Tryz.results34 hk rfl) (fun w hs => ?_)
                    rw [hr]
                    exact ⟨_, RkL b q1 c1 pn dn (k.wait _), rfl, ⟨q1, c1, pn, dn, rfl, rfl⟩, hs.fitD⟩
                  · rintro _ _ ⟨b129, rfl, rfl⟩
                    refine D.st (fun w h => rowO_nil (k := Kd.oneW) 59 h) ?_
                    refine D.all (rs := [7]) (by kernel_rfl) rfl (DAll.cons rfl (by kernel_rfl) (l_append Kd.oneW (ys := k.line.take (k.waitAt who)) se_74 Tryz.underlying74 ⟨_, ze_59, rfl⟩ (by decide) rfl rfl (by repeat (first | exact Pick.here | apply Pick.there)) (isRow_take isO (k.waitAt who)) (by repeat (first | exact List.Mem.head _ | apply List.Mem.tail)) rfl (by rw [List.length_take]; omega) (by rw [List.length_take]; show (2 * (0 + _) + 768) * 24 ≤ _; omega)) (.inr (by rintro _ _ ⟨pa, ca, rfl, rfl⟩ w h; exact h.subD)) rfl ?_ DAll.nil)
                    rintro _ _ ⟨pa, ca, rfl, rfl⟩
                    refine D.all (rs := [12]) (by kernel_rfl) rfl (DAll.cons rfl (by kernel_rfl) (l_append Kd.oneW se_74 Tryz.underlying74 ⟨_, ze_59, rfl⟩ (by decide) rfl rfl (by repeat (first | exact Pick.here | apply Pick.there)) isP (by repeat (first | exact List.Mem.head _ | apply List.Mem.tail)) rfl rfl (by rw [List.nil_append, List.length_take]; show (2 * (_ + 1) + 768) * 24 ≤ _; omega)) (.inr (by rintro _ _ ⟨pb, cb, rfl, rfl⟩ w h; exact h.subD)) rfl ?_ DAll.nil)
                    rintro _ _ ⟨pb, cb, rfl, rfl⟩
                    refine D.all (rs := [19]) (by kernel_rfl) rfl (DAll.cons rfl (by kernel_rfl) (l_append Kd.oneW se_74 Tryz.underlying74 ⟨_, ze_59, rfl⟩ (by decide) rfl rfl (by repeat (first | exact Pick.here | apply Pick.there)) (isO_cut (k.waitAt who)) (by repeat (first | exact List.Mem.head _ | apply List.Mem.tail)) rfl (by rw [List.length_drop]; rfl) (by rw [List.nil_append, List.length_append, List.length_take, List.length_drop]; show (2 * (_ + 1 + _) + 768) * 24 ≤ _; omega)) (.inr (by rintro _ _ ⟨pn, dn, rfl, rfl⟩ w h; exact h.subD)) rfl ?_ DAll.nil)
                    rintro _ _ ⟨pn, dn, rfl, rfl⟩
                    refine D.all (rs := [20]) (by kernel_rfl) rfl (DAll.cons rfl (by kernel_rfl) (OpQ.loud (q_nilCheck rfl)) (.inl (by kernel_rfl)) rfl ?_ DAll.nil)
                    rintro _ _ ⟨rfl, rfl⟩
                    refine D.all (rs := [21]) (by kernel_rfl) rfl (DAll.cons rfl (by kernel_rfl) (OpQ.loud (q_field fo_76_1 rfl)) (.inl (by kernel_rfl)) rfl ?_ DAll.nil)
                    rintro _ _ ⟨rfl, rfl⟩
                    refine D.all (rs := [22]) (by kernel_rfl) rfl (DAll.consN rfl (by kernel_rfl) (l_store1 ck_74 rfl rfl rfl (by repeat (first | exact Pick.here | apply Pick.there)) (by repeat (first | exact SetAt.here | apply SetAt.there))) (.inl (by kernel_rfl)) rfl ?_ DAll.nil)
                    rintro _ _ ⟨rfl, rfl⟩
                    refine D.done (by kernel_rfl) ?_
                    refine K.seq ?_
                    refine K.region ?_
                    refine KO.q rfl (q_assign rfl) ?_
                    refine KO.done ?_
                    refine K.ret (fn := Tryz.f34) Tryz.func34 (fun a w hk hs => res1 Tryz.results34 hk rfl) (fun w hs => ?_)
                    rw [hr]
                    exact ⟨_, RkL b q1 c1 pn dn (k.wait _), rfl, ⟨q1, c1, pn, dn, rfl, rfl⟩, hs.fitD⟩
              · have hat : k.waitAt who = j := by
                  unfold Lk.waitAt
                  rw [if_pos (show k.has who = true from decide_eq_true g27)]
                  exact wAt_eq hz (.inl (by omega))
                subst hat
                refine D.skip 8 rfl (by kernel_rfl) (by kernel_rfl) (fun _ h => h.subD) ?_
                refine D.skip 9 rfl (by kernel_rfl) (by kernel_rfl) (fun _ h => h.subD) ?_
                refine D.skip 10 rfl (by kernel_rfl) (by kernel_rfl) (fun _ h => h.subD) ?_
                refine D.skip 11 rfl (by kernel_rfl) (by kernel_rfl) (fun _ h => h.subD) ?_
                refine D.skip 12 rfl (by kernel_rfl) (by kernel_rfl) (fun _ h => h.subD) ?_
                refine D.skip 13 rfl (by kernel_rfl) (by kernel_rfl) (fun _ h => h.subD) ?_
                refine D.skip 14 rfl (by kernel_rfl) (by kernel_rfl) (fun _ h => h.subD) ?_
                refine D.skip 15 rfl (by kernel_rfl) (by kernel_rfl) (fun _ h => h.subD) ?_
                refine D.skip 16 rfl (by kernel_rfl) (by kernel_rfl) (fun _ h => h.subD) ?_
                refine D.skip 17 rfl (by kernel_rfl) (by kernel_rfl) (fun _ h => h.subD) ?_
                refine D.skip 18 rfl (by kernel_rfl) (by kernel_rfl) (fun _ h => h.subD) ?_
                refine D.skip 19 rfl (by kernel_rfl) (by kernel_rfl) (fun _ h => h.subD) ?_
                refine D.skip 20 rfl (by kernel_rfl) (by kernel_rfl) (fun _ h => h.subD) ?_
                refine D.skip 21 rfl (by kernel_rfl) (by kernel_rfl) (fun _ h => h.subD) ?_
                refine D.q 22 rfl (by kernel_rfl) (by kernel_rfl) (q_pickF rfl rfl) (fun _ h => h.subD) ?_
                refine D.done (by kernel_rfl) ?_
                refine K.no rfl ?_
                refine K.exit rfl ?_
                refine K.seq ?_
                refine K.drawS [pv b 76 [.slice q1 k.hold.length c1, .slice q2 k.line.length c2], RowO Kd.oneW 59 q2 c2 k.line] (fun _ h => h.subD) mixed ?_
                refine D.q 0 rfl (by kernel_rfl) (by kernel_rfl) (q_move rfl) (fun _ h => h.subD) ?_
                refine D.q 1 rfl (by kernel_rfl) (by kernel_rfl) (q_move rfl) (fun _ h => h.subD) ?_
                refine D.q 2 rfl (by kernel_rfl) (by kernel_rfl) (q_nilCheck rfl) (fun _ h => h.subD) ?_
                refine D.q 3 rfl (by kernel_rfl) (by kernel_rfl) (q_field fo_76_1 rfl) (fun _ h => h.subD) ?_
                refine D.q 4 rfl (by kernel_rfl) (by kernel_rfl) (q_load1D ck_74 rfl) (fun _ h => h.subD) ?_
                refine D.q 5 rfl (by kernel_rfl) (by kernel_rfl) (q_move rfl) (fun _ h => h.subD) ?_
                refine D.q 6 rfl (by kernel_rfl) (by kernel_rfl) (q_cutH se_74 rfl rfl (by first | omega | (simp; omega)) (by first | omega | (simp; omega))) (fun _ h => h.subD) ?_
                refine D.q 8 rfl (by kernel_rfl) (by kernel_rfl) (q_move rfl) (fun _ h => h.subD) ?_
                refine D.q 9 rfl (by kernel_rfl) (by kernel_rfl) (q_move rfl) (fun _ h => h.subD) ?_
                refine D.q 10 rfl (by kernel_rfl) (by kernel_rfl) (q_as (q_build st_59 rfl (by repeat (first | exact Fill.nil | (apply Fill.cons; rfl; rfl; rfl) | exact SetN.nil | apply SetN.cons | exact SetAt.here | apply SetAt.there))) (show _ = One.lineC ⟨_, _⟩ from rfl)) (fun _ h => h.subD) ?_
                refine D.q 13 rfl (by kernel_rfl) (by kernel_rfl) (q_move rfl) (fun _ h => h.subD) ?_
                refine D.q 14 rfl (by kernel_rfl) (by kernel_rfl) (q_nilCheck rfl) (fun _ h => h.subD) ?_
                refine D.q 15 rfl (by kernel_rfl) (by kernel_rfl) (q_field fo_76_1 rfl) (fun _ h => h.subD) ?_
                refine D.q 16 rfl (by kernel_rfl) (by kernel_rfl) (q_load1D ck_74 rfl) (fun _ h => h.subD) ?_
                refine D.q 17 rfl (by kernel_rfl) (by kernel_rfl) (q_move rfl) (fun _ h => h.subD) ?_
                refine D.q 18 rfl (by kernel_rfl) (by kernel_rfl) (q_cutL se_74 rfl rfl (by first | omega | (simp; omega)) (by first | omega | (simp; omega)) (by first | omega | (simp; omega))) (fun _ h => h.subD) ?_
                refine D.st (fun w h => rowO_nil (k := Kd.oneW) 59 h) ?_
                refine D.all (rs := [7, 11]) (by kernel_rfl) rfl (DAll.cons rfl (by kernel_rfl) (l_append Kd.oneW (ys := k.line.take (k.waitAt who)) se_74 Tryz.underlying74 ⟨_, ze_59, rfl⟩ (by decide) rfl rfl (by repeat (first | exact Pick.here | apply Pick.there)) (isRow_take isO (k.waitAt who)) (by repeat (first | exact List.Mem.head _ | apply List.Mem.tail)) rfl (by rw [List.length_take]; omega) (by rw [List.length_take]; show (2 * (0 + _) + 768) * 24 ≤ _; omega)) (.inr (by rintro _ _ ⟨pa, ca, rfl, rfl⟩ w h; exact h.subD)) rfl ?_ (DAll.cons rfl (by kernel_rfl) (l_slice1 sz_74_1 rfl rfl ⟨rfl, rfl, rfl⟩) (.inr (by rintro _ _ ⟨b129, rfl, rfl⟩ w h; exact h.subD)) rfl ?_ DAll.nil))
                · rintro _ _ ⟨pa, ca, rfl, rfl⟩
                  refine D.all (rs := [11]) (by kernel_rfl) rfl (DAll.cons rfl (by kernel_rfl) (l_slice1 sz_74_1 rfl rfl ⟨rfl, rfl, rfl⟩) (.inr (by rintro _ _ ⟨b129, rfl, rfl⟩ w h; exact h.subD)) rfl ?_ DAll.nil)
                  rintro _ _ ⟨b129, rfl, rfl⟩
                  refine D.all (rs := [12]) (by kernel_rfl) rfl (DAll.cons rfl (by kernel_rfl) (l_append Kd.oneW se_74 Tryz.underlying74 ⟨_, ze_59, rfl⟩ (by decide) rfl rfl (by repeat (first | exact Pick.here | apply Pick.there)) isP (by repeat (first | exact List.Mem.head _ | apply List.Mem.tail)) rfl rfl (by rw [List.nil_append, List.length_take]; show (2 * (_ + 1) + 768) * 24 ≤ _; omega)) (.inr (by rintro _ _ ⟨pb, cb, rfl, rfl⟩ w h; exact h.subD)) rfl ?_ DAll.nil)
                  rintro _ _ ⟨pb, cb, rfl, rfl⟩
                  refine D.all (rs := [19]) (by kernel_rfl) rfl (DAll.cons rfl (by kernel_rfl) (l_append Kd.oneW se_74 Tryz.underlying74 ⟨_, ze_59, rfl⟩ (by decide) rfl rfl (by repeat (first | exact Pick.here | apply Pick.there)) (isO_cut (k.waitAt who)) (by repeat (first | exact List.Mem.head _ | apply List.Mem.tail)) rfl (by rw [List.length_drop]; rfl) (by rw [List.nil_append, List.length_append, List.length_take, List.length_drop]; show (2 * (_ + 1 + _) + 768) * 24 ≤ _; omega)) (.inr (by rintro _ _ ⟨pn, dn, rfl, rfl⟩ w h; exact h.subD)) rfl ?_ DAll.nil)
                  rintro _ _ ⟨pn, dn, rfl, rfl⟩
                  refine D.all (rs := [20]) (by kernel_rfl) rfl (DAll.cons rfl (by kernel_rfl) (OpQ.loud (q_nilCheck rfl)) (.inl (by kernel_rfl)) rfl ?_ DAll.nil)
                  rintro _ _ ⟨rfl, rfl⟩
                  refine D.all (rs := [21]) (by kernel_rfl) rfl (DAll.cons rfl (by kernel_rfl) (OpQ.loud (q_field fo_76_1 rfl)) (.inl (by kernel_rfl)) rfl ?_ DAll.nil)
                  rintro _ _ ⟨rfl, rfl⟩
                  refine D.all (rs := [22]) (by kernel_rfl) rfl (DAll.consN rfl (by kernel_rfl) (l_store1 ck_74 rfl rfl rfl (by repeat (first | exact Pick.here | apply Pick.there)) (by repeat (first | exact SetAt.here | apply SetAt.there))) (.inl (by kernel_rfl)) rfl ?_ DAll.nil)
                  rintro _ _ ⟨rfl, rfl⟩
                  refine D.done (by kernel_rfl) ?_
                  refine K.seq ?_
                  refine K.region ?_
                  refine KO.q rfl (q_assign rfl) ?_
                  refine KO.done ?_
                  refine K.ret (fn := Tryz.f34) Tryz.func34 (fun a w hk hs => res1 Tryz.results34 hk rfl) (fun w hs => ?_)
                  rw [hr]
                  exact ⟨_, RkL b q1 c1 pn dn (k.wait _), rfl, ⟨q1, c1, pn, dn, rfl, rfl⟩, hs.fitD⟩
                · rintro _ _ ⟨b129, rfl, rfl⟩
                  refine D.st (fun w h => rowO_nil (k := Kd.oneW) 59 h) ?_
                  refine D.all (rs := [7]) (by kernel_rfl) rfl (DAll.cons rfl (by kernel_rfl) (l_append Kd.oneW (ys := k.line.take (k.waitAt who)) se_74 Tryz.underlying74 ⟨_, ze_59, rfl⟩ (by decide) rfl rfl (by repeat (first | exact Pick.here | apply Pick.there)) (isRow_take isO (k.waitAt who)) (by repeat (first | exact List.Mem.head _ | apply List.Mem.tail)) rfl (by rw [List.length_take]; omega) (by rw [List.length_take]; show (2 * (0 + _) + 768) * 24 ≤ _; omega)) (.inr (by rintro _ _ ⟨pa, ca, rfl, rfl⟩ w h; exact h.subD)) rfl ?_ DAll.nil)
                  rintro _ _ ⟨pa, ca, rfl, rfl⟩
                  refine D.all (rs := [12]) (by kernel_rfl) rfl (DAll.cons rfl (by kernel_rfl) (l_append Kd.oneW se_74 Tryz.underlying74 ⟨_, ze_59, rfl⟩ (by decide) rfl rfl (by repeat (first | exact Pick.here | apply Pick.there)) isP (by repeat (first | exact List.Mem.head _ | apply List.Mem.tail)) rfl rfl (by rw [List.nil_append, List.length_take]; show (2 * (_ + 1) + 768) * 24 ≤ _; omega)) (.inr (by rintro _ _ ⟨pb, cb, rfl, rfl⟩ w h; exact h.subD)) rfl ?_ DAll.nil)
                  rintro _ _ ⟨pb, cb, rfl, rfl⟩
                  refine D.all (rs := [19]) (by kernel_rfl) rfl (DAll.cons rfl (by kernel_rfl) (l_append Kd.oneW se_74 Tryz.underlying74 ⟨_, ze_59, rfl⟩ (by decide) rfl rfl (by repeat (first | exact Pick.here | apply Pick.there)) (isO_cut (k.waitAt who)) (by repeat (first | exact List.Mem.head _ | apply List.Mem.tail)) rfl (by rw [List.length_drop]; rfl) (by rw [List.nil_append, List.length_append, List.length_take, List.length_drop]; show (2 * (_ + 1 + _) + 768) * 24 ≤ _; omega)) (.inr (by rintro _ _ ⟨pn, dn, rfl, rfl⟩ w h; exact h.subD)) rfl ?_ DAll.nil)
                  rintro _ _ ⟨pn, dn, rfl, rfl⟩
                  refine D.all (rs := [20]) (by kernel_rfl) rfl (DAll.cons rfl (by kernel_rfl) (OpQ.loud (q_nilCheck rfl)) (.inl (by kernel_rfl)) rfl ?_ DAll.nil)
                  rintro _ _ ⟨rfl, rfl⟩
                  refine D.all (rs := [21]) (by kernel_rfl) rfl (DAll.cons rfl (by kernel_rfl) (OpQ.loud (q_field fo_76_1 rfl)) (.inl (by kernel_rfl)) rfl ?_ DAll.nil)
                  rintro _ _ ⟨rfl, rfl⟩
                  refine D.all (rs := [22]) (by kernel_rfl) rfl (DAll.consN rfl (by kernel_rfl) (l_store1 ck_74 rfl rfl rfl (by repeat (first | exact Pick.here | apply Pick.there)) (by repeat (first | exact SetAt.here | apply SetAt.there))) (.inl (by kernel_rfl)) rfl ?_ DAll.nil)
                  rintro _ _ ⟨rfl, rfl⟩
                  refine D.done (by kernel_rfl) ?_
                  refine K.seq ?_
                  refine K.region ?_
                  refine KO.q rfl (q_assign rfl) ?_
                  refine KO.done ?_
                  refine K.ret (fn := Tryz.f34) Tryz.func34 (fun a w hk hs => res1 Tryz.results34 hk rfl) (fun w hs => ?_)
                  rw [hr]
                  exact ⟨_, RkL b q1 c1 pn dn (k.wait _), rfl, ⟨q1, c1, pn, dn, rfl, rfl⟩, hs.fitD⟩
            · exact absurd g27 g92
      · refine K.skip <| K.seq <| K.seq ?_
        refine K.region ?_
        refine KO.q rfl (q_move rfl) ?_
        refine KO.q rfl (q_move rfl) ?_
        refine KO.q rfl (q_move rfl) ?_
        refine KO.loud rfl (OpL.callD rfl (h := rf_fits b q1 c1 q2 c2 k ⟨who, modeOf m⟩ hl)) ?_
        rintro _ _ ⟨_, ⟨rfl, rfl⟩, rfl⟩
        refine KO.q rfl (q_move rfl) ?_
        refine KO.split 52 rfl (fun g52 => ?_) (fun g52 => ?_)
        · refine KO.q rfl (q_move rfl) ?_
          refine KO.q rfl (q_nilCheck rfl) ?_
          refine KO.q rfl (q_field fo_76_1 rfl) ?_
          refine KO.q rfl (q_load1D ck_74 rfl) ?_
          refine KO.q rfl (q_len Tryz.underlying74 rfl) ?_
          refine KO.q rfl (q_eq rfl rfl) ?_
          refine KO.q rfl (q_move rfl) ?_
          refine KO.dsplit 59 rfl (fun g59 => ?_) (fun g59 => ?_)
          · have hr : k.ask who m = (true, k.grant ⟨who, modeOf m⟩) := by unfold Lk.ask; rw [if_neg g12, if_neg g19, if_neg g27, if_pos (by rw [g52, decide_eq_true (by omega)]; rfl)]
            refine KO.skip rfl ?_
            refine KO.skip rfl ?_
            refine KO.q rfl (q_pickT rfl rfl) ?_
            refine KO.q rfl (q_pickT rfl rfl) ?_
            refine KO.done ?_
            refine K.yes rfl ?_
            refine K.seq <| K.seq ?_
            refine K.region ?_
            refine KO.q rfl (q_move rfl) ?_
            refine KO.q rfl (q_ge rfl rfl) ?_
            refine KO.done ?_
            refine K.dcond (s := 65) rfl (fun g65 => ?_) (fun g65 => ?_)
            · exact absurd g65 g27
            · refine K.region ?_
              refine KO.q rfl (q_move rfl) ?_
              refine KO.q rfl (q_move rfl) ?_
              refine KO.q rfl (q_nilCheck rfl) ?_
              refine KO.q rfl (q_field fo_76_0 rfl) ?_
              refine KO.q rfl (q_load1D ck_74 rfl) ?_
              refine KO.q rfl (q_move rfl) ?_
              refine KO.q rfl (q_move rfl) ?_
              refine KO.q rfl (q_as (q_build st_59 rfl (by repeat (first | exact Fill.nil | (apply Fill.cons; rfl; rfl; rfl) | exact SetN.nil | apply SetN.cons | exact SetAt.here | apply SetAt.there))) (show _ = One.heldC ⟨who, modeOf m⟩ from rfl)) ?_
              refine KO.loud rfl (l_slice1 sz_74_1 rfl rfl ⟨rfl, rfl, rfl⟩) ?_
              rintro _ _ ⟨b82, rfl, rfl⟩
              refine KO.loud rfl (l_append Kd.oneH se_74 Tryz.underlying74 ⟨_, ze_59, rfl⟩ (by decide) rfl rfl (by repeat (first | exact Pick.here | apply Pick.there)) isP (by repeat (first | exact List.Mem.head _ | apply List.Mem.tail)) rfl rfl (by show (2 * (k.hold.length + 1) + 768) * 24 ≤ _; omega)) ?_
              rintro _ _ ⟨pn, dn, rfl, rfl⟩
              refine KO.q rfl (q_nilCheck rfl) ?_
              refine KO.q rfl (q_field fo_76_0 rfl) ?_
              refine KO.loudN rfl (l_store1 ck_74 rfl rfl rfl (by repeat (first | exact Pick.here | apply Pick.there)) (by repeat (first | exact SetAt.here | apply SetAt.there))) ?_
              rintro _ _ ⟨rfl, rfl⟩
              refine KO.done ?_
              refine K.seq ?_
              refine K.region ?_
              refine KO.q rfl (q_assign rfl) ?_
              refine KO.done ?_
              refine K.ret (fn := Tryz.f34) Tryz.func34 (fun a w hk hs => res1 Tryz.results34 hk rfl) (fun w hs => ?_)
              rw [hr]
              have hg : k.grant ⟨who, modeOf m⟩ = ⟨k.hold ++ [⟨who, modeOf m⟩], k.line⟩ := by unfold Lk.grant; rw [if_neg g27]
              exact ⟨_, RkL b pn dn q2 c2 ⟨k.hold ++ [⟨who, modeOf m⟩], k.line⟩, rfl, ⟨pn, dn, q2, c2, rfl, by rw [hg]⟩, hs.fitD⟩
          · have hr : k.ask who m = (false, k.wait ⟨who, modeOf m⟩) := by unfold Lk.ask; rw [if_neg g12, if_neg g19, if_neg g27, if_neg (by rw [g52, decide_eq_false (by omega)]; decide)]
            refine KO.q rfl (q_move rfl) ?_
            refine KO.q rfl (q_ge rfl rfl) ?_
            refine KO.q rfl (q_pickF rfl rfl) ?_
            refine KO.q rfl (q_pickT rfl rfl) ?_
            refine KO.done ?_
            refine K.dcond (s := 63) rfl (fun g63 => ?_) (fun g63 => ?_)
            · exact absurd g63 g27
            · refine K.skip <| K.seq ?_
              refine K.region ?_
              refine KO.q rfl (q_move rfl) ?_
              refine KO.q rfl (q_nilCheck rfl) ?_
              refine KO.q rfl (q_field fo_76_1 rfl) ?_
              refine KO.q rfl (q_load1D ck_74 rfl) ?_
              refine KO.q rfl (q_len Tryz.underlying74 rfl) ?_
              refine KO.q rfl (q_assign rfl) ?_
              refine KO.done ?_
              refine K.seq <| K.seq ?_
              refine K.region ?_
              refine KO.q rfl (q_move rfl) ?_
              refine KO.q rfl (q_ge rfl rfl) ?_
              refine KO.done ?_
              refine K.dcond (s := 92) rfl (fun g92 => ?_) (fun g92 => ?_)
              · exact absurd g92 g27
              · have hat : k.waitAt who = k.line.length := by unfold Lk.waitAt; rw [if_neg (by unfold Lk.has; rw [decide_eq_false g27]; exact Bool.false_ne_true)]
                have hj := k.waitAt_le who
                refine K.subE (E' := [(0, .pointer (some ⟨b, 0, none⟩)), (1, .int .i64 who), (2, .int .i64 (modeOf m)), (92, .bool false), (8, .int .i64 (k.waitAt who))]) (Env.sub_cons rfl (Env.sub_cons rfl (Env.sub_cons rfl (Env.sub_cons rfl (Env.sub_cons (by show some (Value.int .i64 _) = some (Value.int .i64 _); rw [hat]) (Env.sub_nil _)))))) ?_
                refine K.skip <| K.seq ?_
                refine K.drawS [pv b 76 [.slice q1 k.hold.length c1, .slice q2 k.line.length c2], RowO Kd.oneW 59 q2 c2 k.line] (fun _ h => h.subD) mixed ?_
                refine D.q 0 rfl (by kernel_rfl) (by kernel_rfl) (q_move rfl) (fun _ h => h.subD) ?_
                refine D.q 1 rfl (by kernel_rfl) (by kernel_rfl) (q_move rfl) (fun _ h => h.subD) ?_
                refine D.q 2 rfl (by kernel_rfl) (by kernel_rfl) (q_nilCheck rfl) (fun _ h => h.subD) ?_
                refine D.q 3 rfl (by kernel_rfl) (by kernel_rfl) (q_field fo_76_1 rfl) (fun _ h => h.subD) ?_
                refine D.q 4 rfl (by kernel_rfl) (by kernel_rfl) (q_load1D ck_74 rfl) (fun _ h => h.subD) ?_
                refine D.q 5 rfl (by kernel_rfl) (by kernel_rfl) (q_move rfl) (fun _ h => h.subD) ?_
                refine D.q 6 rfl (by kernel_rfl) (by kernel_rfl) (q_cutH se_74 rfl rfl (by first | omega | (simp; omega)) (by first | omega | (simp; omega))) (fun _ h => h.subD) ?_
                refine D.q 8 rfl (by kernel_rfl) (by kernel_rfl) (q_move rfl) (fun _ h => h.subD) ?_
                refine D.q 9 rfl (by kernel_rfl) (by kernel_rfl) (q_move rfl) (fun _ h => h.subD) ?_
                refine D.q 10 rfl (by kernel_rfl) (by kernel_rfl) (q_as (q_build st_59 rfl (by repeat (first | exact Fill.nil | (apply Fill.cons; rfl; rfl; rfl) | exact SetN.nil | apply SetN.cons | exact SetAt.here | apply SetAt.there))) (show _ = One.lineC ⟨_, _⟩ from rfl)) (fun _ h => h.subD) ?_
                refine D.q 13 rfl (by kernel_rfl) (by kernel_rfl) (q_move rfl) (fun _ h => h.subD) ?_
                refine D.q 14 rfl (by kernel_rfl) (by kernel_rfl) (q_nilCheck rfl) (fun _ h => h.subD) ?_
                refine D.q 15 rfl (by kernel_rfl) (by kernel_rfl) (q_field fo_76_1 rfl) (fun _ h => h.subD) ?_
                refine D.q 16 rfl (by kernel_rfl) (by kernel_rfl) (q_load1D ck_74 rfl) (fun _ h => h.subD) ?_
                refine D.q 17 rfl (by kernel_rfl) (by kernel_rfl) (q_move rfl) (fun _ h => h.subD) ?_
                refine D.q 18 rfl (by kernel_rfl) (by kernel_rfl) (q_cutL se_74 rfl rfl (by first | omega | (simp; omega)) (by first | omega | (simp; omega)) (by first | omega | (simp; omega))) (fun _ h => h.subD) ?_
                refine D.st (fun w h => rowO_nil (k := Kd.oneW) 59 h) ?_
                refine D.all (rs := [7, 11]) (by kernel_rfl) rfl (DAll.cons rfl (by kernel_rfl) (l_append Kd.oneW (ys := k.line.take (k.waitAt who)) se_74 Tryz.underlying74 ⟨_, ze_59, rfl⟩ (by decide) rfl rfl (by repeat (first | exact Pick.here | apply Pick.there)) (isRow_take isO (k.waitAt who)) (by repeat (first | exact List.Mem.head _ | apply List.Mem.tail)) rfl (by rw [List.length_take]; omega) (by rw [List.length_take]; show (2 * (0 + _) + 768) * 24 ≤ _; omega)) (.inr (by rintro _ _ ⟨pa, ca, rfl, rfl⟩ w h; exact h.subD)) rfl ?_ (DAll.cons rfl (by kernel_rfl) (l_slice1 sz_74_1 rfl rfl ⟨rfl, rfl, rfl⟩) (.inr (by rintro _ _ ⟨b129, rfl, rfl⟩ w h; exact h.subD)) rfl ?_ DAll.nil))
                · rintro _ _ ⟨pa, ca, rfl, rfl⟩
                  refine D.all (rs := [11]) (by kernel_rfl) rfl (DAll.cons rfl (by kernel_rfl) (l_slice1 sz_74_1 rfl rfl ⟨rfl, rfl, rfl⟩) (.inr (by rintro _ _ ⟨b129, rfl, rfl⟩ w h; exact h.subD)) rfl ?_ DAll.nil)
                  rintro _ _ ⟨b129, rfl, rfl⟩
                  refine D.all (rs := [12]) (by kernel_rfl) rfl (DAll.cons rfl (by kernel_rfl) (l_append Kd.oneW se_74 Tryz.underlying74 ⟨_, ze_59, rfl⟩ (by decide) rfl rfl (by repeat (first | exact Pick.here | apply Pick.there)) isP (by repeat (first | exact List.Mem.head _ | apply List.Mem.tail)) rfl rfl (by rw [List.nil_append, List.length_take]; show (2 * (_ + 1) + 768) * 24 ≤ _; omega)) (.inr (by rintro _ _ ⟨pb, cb, rfl, rfl⟩ w h; exact h.subD)) rfl ?_ DAll.nil)
                  rintro _ _ ⟨pb, cb, rfl, rfl⟩
                  refine D.all (rs := [19]) (by kernel_rfl) rfl (DAll.cons rfl (by kernel_rfl) (l_append Kd.oneW se_74 Tryz.underlying74 ⟨_, ze_59, rfl⟩ (by decide) rfl rfl (by repeat (first | exact Pick.here | apply Pick.there)) (isO_cut (k.waitAt who)) (by repeat (first | exact List.Mem.head _ | apply List.Mem.tail)) rfl (by rw [List.length_drop]; rfl) (by rw [List.nil_append, List.length_append, List.length_take, List.length_drop]; show (2 * (_ + 1 + _) + 768) * 24 ≤ _; omega)) (.inr (by rintro _ _ ⟨pn, dn, rfl, rfl⟩ w h; exact h.subD)) rfl ?_ DAll.nil)
                  rintro _ _ ⟨pn, dn, rfl, rfl⟩
                  refine D.all (rs := [20]) (by kernel_rfl) rfl (DAll.cons rfl (by kernel_rfl) (OpQ.loud (q_nilCheck rfl)) (.inl (by kernel_rfl)) rfl ?_ DAll.nil)
                  rintro _ _ ⟨rfl, rfl⟩
                  refine D.all (rs := [21]) (by kernel_rfl) rfl (DAll.cons rfl (by kernel_rfl) (OpQ.loud (q_field fo_76_1 rfl)) (.inl (by kernel_rfl)) rfl ?_ DAll.nil)
                  rintro _ _ ⟨rfl, rfl⟩
                  refine D.all (rs := [22]) (by kernel_rfl) rfl (DAll.consN rfl (by kernel_rfl) (l_store1 ck_74 rfl rfl rfl (by repeat (first | exact Pick.here | apply Pick.there)) (by repeat (first | exact SetAt.here | apply SetAt.there))) (.inl (by kernel_rfl)) rfl ?_ DAll.nil)
                  rintro _ _ ⟨rfl, rfl⟩
                  refine D.done (by kernel_rfl) ?_
                  refine K.seq ?_
                  refine K.region ?_
                  refine KO.q rfl (q_assign rfl) ?_
                  refine KO.done ?_
                  refine K.ret (fn := Tryz.f34) Tryz.func34 (fun a w hk hs => res1 Tryz.results34 hk rfl) (fun w hs => ?_)
                  rw [hr]
                  exact ⟨_, RkL b q1 c1 pn dn (k.wait _), rfl, ⟨q1, c1, pn, dn, rfl, rfl⟩, hs.fitD⟩
                · rintro _ _ ⟨b129, rfl, rfl⟩
                  refine D.st (fun w h => rowO_nil (k := Kd.oneW) 59 h) ?_
                  refine D.all (rs := [7]) (by kernel_rfl) rfl (DAll.cons rfl (by kernel_rfl) (l_append Kd.oneW (ys := k.line.take (k.waitAt who)) se_74 Tryz.underlying74 ⟨_, ze_59, rfl⟩ (by decide) rfl rfl (by repeat (first | exact Pick.here | apply Pick.there)) (isRow_take isO (k.waitAt who)) (by repeat (first | exact List.Mem.head _ | apply List.Mem.tail)) rfl (by rw [List.length_take]; omega) (by rw [List.length_take]; show (2 * (0 + _) + 768) * 24 ≤ _; omega)) (.inr (by rintro _ _ ⟨pa, ca, rfl, rfl⟩ w h; exact h.subD)) rfl ?_ DAll.nil)
                  rintro _ _ ⟨pa, ca, rfl, rfl⟩
                  refine D.all (rs := [12]) (by kernel_rfl) rfl (DAll.cons rfl (by kernel_rfl) (l_append Kd.oneW se_74 Tryz.underlying74 ⟨_, ze_59, rfl⟩ (by decide) rfl rfl (by repeat (first | exact Pick.here | apply Pick.there)) isP (by repeat (first | exact List.Mem.head _ | apply List.Mem.tail)) rfl rfl (by rw [List.nil_append, List.length_take]; show (2 * (_ + 1) + 768) * 24 ≤ _; omega)) (.inr (by rintro _ _ ⟨pb, cb, rfl, rfl⟩ w h; exact h.subD)) rfl ?_ DAll.nil)
                  rintro _ _ ⟨pb, cb, rfl, rfl⟩
                  refine D.all (rs := [19]) (by kernel_rfl) rfl (DAll.cons rfl (by kernel_rfl) (l_append Kd.oneW se_74 Tryz.underlying74 ⟨_, ze_59, rfl⟩ (by decide) rfl rfl (by repeat (first | exact Pick.here | apply Pick.there)) (isO_cut (k.waitAt who)) (by repeat (first | exact List.Mem.head _ | apply List.Mem.tail)) rfl (by rw [List.length_drop]; rfl) (by rw [List.nil_append, List.length_append, List.length_take, List.length_drop]; show (2 * (_ + 1 + _) + 768) * 24 ≤ _; omega)) (.inr (by rintro _ _ ⟨pn, dn, rfl, rfl⟩ w h; exact h.subD)) rfl ?_ DAll.nil)
                  rintro _ _ ⟨pn, dn, rfl, rfl⟩
                  refine D.all (rs := [20]) (by kernel_rfl) rfl (DAll.cons rfl (by kernel_rfl) (OpQ.loud (q_nilCheck rfl)) (.inl (by kernel_rfl)) rfl ?_ DAll.nil)
                  rintro _ _ ⟨rfl, rfl⟩
                  refine D.all (rs := [21]) (by kernel_rfl) rfl (DAll.cons rfl (by kernel_rfl) (OpQ.loud (q_field fo_76_1 rfl)) (.inl (by kernel_rfl)) rfl ?_ DAll.nil)
                  rintro _ _ ⟨rfl, rfl⟩
                  refine D.all (rs := [22]) (by kernel_rfl) rfl (DAll.consN rfl (by kernel_rfl) (l_store1 ck_74 rfl rfl rfl (by repeat (first | exact Pick.here | apply Pick.there)) (by repeat (first | exact SetAt.here | apply SetAt.there))) (.inl (by kernel_rfl)) rfl ?_ DAll.nil)
                  rintro _ _ ⟨rfl, rfl⟩
                  refine D.done (by kernel_rfl) ?_
                  refine K.seq ?_
                  refine K.region ?_
                  refine KO.q rfl (q_assign rfl) ?_
                  refine KO.done ?_
                  refine K.ret (fn := Tryz.f34) Tryz.func34 (fun a w hk hs => res1 Tryz.results34 hk rfl) (fun w hs => ?_)
                  rw [hr]
                  exact ⟨_, RkL b q1 c1 pn dn (k.wait _), rfl, ⟨q1, c1, pn, dn, rfl, rfl⟩, hs.fitD⟩
        · have hr : k.ask who m = (false, k.wait ⟨who, modeOf m⟩) := by unfold Lk.ask; rw [if_neg g12, if_neg g19, if_neg g27, if_neg (by simp [g52])]
          refine KO.skip rfl ?_
          refine KO.skip rfl ?_
          refine KO.skip rfl ?_
          refine KO.skip rfl ?_
          refine KO.skip rfl ?_
          refine KO.skip rfl ?_
          refine KO.skip rfl ?_
          refine KO.gone rfl ?_
          refine KO.gone rfl ?_
          refine KO.skip rfl ?_
          refine KO.q rfl (q_pickF rfl rfl) ?_
          refine KO.done ?_
          refine K.no rfl ?_
          refine K.skip <| K.seq ?_
          refine K.region ?_
          refine KO.q rfl (q_move rfl) ?_
          refine KO.q rfl (q_nilCheck rfl) ?_
          refine KO.q rfl (q_field fo_76_1 rfl) ?_
          refine KO.q rfl (q_load1D ck_74 rfl) ?_
          refine KO.q rfl (q_len Tryz.underlying74 rfl) ?_
          refine KO.q rfl (q_assign rfl) ?_
          refine KO.done ?_
          refine K.seq <| K.seq ?_
          refine K.region ?_
          refine KO.q rfl (q_move rfl) ?_
          refine KO.q rfl (q_ge rfl rfl) ?_
          refine KO.done ?_
          refine K.dcond (s := 92) rfl (fun g92 => ?_) (fun g92 => ?_)
          · exact absurd g92 g27
          · have hat : k.waitAt who = k.line.length := by unfold Lk.waitAt; rw [if_neg (by unfold Lk.has; rw [decide_eq_false g27]; exact Bool.false_ne_true)]
            have hj := k.waitAt_le who
            refine K.subE (E' := [(0, .pointer (some ⟨b, 0, none⟩)), (1, .int .i64 who), (2, .int .i64 (modeOf m)), (92, .bool false), (8, .int .i64 (k.waitAt who))]) (Env.sub_cons rfl (Env.sub_cons rfl (Env.sub_cons rfl (Env.sub_cons rfl (Env.sub_cons (by show some (Value.int .i64 _) = some (Value.int .i64 _); rw [hat]) (Env.sub_nil _)))))) ?_
            refine K.skip <| K.seq ?_
            refine K.drawS [pv b 76 [.slice q1 k.hold.length c1, .slice q2 k.line.length c2], RowO Kd.oneW 59 q2 c2 k.line] (fun _ h => h.subD) mixed ?_
            refine D.q 0 rfl (by kernel_rfl) (by kernel_rfl) (q_move rfl) (fun _ h => h.subD) ?_
            refine D.q 1 rfl (by kernel_rfl) (by kernel_rfl) (q_move rfl) (fun _ h => h.subD) ?_
            refine D.q 2 rfl (by kernel_rfl) (by kernel_rfl) (q_nilCheck rfl) (fun _ h => h.subD) ?_
            refine D.q 3 rfl (by kernel_rfl) (by kernel_rfl) (q_field fo_76_1 rfl) (fun _ h => h.subD) ?_
            refine D.q 4 rfl (by kernel_rfl) (by kernel_rfl) (q_load1D ck_74 rfl) (fun _ h => h.subD) ?_
            refine D.q 5 rfl (by kernel_rfl) (by kernel_rfl) (q_move rfl) (fun _ h => h.subD) ?_
            refine D.q 6 rfl (by kernel_rfl) (by kernel_rfl) (q_cutH se_74 rfl rfl (by first | omega | (simp; omega)) (by first | omega | (simp; omega))) (fun _ h => h.subD) ?_
            refine D.q 8 rfl (by kernel_rfl) (by kernel_rfl) (q_move rfl) (fun _ h => h.subD) ?_
            refine D.q 9 rfl (by kernel_rfl) (by kernel_rfl) (q_move rfl) (fun _ h => h.subD) ?_
            refine D.q 10 rfl (by kernel_rfl) (by kernel_rfl) (q_as (q_build st_59 rfl (by repeat (first | exact Fill.nil | (apply Fill.cons; rfl; rfl; rfl) | exact SetN.nil | apply SetN.cons | exact SetAt.here | apply SetAt.there))) (show _ = One.lineC ⟨_, _⟩ from rfl)) (fun _ h => h.subD) ?_
            refine D.q 13 rfl (by kernel_rfl) (by kernel_rfl) (q_move rfl) (fun _ h => h.subD) ?_
            refine D.q 14 rfl (by kernel_rfl) (by kernel_rfl) (q_nilCheck rfl) (fun _ h => h.subD) ?_
            refine D.q 15 rfl (by kernel_rfl) (by kernel_rfl) (q_field fo_76_1 rfl) (fun _ h => h.subD) ?_
            refine D.q 16 rfl (by kernel_rfl) (by kernel_rfl) (q_load1D ck_74 rfl) (fun _ h => h.subD) ?_
            refine D.q 17 rfl (by kernel_rfl) (by kernel_rfl) (q_move rfl) (fun _ h => h.subD) ?_
            refine D.q 18 rfl (by kernel_rfl) (by kernel_rfl) (q_cutL se_74 rfl rfl (by first | omega | (simp; omega)) (by first | omega | (simp; omega)) (by first | omega | (simp; omega))) (fun _ h => h.subD) ?_
            refine D.st (fun w h => rowO_nil (k := Kd.oneW) 59 h) ?_
            refine D.all (rs := [7, 11]) (by kernel_rfl) rfl (DAll.cons rfl (by kernel_rfl) (l_append Kd.oneW (ys := k.line.take (k.waitAt who)) se_74 Tryz.underlying74 ⟨_, ze_59, rfl⟩ (by decide) rfl rfl (by repeat (first | exact Pick.here | apply Pick.there)) (isRow_take isO (k.waitAt who)) (by repeat (first | exact List.Mem.head _ | apply List.Mem.tail)) rfl (by rw [List.length_take]; omega) (by rw [List.length_take]; show (2 * (0 + _) + 768) * 24 ≤ _; omega)) (.inr (by rintro _ _ ⟨pa, ca, rfl, rfl⟩ w h; exact h.subD)) rfl ?_ (DAll.cons rfl (by kernel_rfl) (l_slice1 sz_74_1 rfl rfl ⟨rfl, rfl, rfl⟩) (.inr (by rintro _ _ ⟨b129, rfl, rfl⟩ w h; exact h.subD)) rfl ?_ DAll.nil))
            · rintro _ _ ⟨pa, ca, rfl, rfl⟩
              refine D.all (rs := [11]) (by kernel_rfl) rfl (DAll.cons rfl (by kernel_rfl) (l_slice1 sz_74_1 rfl rfl ⟨rfl, rfl, rfl⟩) (.inr (by rintro _ _ ⟨b129, rfl, rfl⟩ w h; exact h.subD)) rfl ?_ DAll.nil)
              rintro _ _ ⟨b129, rfl, rfl⟩
              refine D.all (rs := [12]) (by kernel_rfl) rfl (DAll.cons rfl (by kernel_rfl) (l_append Kd.oneW se_74 Tryz.underlying74 ⟨_, ze_59, rfl⟩ (by decide) rfl rfl (by repeat (first | exact Pick.here | apply Pick.there)) isP (by repeat (first | exact List.Mem.head _ | apply List.Mem.tail)) rfl rfl (by rw [List.nil_append, List.length_take]; show (2 * (_ + 1) + 768) * 24 ≤ _; omega)) (.inr (by rintro _ _ ⟨pb, cb, rfl, rfl⟩ w h; exact h.subD)) rfl ?_ DAll.nil)
              rintro _ _ ⟨pb, cb, rfl, rfl⟩
              refine D.all (rs := [19]) (by kernel_rfl) rfl (DAll.cons rfl (by kernel_rfl) (l_append Kd.oneW se_74 Tryz.underlying74 ⟨_, ze_59, rfl⟩ (by decide) rfl rfl (by repeat (first | exact Pick.here | apply Pick.there)) (isO_cut (k.waitAt who)) (by repeat (first | exact List.Mem.head _ | apply List.Mem.tail)) rfl (by rw [List.length_drop]; rfl) (by rw [List.nil_append, List.length_append, List.length_take, List.length_drop]; show (2 * (_ + 1 + _) + 768) * 24 ≤ _; omega)) (.inr (by rintro _ _ ⟨pn, dn, rfl, rfl⟩ w h; exact h.subD)) rfl ?_ DAll.nil)
              rintro _ _ ⟨pn, dn, rfl, rfl⟩
              refine D.all (rs := [20]) (by kernel_rfl) rfl (DAll.cons rfl (by kernel_rfl) (OpQ.loud (q_nilCheck rfl)) (.inl (by kernel_rfl)) rfl ?_ DAll.nil)
              rintro _ _ ⟨rfl, rfl⟩
              refine D.all (rs := [21]) (by kernel_rfl) rfl (DAll.cons rfl (by kernel_rfl) (OpQ.loud (q_field fo_76_1 rfl)) (.inl (by kernel_rfl)) rfl ?_ DAll.nil)
              rintro _ _ ⟨rfl, rfl⟩
              refine D.all (rs := [22]) (by kernel_rfl) rfl (DAll.consN rfl (by kernel_rfl) (l_store1 ck_74 rfl rfl rfl (by repeat (first | exact Pick.here | apply Pick.there)) (by repeat (first | exact SetAt.here | apply SetAt.there))) (.inl (by kernel_rfl)) rfl ?_ DAll.nil)
              rintro _ _ ⟨rfl, rfl⟩
              refine D.done (by kernel_rfl) ?_
              refine K.seq ?_
              refine K.region ?_
              refine KO.q rfl (q_assign rfl) ?_
              refine KO.done ?_
              refine K.ret (fn := Tryz.f34) Tryz.func34 (fun a w hk hs => res1 Tryz.results34 hk rfl) (fun w hs => ?_)
              rw [hr]
              exact ⟨_, RkL b q1 c1 pn dn (k.wait _), rfl, ⟨q1, c1, pn, dn, rfl, rfl⟩, hs.fitD⟩
            · rintro _ _ ⟨b129, rfl, rfl⟩
              refine D.st (fun w h => rowO_nil (k := Kd.oneW) 59 h) ?_
              refine D.all (rs := [7]) (by kernel_rfl) rfl (DAll.cons rfl (by kernel_rfl) (l_append Kd.oneW (ys := k.line.take (k.waitAt who)) se_74 Tryz.underlying74 ⟨_, ze_59, rfl⟩ (by decide) rfl rfl (by repeat (first | exact Pick.here | apply Pick.there)) (isRow_take isO (k.waitAt who)) (by repeat (first | exact List.Mem.head _ | apply List.Mem.tail)) rfl (by rw [List.length_take]; omega) (by rw [List.length_take]; show (2 * (0 + _) + 768) * 24 ≤ _; omega)) (.inr (by rintro _ _ ⟨pa, ca, rfl, rfl⟩ w h; exact h.subD)) rfl ?_ DAll.nil)
              rintro _ _ ⟨pa, ca, rfl, rfl⟩
              refine D.all (rs := [12]) (by kernel_rfl) rfl (DAll.cons rfl (by kernel_rfl) (l_append Kd.oneW se_74 Tryz.underlying74 ⟨_, ze_59, rfl⟩ (by decide) rfl rfl (by repeat (first | exact Pick.here | apply Pick.there)) isP (by repeat (first | exact List.Mem.head _ | apply List.Mem.tail)) rfl rfl (by rw [List.nil_append, List.length_take]; show (2 * (_ + 1) + 768) * 24 ≤ _; omega)) (.inr (by rintro _ _ ⟨pb, cb, rfl, rfl⟩ w h; exact h.subD)) rfl ?_ DAll.nil)
              rintro _ _ ⟨pb, cb, rfl, rfl⟩
              refine D.all (rs := [19]) (by kernel_rfl) rfl (DAll.cons rfl (by kernel_rfl) (l_append Kd.oneW se_74 Tryz.underlying74 ⟨_, ze_59, rfl⟩ (by decide) rfl rfl (by repeat (first | exact Pick.here | apply Pick.there)) (isO_cut (k.waitAt who)) (by repeat (first | exact List.Mem.head _ | apply List.Mem.tail)) rfl (by rw [List.length_drop]; rfl) (by rw [List.nil_append, List.length_append, List.length_take, List.length_drop]; show (2 * (_ + 1 + _) + 768) * 24 ≤ _; omega)) (.inr (by rintro _ _ ⟨pn, dn, rfl, rfl⟩ w h; exact h.subD)) rfl ?_ DAll.nil)
              rintro _ _ ⟨pn, dn, rfl, rfl⟩
              refine D.all (rs := [20]) (by kernel_rfl) rfl (DAll.cons rfl (by kernel_rfl) (OpQ.loud (q_nilCheck rfl)) (.inl (by kernel_rfl)) rfl ?_ DAll.nil)
              rintro _ _ ⟨rfl, rfl⟩
              refine D.all (rs := [21]) (by kernel_rfl) rfl (DAll.cons rfl (by kernel_rfl) (OpQ.loud (q_field fo_76_1 rfl)) (.inl (by kernel_rfl)) rfl ?_ DAll.nil)
              rintro _ _ ⟨rfl, rfl⟩
              refine D.all (rs := [22]) (by kernel_rfl) rfl (DAll.consN rfl (by kernel_rfl) (l_store1 ck_74 rfl rfl rfl (by repeat (first | exact Pick.here | apply Pick.there)) (by repeat (first | exact SetAt.here | apply SetAt.there))) (.inl (by kernel_rfl)) rfl ?_ DAll.nil)
              rintro _ _ ⟨rfl, rfl⟩
              refine D.done (by kernel_rfl) ?_
              refine K.seq ?_
              refine K.region ?_
              refine KO.q rfl (q_assign rfl) ?_
              refine KO.done ?_
              refine K.ret (fn := Tryz.f34) Tryz.func34 (fun a w hk hs => res1 Tryz.results34 hk rfl) (fun w hs => ?_)
              rw [hr]
              exact ⟨_, RkL b q1 c1 pn dn (k.wait _), rfl, ⟨q1, c1, pn, dn, rfl, rfl⟩, hs.fitD⟩
end Go.Proofs.YtcpkcjabmookmaaGreat.L
/-! Walks: the document's lock: freeing. -/
namespace Go.Proofs.YtcpkcjabmookmaaGreat.L
open Go Go.Proofs
attribute [local irreducible] pv fv pt fz RowF RowO rowP old pure_ elA
set_option maxRecDepth 100000
set_option linter.unusedSimpArgs false
set_option linter.unusedVariables false

set_option maxHeartbeats 800000 in
theorem rf_withoutH (q : Option Addr) (cap : Nat) (l : List One) (who : Int) (hn : l.length ≤ 1000000000) : Fn Tryz.prog 71 [.slice q l.length cap, .int .i64 who].toArray [RowO Kd.oneH 59 q cap l] (fun r post => ∃ po co, r = .slice po (l.filter (fun x => !decide (x.who = who))).length co ∧ post = [RowO Kd.oneH 59 po co (l.filter (fun x => !decide (x.who = who))), RowO Kd.oneH 59 q cap l]) := by
  refine Fn.enter (N := 28) Tryz.func71 rfl Tryz.ntmps71 (by kernel_rfl) rfl (fun ρ L => ?_)
  refine K.seq ?_
  refine K.region ?_
  refine KO.q rfl (q_assign rfl) ?_
  refine KO.done ?_
  refine K.seq ?_
  refine K.region ?_
  refine KO.q rfl (q_assign rfl) ?_
  refine KO.done ?_
  refine K.seq <| K.seq ?_
  refine K.region ?_
  refine KO.q rfl (q_assign rfl) ?_
  refine KO.done ?_
  refine K.block ?_
  refine K.rounds2 (ι := { s : Nat × Option Addr × Nat // s.1 ≤ l.length }) (fun s => [(6, .int .i64 s.1.1), (5, .slice s.1.2.1 ((l.take s.1.1).filter (fun x => !decide (x.who = who))).length s.1.2.2), (0, .slice q l.length cap), (1, .int .i64 who)]) (fun s => [RowO Kd.oneH 59 s.1.2.1 s.1.2.2 ((l.take s.1.1).filter (fun x => !decide (x.who = who))), RowO Kd.oneH 59 q cap l] ++ L) (fun s => l.length - s.1.1) ⟨(0, none, 0), Nat.zero_le _⟩ (by repeat (first | exact Env.sub_nil _ | refine Env.sub_cons rfl ?_)) (fun w h => rowO_nil (k := Kd.oneH) 59 (h.fit (M := [RowO Kd.oneH 59 q cap l]) (by repeat (first | exact Give.nil | (apply Give.perI; (repeat (first | exact List.Mem.head _ | apply List.Mem.tail))) | (apply Give.own; (repeat (first | exact Pick.here | apply Pick.there))))) (by repeat (first | exact Drop.refl | apply Drop.skip)))) (fun s ih => ?_)
  obtain ⟨⟨i, po, co⟩, hi⟩ := s
  dsimp only at hi ⊢
  obtain ⟨out, hout⟩ : ∃ out, out = (l.take i).filter (fun x => !decide (x.who = who)) := ⟨_, rfl⟩
  have hol : out.length ≤ 1000000000 := by
    rw [hout]
    have h1 := List.length_filter_le (fun x => !decide (x.who = who)) (l.take i)
    rw [List.length_take] at h1
    omega
  rw [← hout]
  refine K.seq <| K.seq ?_
  refine K.region ?_
  refine KO.q rfl (q_move rfl) ?_
  refine KO.q rfl (q_move rfl) ?_
  refine KO.q rfl (q_len Tryz.underlying74 rfl) ?_
  refine KO.q rfl (q_lt rfl rfl) ?_
  refine KO.done ?_
  refine K.dcond (s := 10) rfl (fun g10 => ?_) (fun g10 => ?_)
  · obtain ⟨e, he⟩ : ∃ e, l[i]? = some e := ⟨_, List.getElem?_eq_getElem (by omega)⟩
    have hm := filter_take_succ (fun x => !decide (x.who = who)) he
    rw [← hout] at hm
    refine K.skip <| K.seq <| K.block <| K.seq ?_
    refine K.region ?_
    refine KO.q rfl (q_move rfl) ?_
    refine KO.q rfl (q_move rfl) ?_
    refine KO.q rfl (q_ix i se_74 rfl rfl rfl isO (by repeat (first | exact List.Mem.head _ | apply List.Mem.tail)) rfl (by omega)) ?_
    refine KO.q rfl (q_fieldE fo_59_0 rfl) ?_
    refine KO.q rfl (q_ldE ck_3 rfl isO (by repeat (first | exact List.Mem.head _ | apply List.Mem.tail)) he rfl) ?_
    refine KO.q rfl (q_move rfl) ?_
    refine KO.q rfl (q_ne rfl rfl) ?_
    refine KO.done ?_
    refine K.dcond (s := 19) rfl (fun g19 => ?_) (fun g19 => ?_)
    · have hz : (l.take (i + 1)).filter (fun x => !decide (x.who = who)) = out ++ [e] := by rw [hm, if_pos (by rw [decide_eq_false g19]; rfl)]
      refine K.region ?_
      refine KO.q rfl (q_move rfl) ?_
      refine KO.q rfl (q_move rfl) ?_
      refine KO.q rfl (q_move rfl) ?_
      refine KO.q rfl (q_ix (xs := l) i se_74 rfl rfl rfl isO (by repeat (first | exact List.Mem.head _ | apply List.Mem.tail)) rfl (by omega)) ?_
      refine KO.q rfl (q_ldEN (xs := l) (enc := One.heldC) ck_59 rfl isO (by repeat (first | exact List.Mem.head _ | apply List.Mem.tail)) he) ?_
      refine KO.loud rfl (l_slice1 sz_74_1 rfl rfl ⟨rfl, rfl, rfl⟩) ?_
      rintro _ _ ⟨b25, rfl, rfl⟩
      refine KO.loud rfl (l_append Kd.oneH se_74 Tryz.underlying74 ⟨_, ze_59, rfl⟩ (by decide) rfl rfl (by repeat (first | exact Pick.here | apply Pick.there)) isP (by repeat (first | exact List.Mem.head _ | apply List.Mem.tail)) rfl rfl (by show (2 * (out.length + 1) + 768) * 24 ≤ _; omega)) ?_
      rintro _ _ ⟨pn, dn, rfl, rfl⟩
      refine KO.q rfl (q_assign rfl) ?_
      refine KO.done ?_
      refine K.inBlock ?_
      refine K.region ?_
      refine KO.q rfl (q_move rfl) ?_
      refine KO.q rfl (q_add rfl rfl (by first | omega | (simp; omega)) (by first | omega | (simp; omega))) ?_
      refine KO.q rfl (q_assign rfl) ?_
      refine KO.done ?_
      exact K.weak (E' := [(6, .int .i64 ((i + 1 : Nat) : Int)), (5, .slice pn ((l.take (i + 1)).filter (fun x => !decide (x.who = who))).length dn), (0, .slice q l.length cap), (1, .int .i64 who)]) (by rw [hz]; exact (by repeat (first | exact Env.sub_nil _ | refine Env.sub_cons rfl ?_))) (fun w h => by rw [hz]; exact h.fitD) (ih ⟨(i + 1, pn, dn), by show i + 1 ≤ _; omega⟩ (by show l.length - (i + 1) < l.length - i; omega))
    · have hz : (l.take (i + 1)).filter (fun x => !decide (x.who = who)) = out := by rw [hm, if_neg (by rw [decide_eq_true (by omega)]; decide), List.append_nil]
      refine K.skip <| K.inBlock ?_
      refine K.region ?_
      refine KO.q rfl (q_move rfl) ?_
      refine KO.q rfl (q_add rfl rfl (by first | omega | (simp; omega)) (by first | omega | (simp; omega))) ?_
      refine KO.q rfl (q_assign rfl) ?_
      refine KO.done ?_
      exact K.weak (E' := [(6, .int .i64 ((i + 1 : Nat) : Int)), (5, .slice po ((l.take (i + 1)).filter (fun x => !decide (x.who = who))).length co), (0, .slice q l.length cap), (1, .int .i64 who)]) (by rw [hz]; exact (by repeat (first | exact Env.sub_nil _ | refine Env.sub_cons rfl ?_))) (fun w h => by rw [hz]; exact h.fitD) (ih ⟨(i + 1, po, co), by show i + 1 ≤ _; omega⟩ (by show l.length - (i + 1) < l.length - i; omega))
  · obtain rfl : i = l.length := by omega
    rw [List.take_length] at hout
    refine K.exit rfl ?_
    refine K.seq ?_
    refine K.region ?_
    refine KO.q rfl (q_move rfl) ?_
    refine KO.q rfl (q_assign rfl) ?_
    refine KO.done ?_
    refine K.ret (fn := Tryz.f71) Tryz.func71 (fun a w hk hs => res1 Tryz.results71 hk rfl) (fun w hs => ?_)
    exact ⟨_, [RowO Kd.oneH 59 po co out, RowO Kd.oneH 59 q cap l], rfl, ⟨po, co, by rw [hout], by rw [hout]⟩, hs.fitD⟩
set_option maxHeartbeats 800000 in
theorem rf_withoutW (q : Option Addr) (cap : Nat) (l : List One) (who : Int) (hn : l.length ≤ 1000000000) : Fn Tryz.prog 71 [.slice q l.length cap, .int .i64 who].toArray [RowO Kd.oneW 59 q cap l] (fun r post => ∃ po co, r = .slice po (l.filter (fun x => !decide (x.who = who))).length co ∧ post = [RowO Kd.oneW 59 po co (l.filter (fun x => !decide (x.who = who))), RowO Kd.oneW 59 q cap l]) := by
  refine Fn.enter (N := 28) Tryz.func71 rfl Tryz.ntmps71 (by kernel_rfl) rfl (fun ρ L => ?_)
  refine K.seq ?_
  refine K.region ?_
  refine KO.q rfl (q_assign rfl) ?_
  refine KO.done ?_
  refine K.seq ?_
  refine K.region ?_
  refine KO.q rfl (q_assign rfl) ?_
  refine KO.done ?_
  refine K.seq <| K.seq ?_
  refine K.region ?_
  refine KO.q rfl (q_assign rfl) ?_
  refine KO.done ?_
  refine K.block ?_
  refine K.rounds2 (ι := { s : Nat × Option Addr × Nat // s.1 ≤ l.length }) (fun s => [(6, .int .i64 s.1.1), (5, .slice s.1.2.1 ((l.take s.1.1).filter (fun x => !decide (x.who = who))).length s.1.2.2), (0, .slice q l.length cap), (1, .int .i64 who)]) (fun s => [RowO Kd.oneW 59 s.1.2.1 s.1.2.2 ((l.take s.1.1).filter (fun x => !decide (x.who = who))), RowO Kd.oneW 59 q cap l] ++ L) (fun s => l.length - s.1.1) ⟨(0, none, 0), Nat.zero_le _⟩ (by repeat (first | exact Env.sub_nil _ | refine Env.sub_cons rfl ?_)) (fun w h => rowO_nil (k := Kd.oneW) 59 (h.fit (M := [RowO Kd.oneW 59 q cap l]) (by repeat (first | exact Give.nil | (apply Give.perI; (repeat (first | exact List.Mem.head _ | apply List.Mem.tail))) | (apply Give.own; (repeat (first | exact Pick.here | apply Pick.there))))) (by repeat (first | exact Drop.refl | apply Drop.skip)))) (fun s ih => ?_)
  obtain ⟨⟨i, po, co⟩, hi⟩ := s
  dsimp only at hi ⊢
  obtain ⟨out, hout⟩ : ∃ out, out = (l.take i).filter (fun x => !decide (x.who = who)) := ⟨_, rfl⟩
  have hol : out.length ≤ 1000000000 := by
    rw [hout]
    have h1 := List.length_filter_le (fun x => !decide (x.who = who)) (l.take i)
    rw [List.length_take] at h1
    omega
  rw [← hout]
  refine K.seq <| K.seq ?_
  refine K.region ?_
  refine KO.q rfl (q_move rfl) ?_
  refine KO.q rfl (q_move rfl) ?_
  refine KO.q rfl (q_len Tryz.underlying74 rfl) ?_
  refine KO.q rfl (q_lt rfl rfl) ?_
  refine KO.done ?_
  refine K.dcond (s := 10) rfl (fun g10 => ?_) (fun g10 => ?_)
  · obtain ⟨e, he⟩ : ∃ e, l[i]? = some e := ⟨_, List.getElem?_eq_getElem (by omega)⟩
    have hm := filter_take_succ (fun x => !decide (x.who = who)) he
    rw [← hout] at hm
    refine K.skip <| K.seq <| K.block <| K.seq ?_
    refine K.region ?_
    refine KO.q rfl (q_move rfl) ?_
    refine KO.q rfl (q_move rfl) ?_
    refine KO.q rfl (q_ix i se_74 rfl rfl rfl isO (by repeat (first | exact List.Mem.head _ | apply List.Mem.tail)) rfl (by omega)) ?_
    refine KO.q rfl (q_fieldE fo_59_0 rfl) ?_
    refine KO.q rfl (q_ldE ck_3 rfl isO (by repeat (first | exact List.Mem.head _ | apply List.Mem.tail)) he rfl) ?_
    refine KO.q rfl (q_move rfl) ?_
    refine KO.q rfl (q_ne rfl rfl) ?_
    refine KO.done ?_
    refine K.dcond (s := 19) rfl (fun g19 => ?_) (fun g19 => ?_)
    · have hz : (l.take (i + 1)).filter (fun x => !decide (x.who = who)) = out ++ [e] := by rw [hm, if_pos (by rw [decide_eq_false g19]; rfl)]
      refine K.region ?_
      refine KO.q rfl (q_move rfl) ?_
      refine KO.q rfl (q_move rfl) ?_
      refine KO.q rfl (q_move rfl) ?_
      refine KO.q rfl (q_ix (xs := l) i se_74 rfl rfl rfl isO (by repeat (first | exact List.Mem.head _ | apply List.Mem.tail)) rfl (by omega)) ?_
      refine KO.q rfl (q_ldEN (xs := l) (enc := One.lineC) ck_59 rfl isO (by repeat (first | exact List.Mem.head _ | apply List.Mem.tail)) he) ?_
      refine KO.loud rfl (l_slice1 sz_74_1 rfl rfl ⟨rfl, rfl, rfl⟩) ?_
      rintro _ _ ⟨b25, rfl, rfl⟩
      refine KO.loud rfl (l_append Kd.oneW se_74 Tryz.underlying74 ⟨_, ze_59, rfl⟩ (by decide) rfl rfl (by repeat (first | exact Pick.here | apply Pick.there)) isP (by repeat (first | exact List.Mem.head _ | apply List.Mem.tail)) rfl rfl (by show (2 * (out.length + 1) + 768) * 24 ≤ _; omega)) ?_
      rintro _ _ ⟨pn, dn, rfl, rfl⟩
      refine KO.q rfl (q_assign rfl) ?_
      refine KO.done ?_
      refine K.inBlock ?_
      refine K.region ?_
      refine KO.q rfl (q_move rfl) ?_
      refine KO.q rfl (q_add rfl rfl (by first | omega | (simp; omega)) (by first | omega | (simp; omega))) ?_
      refine KO.q rfl (q_assign rfl) ?_
      refine KO.done ?_
      exact K.weak (E' := [(6, .int .i64 ((i + 1 : Nat) : Int)), (5, .slice pn ((l.take (i + 1)).filter (fun x => !decide (x.who = who))).length dn), (0, .slice q l.length cap), (1, .int .i64 who)]) (by rw [hz]; exact (by repeat (first | exact Env.sub_nil _ | refine Env.sub_cons rfl ?_))) (fun w h => by rw [hz]; exact h.fitD) (ih ⟨(i + 1, pn, dn), by show i + 1 ≤ _; omega⟩ (by show l.length - (i + 1) < l.length - i; omega))
    · have hz : (l.take (i + 1)).filter (fun x => !decide (x.who = who)) = out := by rw [hm, if_neg (by rw [decide_eq_true (by omega)]; decide), List.append_nil]
      refine K.skip <| K.inBlock ?_
      refine K.region ?_
      refine KO.q rfl (q_move rfl) ?_
      refine KO.q rfl (q_add rfl rfl (by first | omega | (simp; omega)) (by first | omega | (simp; omega))) ?_
      refine KO.q rfl (q_assign rfl) ?_
      refine KO.done ?_
      exact K.weak (E' := [(6, .int .i64 ((i + 1 : Nat) : Int)), (5, .slice po ((l.take (i + 1)).filter (fun x => !decide (x.who = who))).length co), (0, .slice q l.length cap), (1, .int .i64 who)]) (by rw [hz]; exact (by repeat (first | exact Env.sub_nil _ | refine Env.sub_cons rfl ?_))) (fun w h => by rw [hz]; exact h.fitD) (ih ⟨(i + 1, po, co), by show i + 1 ≤ _; omega⟩ (by show l.length - (i + 1) < l.length - i; omega))
  · obtain rfl : i = l.length := by omega
    rw [List.take_length] at hout
    refine K.exit rfl ?_
    refine K.seq ?_
    refine K.region ?_
    refine KO.q rfl (q_move rfl) ?_
    refine KO.q rfl (q_assign rfl) ?_
    refine KO.done ?_
    refine K.ret (fn := Tryz.f71) Tryz.func71 (fun a w hk hs => res1 Tryz.results71 hk rfl) (fun w hs => ?_)
    exact ⟨_, [RowO Kd.oneW 59 po co out, RowO Kd.oneW 59 q cap l], rfl, ⟨po, co, by rw [hout], by rw [hout]⟩, hs.fitD⟩
set_option maxHeartbeats 3200000 in
theorem rf_Drop (b : Nat) (q1 : Option Addr) (c1 : Nat) (q2 : Option Addr) (c2 : Nat) (k : Lk) (who : Int) (hl : k.hold.length + k.line.length ≤ 1000000000) : Fn Tryz.prog 39 [.pointer (some ⟨b, 0, none⟩), .int .i64 who].toArray (RkL b q1 c1 q2 c2 k) (fun r post => ∃ q1' c1' q2' c2' po co, r = .slice po (k.drop who).1.length co ∧ post = RowO (Kd.int .i64) 3 po co (k.drop who).1 :: RkL b q1' c1' q2' c2' (k.drop who).2) := by
  refine Fn.enter (N := 103) Tryz.func39 rfl Tryz.ntmps39 (by kernel_rfl) rfl (fun ρ L => ?_)
  refine K.seq ?_
  have hw : (k.without who).hold.length + (k.without who).line.length ≤ 1000000000 ∧ ([] : List Int).length + (k.without who).line.length ≤ 1000000000 := by
    have h1 : (k.without who).hold.length ≤ k.hold.length := List.length_filter_le _ _
    have h2 : (k.without who).line.length ≤ k.line.length := List.length_filter_le _ _
    exact ⟨by omega, by simp only [List.length_nil]; omega⟩
  refine K.region ?_
  refine KO.q rfl (q_assign rfl) ?_
  refine KO.done ?_
  refine K.seq ?_
  refine K.region ?_
  refine KO.q rfl (q_move rfl) ?_
  refine KO.q rfl (q_move rfl) ?_
  refine KO.q rfl (q_nilCheck rfl) ?_
  refine KO.q rfl (q_field fo_76_0 rfl) ?_
  refine KO.q rfl (q_load1D ck_74 rfl) ?_
  refine KO.q rfl (q_move rfl) ?_
  refine KO.loud rfl (OpL.callD rfl (h := rf_withoutH q1 c1 k.hold who (by omega))) ?_
  rintro _ _ ⟨_, ⟨qh, ch, rfl, rfl⟩, rfl⟩
  refine KO.q rfl (q_nilCheck rfl) ?_
  refine KO.q rfl (q_field fo_76_0 rfl) ?_
  refine KO.loudN rfl (l_store1 ck_74 rfl rfl rfl (by repeat (first | exact Pick.here | apply Pick.there)) (by repeat (first | exact SetAt.here | apply SetAt.there))) ?_
  rintro _ _ ⟨rfl, rfl⟩
  refine KO.done ?_
  refine K.seq ?_
  refine K.region ?_
  refine KO.q rfl (q_move rfl) ?_
  refine KO.q rfl (q_move rfl) ?_
  refine KO.q rfl (q_nilCheck rfl) ?_
  refine KO.q rfl (q_field fo_76_1 rfl) ?_
  refine KO.q rfl (q_load1D ck_74 rfl) ?_
  refine KO.q rfl (q_move rfl) ?_
  refine KO.loud rfl (OpL.callD rfl (h := rf_withoutW q2 c2 k.line who (by omega))) ?_
  rintro _ _ ⟨_, ⟨qw, cw, rfl, rfl⟩, rfl⟩
  refine KO.q rfl (q_nilCheck rfl) ?_
  refine KO.q rfl (q_field fo_76_1 rfl) ?_
  refine KO.loudN rfl (l_store1 ck_74 rfl rfl rfl (by repeat (first | exact Pick.here | apply Pick.there)) (by repeat (first | exact SetAt.here | apply SetAt.there))) ?_
  rintro _ _ ⟨rfl, rfl⟩
  refine KO.done ?_
  refine K.seq ?_
  refine K.region ?_
  refine KO.q rfl (q_assign rfl) ?_
  refine KO.done ?_
  refine K.seq <| K.block ?_
  refine K.rounds2 (ι := { s : DropS // k.drop who = (s.out ++ s.k.pump.1, s.k.pump.2) ∧ s.k.hold.length + s.k.line.length ≤ 1000000000 ∧ s.out.length + s.k.line.length ≤ 1000000000 }) (fun s => [(5, .slice s.1.po s.1.out.length s.1.co), (0, .pointer (some ⟨b, 0, none⟩))]) (fun s => RowO (Kd.int .i64) 3 s.1.po s.1.co s.1.out :: RkL b s.1.q1 s.1.c1 s.1.q2 s.1.c2 s.1.k ++ L) (fun s => s.1.k.line.length) ⟨⟨k.without who, [], qh, ch, qw, cw, none, 0⟩, rfl, hw.1, hw.2⟩ (by repeat (first | exact Env.sub_nil _ | refine Env.sub_cons rfl ?_)) (fun w h => rowO_nil (k := Kd.int .i64) 3 (h.fit (M := RkL b qh ch qw cw (k.without who)) (by repeat (first | exact Give.nil | (apply Give.perI; (repeat (first | exact List.Mem.head _ | apply List.Mem.tail))) | (apply Give.own; (repeat (first | exact Pick.here | apply Pick.there))))) (by repeat (first | exact Drop.refl | apply Drop.skip)))) (fun s ih => ?_)
  obtain ⟨⟨⟨H0, l0⟩, out, q1, c1, q2, c2, po, co⟩, hd, hn, hn2⟩ := s
  dsimp only at hd hn hn2 ⊢
  refine K.fact (fun w h => rowO_cap (e := 59) (k := Kd.oneW) (p := q2) (cap := c2) (xs := l0) (by repeat (first | exact List.Mem.head _ | apply List.Mem.tail)) w h) (fun hc2 => ?_)
  refine K.seq <| K.seq ?_
  refine K.drawS [pv b 76 [.slice q1 H0.length c1, .slice q2 l0.length c2], RowO Kd.oneW 59 q2 c2 l0] (fun _ h => h.subD) mixed ?_
  refine D.q 0 rfl (by kernel_rfl) (by kernel_rfl) (q_move rfl) (fun _ h => h.subD) ?_
  refine D.q 1 rfl (by kernel_rfl) (by kernel_rfl) (q_nilCheck rfl) (fun _ h => h.subD) ?_
  refine D.q 2 rfl (by kernel_rfl) (by kernel_rfl) (q_field fo_76_1 rfl) (fun _ h => h.subD) ?_
  refine D.q 3 rfl (by kernel_rfl) (by kernel_rfl) (q_load1D ck_74 rfl) (fun _ h => h.subD) ?_
  refine D.q 4 rfl (by kernel_rfl) (by kernel_rfl) (q_len Tryz.underlying74 rfl) (fun _ h => h.subD) ?_
  refine D.q 5 rfl (by kernel_rfl) (by kernel_rfl) (q_gt rfl rfl) (fun _ h => h.subD) ?_
  refine D.q 6 rfl (by kernel_rfl) (by kernel_rfl) (q_move rfl) (fun _ h => h.subD) ?_
  refine D.dsplit 32 rfl (fun g32 => ?_) (fun g32 => ?_)
  · rcases l0 with _ | ⟨x, l⟩
    · exact absurd g32 (by simp)
    simp only [List.length_cons] at hn hn2 hc2
    refine D.q 7 rfl (by kernel_rfl) (by kernel_rfl) (q_move rfl) (fun _ h => h.subD) ?_
    refine D.q 8 rfl (by kernel_rfl) (by kernel_rfl) (q_move rfl) (fun _ h => h.subD) ?_
    refine D.q 9 rfl (by kernel_rfl) (by kernel_rfl) (q_nilCheck rfl) (fun _ h => h.subD) ?_
    refine D.q 10 rfl (by kernel_rfl) (by kernel_rfl) (q_field fo_76_1 rfl) (fun _ h => h.subD) ?_
    refine D.q 11 rfl (by kernel_rfl) (by kernel_rfl) (q_load1D ck_74 rfl) (fun _ h => h.subD) ?_
    refine D.q 12 rfl (by kernel_rfl) (by kernel_rfl) (q_ix (xs := x :: l) 0 se_74 rfl rfl rfl isO (by repeat (first | exact List.Mem.head _ | apply List.Mem.tail)) rfl (Nat.succ_pos _)) (fun _ h => h.subD) ?_
    refine D.q 13 rfl (by kernel_rfl) (by kernel_rfl) (q_fieldE fo_59_0 rfl) (fun _ h => h.subD) ?_
    refine D.q 14 rfl (by kernel_rfl) (by kernel_rfl) (q_ldE (el := x) (enc := One.lineC) ck_3 rfl isO (by repeat (first | exact List.Mem.head _ | apply List.Mem.tail)) rfl rfl) (fun _ h => h.subD) ?_
    refine D.q 15 rfl (by kernel_rfl) (by kernel_rfl) (q_move rfl) (fun _ h => h.subD) ?_
    refine D.q 16 rfl (by kernel_rfl) (by kernel_rfl) (q_nilCheck rfl) (fun _ h => h.subD) ?_
    refine D.q 17 rfl (by kernel_rfl) (by kernel_rfl) (q_field fo_76_1 rfl) (fun _ h => h.subD) ?_
    refine D.q 18 rfl (by kernel_rfl) (by kernel_rfl) (q_load1D ck_74 rfl) (fun _ h => h.subD) ?_
    refine D.q 19 rfl (by kernel_rfl) (by kernel_rfl) (q_ix (xs := x :: l) 0 se_74 rfl rfl rfl isO (by repeat (first | exact List.Mem.head _ | apply List.Mem.tail)) rfl (Nat.succ_pos _)) (fun _ h => h.subD) ?_
    refine D.q 20 rfl (by kernel_rfl) (by kernel_rfl) (q_fieldE fo_59_2 rfl) (fun _ h => h.subD) ?_
    refine D.q 21 rfl (by kernel_rfl) (by kernel_rfl) (q_ldE (el := x) (enc := One.lineC) ck_3 rfl isO (by repeat (first | exact List.Mem.head _ | apply List.Mem.tail)) rfl rfl) (fun _ h => h.subD) ?_
    refine D.all (rs := [22]) (by kernel_rfl) rfl (DAll.cons rfl (by kernel_rfl) (OpL.callD rfl (h := rf_fits b q1 c1 q2 c2 ⟨H0, x :: l⟩ x (by show H0.length ≤ _; omega))) (.inr (by rintro _ _ ⟨_, ⟨rfl, rfl⟩, rfl⟩ w h; exact h.subD)) rfl ?_ DAll.nil)
    rintro _ _ ⟨_, ⟨rfl, rfl⟩, rfl⟩
    refine D.q 23 rfl (by kernel_rfl) (by kernel_rfl) (q_pickT rfl rfl) (fun _ h => h.subD) ?_
    refine D.done (by kernel_rfl) ?_
    refine K.bcond (s := 49) rfl (fun g49 => ?_) (fun g49 => ?_)
    · refine K.skip <| K.block <| K.seq ?_
      refine K.region ?_
      refine KO.q rfl (q_move rfl) ?_
      refine KO.q rfl (q_nilCheck rfl) ?_
      refine KO.q rfl (q_field fo_76_1 rfl) ?_
      refine KO.q rfl (q_load1D ck_74 rfl) ?_
      refine KO.q rfl (q_ix (xs := x :: l) 0 se_74 rfl rfl rfl isO (by repeat (first | exact List.Mem.head _ | apply List.Mem.tail)) rfl (Nat.succ_pos _)) ?_
      refine KO.q rfl (q_ldEN (el := x) (enc := One.lineC) ck_59 rfl isO (by repeat (first | exact List.Mem.head _ | apply List.Mem.tail)) rfl) ?_
      refine KO.loud rfl (l_alloc zo_59) ?_
      rintro _ _ ⟨b6, rfl, rfl⟩
      refine KO.loudN rfl (l_storeAll ck_59 rfl rfl ⟨rfl, rfl⟩ (lineC_one _) (by repeat (first | exact Pick.here | apply Pick.there))) ?_
      rintro _ _ ⟨rfl, rfl⟩
      refine KO.done ?_
      refine K.seq ?_
      refine K.region ?_
      refine KO.q rfl (q_move rfl) ?_
      refine KO.q rfl (q_move rfl) ?_
      refine KO.q rfl (q_nilCheck rfl) ?_
      refine KO.q rfl (q_field fo_76_1 rfl) ?_
      refine KO.q rfl (q_load1D ck_74 rfl) ?_
      refine KO.q rfl (q_cutL se_74 rfl rfl (by first | omega | (simp; omega)) (by first | omega | (simp; omega)) (by first | omega | (simp; omega))) ?_
      refine KO.st (fun w h => rowO_nil (k := Kd.oneW) 59 h) ?_
      refine KO.loud rfl (l_append Kd.oneW (ys := l) se_74 Tryz.underlying74 ⟨_, ze_59, rfl⟩ (by decide) rfl rfl (by repeat (first | exact Pick.here | apply Pick.there)) (isO_cut (xs := x :: l) 1) (by repeat (first | exact List.Mem.head _ | apply List.Mem.tail)) rfl (by show l.length + 1 - 1 = l.length; omega) (by show (2 * (0 + l.length) + 768) * 24 ≤ _; omega)) ?_
      rintro _ _ ⟨pl, cl, rfl, rfl⟩
      rw [List.nil_append]
      refine KO.q rfl (q_nilCheck rfl) ?_
      refine KO.q rfl (q_field fo_76_1 rfl) ?_
      refine KO.loudN rfl (l_store1 ck_74 rfl rfl rfl (by repeat (first | exact Pick.here | apply Pick.there)) (by repeat (first | exact SetAt.here | apply SetAt.there))) ?_
      rintro _ _ ⟨rfl, rfl⟩
      refine KO.done ?_
      refine K.seq ?_
      refine K.drawS [pv b 76 [.slice q1 H0.length c1, .slice pl l.length cl], pv b6 59 x.lineC] (fun _ h => h.subD) mixed ?_
      refine D.q 0 rfl (by kernel_rfl) (by kernel_rfl) (q_move rfl) (fun _ h => h.subD) ?_
      refine D.q 1 rfl (by kernel_rfl) (by kernel_rfl) (q_nilCheck rfl) (fun _ h => h.subD) ?_
      refine D.q 2 rfl (by kernel_rfl) (by kernel_rfl) (q_field fo_76_0 rfl) (fun _ h => h.subD) ?_
      refine D.q 3 rfl (by kernel_rfl) (by kernel_rfl) (q_load1D ck_74 rfl) (fun _ h => h.subD) ?_
      refine D.q 4 rfl (by kernel_rfl) (by kernel_rfl) (q_field fo_59_0 rfl) (fun _ h => h.subD) ?_
      refine D.q 5 rfl (by kernel_rfl) (by kernel_rfl) (q_load1D ck_3 rfl) (fun _ h => h.subD) ?_
      refine D.all (rs := [6]) (by kernel_rfl) rfl (DAll.cons rfl (by kernel_rfl) (OpL.callD rfl (h := rf_findH 59 q1 c1 H0 x.who (by omega))) (.inr (by rintro _ _ ⟨_, ⟨rfl, rfl⟩, rfl⟩ w h; exact h.subD)) rfl ?_ DAll.nil)
      rintro _ _ ⟨_, ⟨rfl, rfl⟩, rfl⟩
      refine D.q 7 rfl (by kernel_rfl) (by kernel_rfl) (q_assign rfl) (fun _ h => h.subD) ?_
      refine D.done (by kernel_rfl) ?_
      refine K.seq <| K.seq ?_
      refine K.region ?_
      refine KO.q rfl (q_move rfl) ?_
      refine KO.q rfl (q_ge rfl rfl) ?_
      refine KO.done ?_
      refine K.dcond (s := 73) rfl (fun g73 => ?_) (fun g73 => ?_)
      · obtain ⟨i, el, he, hi, hw⟩ := at1_some g73
        have hil := (List.getElem?_eq_some_iff.1 he).1
        have hH : ((Lk.mk H0 (x :: l)).grant x).hold = H0.set i x := by unfold Lk.grant; rw [if_pos g73]; show H0.set (at1 H0 x.who).toNat x = _; rw [hi, Int.toNat_natCast]
        have hsl : (H0.set i x).length = H0.length := List.length_set
        refine K.drawS [pv b 76 [.slice q1 H0.length c1, .slice pl l.length cl], pv b6 59 x.lineC] (fun _ h => h.subD) mixed ?_
        refine D.q 0 rfl (by kernel_rfl) (by kernel_rfl) (q_move rfl) (fun _ h => h.subD) ?_
        refine D.q 1 rfl (by kernel_rfl) (by kernel_rfl) (q_nilCheck rfl) (fun _ h => h.subD) ?_
        refine D.q 2 rfl (by kernel_rfl) (by kernel_rfl) (q_field fo_76_0 rfl) (fun _ h => h.subD) ?_
        refine D.q 3 rfl (by kernel_rfl) (by kernel_rfl) (q_load1D ck_74 rfl) (fun _ h => h.subD) ?_
        refine D.q 4 rfl (by kernel_rfl) (by kernel_rfl) (q_move rfl) (fun _ h => h.subD) ?_
        refine D.q 5 rfl (by kernel_rfl) (by kernel_rfl) (q_field fo_59_2 rfl) (fun _ h => h.subD) ?_
        refine D.q 6 rfl (by kernel_rfl) (by kernel_rfl) (q_load1D ck_3 rfl) (fun _ h => h.subD) ?_
        refine D.all (rs := [7]) (by kernel_rfl) rfl (DAll.cons rfl (by kernel_rfl) (OpQ.loud (q_ix i se_74 rfl rfl hi isO (by repeat (first | exact List.Mem.head _ | apply List.Mem.tail)) rfl hil)) (.inl (by kernel_rfl)) rfl ?_ DAll.nil)
        rintro _ _ ⟨rfl, rfl⟩
        refine D.all (rs := [8]) (by kernel_rfl) rfl (DAll.cons rfl (by kernel_rfl) (OpQ.loud (q_fieldE fo_59_1 rfl)) (.inl (by kernel_rfl)) rfl ?_ DAll.nil)
        rintro _ _ ⟨rfl, rfl⟩
        refine D.all (rs := [9]) (by kernel_rfl) rfl (DAll.consN rfl (by kernel_rfl) (l_storeE (el := el) x ck_3 rfl rfl rfl (by repeat (first | exact Pick.here | apply Pick.there)) he (by decide) (by show [Value.int .i64 el.who, Value.int .i64 _, Value.int .i64 0] = [Value.int .i64 x.who, Value.int .i64 _, Value.int .i64 0]; rw [hw])) (.inl (by kernel_rfl)) rfl ?_ DAll.nil)
        rintro _ _ ⟨rfl, rfl⟩
        refine D.done (by kernel_rfl) ?_
        refine K.region ?_
        refine KO.q rfl (q_move rfl) ?_
        refine KO.q rfl (q_field fo_59_0 rfl) ?_
        refine KO.q rfl (q_load1D ck_3 rfl) ?_
        refine KO.loud rfl (l_slice sz_39_1 rfl (by repeat (first | exact Fill.nil | (apply Fill.cons; rfl; rfl; rfl) | exact SetN.nil | apply SetN.cons | exact SetAt.here | apply SetAt.there))) ?_
        rintro _ _ ⟨b100, rfl, rfl⟩
        refine KO.loud rfl (l_append (Kd.int .i64) (ys := [x.who]) se_39 Tryz.underlying39 ⟨_, ze_3, rfl⟩ (by decide) rfl rfl (by repeat (first | exact Pick.here | apply Pick.there)) isP (by repeat (first | exact List.Mem.head _ | apply List.Mem.tail)) rfl rfl (by show (2 * (out.length + 1) + 768) * 8 ≤ _; omega)) ?_
        rintro _ _ ⟨pn, dn, rfl, rfl⟩
        refine KO.q rfl (q_assign rfl) ?_
        refine KO.done ?_
        refine K.inBlock ?_
        exact K.weak (by repeat (first | exact Env.sub_nil _ | refine Env.sub_cons rfl ?_)) (fun w h => by dsimp only [RkL]; rw [hsl]; exact h.fitD) (ih ⟨⟨⟨H0.set i x, l⟩, out ++ [x.who], q1, c1, pl, cl, pn, dn⟩, by
          show k.drop who = _
          have hp := pump_go (k := ⟨H0, x :: l⟩) rfl g49
          rw [hH] at hp
          rw [hd, hp, List.append_assoc]
          rfl, by
          show (H0.set i x).length + l.length ≤ _
          omega, by show (out ++ [x.who]).length + l.length ≤ _; rw [List.length_append]; show out.length + 1 + l.length ≤ _; omega⟩ (Nat.lt_succ_self _))
      · have hH : ((Lk.mk H0 (x :: l)).grant x).hold = H0 ++ [x] := by unfold Lk.grant; rw [if_neg g73]
        refine K.drawS [pv b 76 [.slice q1 H0.length c1, .slice pl l.length cl], pv b6 59 x.lineC] (fun _ h => h.subD) mixed ?_
        refine D.q 0 rfl (by kernel_rfl) (by kernel_rfl) (q_move rfl) (fun _ h => h.subD) ?_
        refine D.q 1 rfl (by kernel_rfl) (by kernel_rfl) (q_move rfl) (fun _ h => h.subD) ?_
        refine D.q 2 rfl (by kernel_rfl) (by kernel_rfl) (q_nilCheck rfl) (fun _ h => h.subD) ?_
        refine D.q 3 rfl (by kernel_rfl) (by kernel_rfl) (q_field fo_76_0 rfl) (fun _ h => h.subD) ?_
        refine D.q 4 rfl (by kernel_rfl) (by kernel_rfl) (q_load1D ck_74 rfl) (fun _ h => h.subD) ?_
        refine D.q 5 rfl (by kernel_rfl) (by kernel_rfl) (q_field fo_59_0 rfl) (fun _ h => h.subD) ?_
        refine D.q 6 rfl (by kernel_rfl) (by kernel_rfl) (q_load1D ck_3 rfl) (fun _ h => h.subD) ?_
        refine D.q 7 rfl (by kernel_rfl) (by kernel_rfl) (q_field fo_59_2 rfl) (fun _ h => h.subD) ?_
        refine D.q 8 rfl (by kernel_rfl) (by kernel_rfl) (q_load1D ck_3 rfl) (fun _ h => h.subD) ?_
        refine D.q 9 rfl (by kernel_rfl) (by kernel_rfl) (q_as (q_build st_59 rfl (by repeat (first | exact Fill.nil | (apply Fill.cons; rfl; rfl; rfl) | exact SetN.nil | apply SetN.cons | exact SetAt.here | apply SetAt.there))) (show _ = One.heldC x from rfl)) (fun _ h => h.subD) ?_
        refine D.all (rs := [10]) (by kernel_rfl) rfl (DAll.cons rfl (by kernel_rfl) (l_slice1 sz_74_1 rfl rfl ⟨rfl, rfl, rfl⟩) (.inr (by rintro _ _ ⟨b93, rfl, rfl⟩ w h; exact h.subD)) rfl ?_ DAll.nil)
        rintro _ _ ⟨b93, rfl, rfl⟩
        refine D.all (rs := [11]) (by kernel_rfl) rfl (DAll.cons rfl (by kernel_rfl) (l_append Kd.oneH se_74 Tryz.underlying74 ⟨_, ze_59, rfl⟩ (by decide) rfl rfl (by repeat (first | exact Pick.here | apply Pick.there)) isP (by repeat (first | exact List.Mem.head _ | apply List.Mem.tail)) rfl rfl (by show (2 * (H0.length + 1) + 768) * 24 ≤ _; omega)) (.inr (by rintro _ _ ⟨ph, dh, rfl, rfl⟩ w h; exact h.subD)) rfl ?_ DAll.nil)
        rintro _ _ ⟨ph, dh, rfl, rfl⟩
        refine D.all (rs := [12]) (by kernel_rfl) rfl (DAll.cons rfl (by kernel_rfl) (OpQ.loud (q_nilCheck rfl)) (.inl (by kernel_rfl)) rfl ?_ DAll.nil)
        rintro _ _ ⟨rfl, rfl⟩
        refine D.all (rs := [13]) (by kernel_rfl) rfl (DAll.cons rfl (by kernel_rfl) (OpQ.loud (q_field fo_76_0 rfl)) (.inl (by kernel_rfl)) rfl ?_ DAll.nil)
        rintro _ _ ⟨rfl, rfl⟩
        refine D.all (rs := [14]) (by kernel_rfl) rfl (DAll.consN rfl (by kernel_rfl) (l_store1 ck_74 rfl rfl rfl (by repeat (first | exact Pick.here | apply Pick.there)) (by repeat (first | exact SetAt.here | apply SetAt.there))) (.inl (by kernel_rfl)) rfl ?_ DAll.nil)
        rintro _ _ ⟨rfl, rfl⟩
        refine D.done (by kernel_rfl) ?_
        refine K.region ?_
        refine KO.q rfl (q_move rfl) ?_
        refine KO.q rfl (q_field fo_59_0 rfl) ?_
        refine KO.q rfl (q_load1D ck_3 rfl) ?_
        refine KO.loud rfl (l_slice sz_39_1 rfl (by repeat (first | exact Fill.nil | (apply Fill.cons; rfl; rfl; rfl) | exact SetN.nil | apply SetN.cons | exact SetAt.here | apply SetAt.there))) ?_
        rintro _ _ ⟨b100, rfl, rfl⟩
        refine KO.loud rfl (l_append (Kd.int .i64) (ys := [x.who]) se_39 Tryz.underlying39 ⟨_, ze_3, rfl⟩ (by decide) rfl rfl (by repeat (first | exact Pick.here | apply Pick.there)) isP (by repeat (first | exact List.Mem.head _ | apply List.Mem.tail)) rfl rfl (by show (2 * (out.length + 1) + 768) * 8 ≤ _; omega)) ?_
        rintro _ _ ⟨pn, dn, rfl, rfl⟩
        refine KO.q rfl (q_assign rfl) ?_
        refine KO.done ?_
        refine K.inBlock ?_
        exact K.weak (by repeat (first | exact Env.sub_nil _ | refine Env.sub_cons rfl ?_)) (fun w h => h.fitD) (ih ⟨⟨⟨H0 ++ [x], l⟩, out ++ [x.who], ph, dh, pl, cl, pn, dn⟩, by
          show k.drop who = _
          have hp := pump_go (k := ⟨H0, x :: l⟩) rfl g49
          rw [hH] at hp
          rw [hd, hp, List.append_assoc]
          rfl, by
          show (H0 ++ [x]).length + l.length ≤ _
          rw [List.length_append]
          show H0.length + 1 + l.length ≤ _
          omega, by show (out ++ [x.who]).length + l.length ≤ _; rw [List.length_append]; show out.length + 1 + l.length ≤ _; omega⟩ (Nat.lt_succ_self _))
    · refine K.exit rfl ?_
      refine K.seq ?_
      have hr : k.drop who = (out, ⟨H0, x :: l⟩) := by
        rw [hd, pump_stop (by intro y hy; cases hy; exact g49), List.append_nil]
      rw [hr]
      refine K.region ?_
      refine KO.q rfl (q_move rfl) ?_
      refine KO.q rfl (q_assign rfl) ?_
      refine KO.done ?_
      refine K.ret (fn := Tryz.f39) Tryz.func39 (fun a w hk hs => res1 Tryz.results39 hk rfl) (fun w hs => ?_)
      exact ⟨_, RowO (Kd.int .i64) 3 po co out :: RkL b q1 c1 q2 c2 ⟨H0, x :: l⟩, rfl, ⟨q1, c1, q2, c2, po, co, rfl, rfl⟩, hs.fitD⟩
  · rcases l0 with _ | ⟨x, l⟩
    rotate_left
    · exact absurd g32 (by simp only [List.length_cons]; omega)
    refine D.skip 7 rfl (by kernel_rfl) (by kernel_rfl) (fun _ h => h.subD) ?_
    refine D.skip 8 rfl (by kernel_rfl) (by kernel_rfl) (fun _ h => h.subD) ?_
    refine D.skip 9 rfl (by kernel_rfl) (by kernel_rfl) (fun _ h => h.subD) ?_
    refine D.skip 10 rfl (by kernel_rfl) (by kernel_rfl) (fun _ h => h.subD) ?_
    refine D.skip 11 rfl (by kernel_rfl) (by kernel_rfl) (fun _ h => h.subD) ?_
    refine D.skip 12 rfl (by kernel_rfl) (by kernel_rfl) (fun _ h => h.subD) ?_
    refine D.skip 13 rfl (by kernel_rfl) (by kernel_rfl) (fun _ h => h.subD) ?_
    refine D.skip 14 rfl (by kernel_rfl) (by kernel_rfl) (fun _ h => h.subD) ?_
    refine D.skip 15 rfl (by kernel_rfl) (by kernel_rfl) (fun _ h => h.subD) ?_
    refine D.skip 16 rfl (by kernel_rfl) (by kernel_rfl) (fun _ h => h.subD) ?_
    refine D.skip 17 rfl (by kernel_rfl) (by kernel_rfl) (fun _ h => h.subD) ?_
    refine D.skip 18 rfl (by kernel_rfl) (by kernel_rfl) (fun _ h => h.subD) ?_
    refine D.skip 19 rfl (by kernel_rfl) (by kernel_rfl) (fun _ h => h.subD) ?_
    refine D.skip 20 rfl (by kernel_rfl) (by kernel_rfl) (fun _ h => h.subD) ?_
    refine D.skip 21 rfl (by kernel_rfl) (by kernel_rfl) (fun _ h => h.subD) ?_
    refine D.skip 22 rfl (by kernel_rfl) (by kernel_rfl) (fun _ h => h.subD) ?_
    refine D.q 23 rfl (by kernel_rfl) (by kernel_rfl) (q_pickF rfl rfl) (fun _ h => h.subD) ?_
    refine D.done (by kernel_rfl) ?_
    refine K.no rfl ?_
    refine K.exit rfl ?_
    refine K.seq ?_
    have hr : k.drop who = (out, ⟨H0, []⟩) := by
      rw [hd, pump_stop (by intro y hy; cases hy), List.append_nil]
    rw [hr]
    refine K.region ?_
    refine KO.q rfl (q_move rfl) ?_
    refine KO.q rfl (q_assign rfl) ?_
    refine KO.done ?_
    refine K.ret (fn := Tryz.f39) Tryz.func39 (fun a w hk hs => res1 Tryz.results39 hk rfl) (fun w hs => ?_)
    exact ⟨_, RowO (Kd.int .i64) 3 po co out :: RkL b q1 c1 q2 c2 ⟨H0, []⟩, rfl, ⟨q1, c1, q2, c2, po, co, rfl, rfl⟩, hs.fitD⟩
end Go.Proofs.YtcpkcjabmookmaaGreat.L
/-! Walks: the document's lock: who holds, who waits; lists compared. -/
namespace Go.Proofs.YtcpkcjabmookmaaGreat.L
open Go Go.Proofs
attribute [local irreducible] pv fv pt fz RowF RowO rowP old pure_ elA
set_option maxRecDepth 100000
set_option linter.unusedSimpArgs false
set_option linter.unusedVariables false

theorem isRow_conv {α β : Type} {n : Nat} {enc : α → List Value} {enc' : β → List Value} {hl : ∀ x, (enc x).length = n} {h1 : ∀ x, ∀ v ∈ enc x, v.oneCell' = true} {hl' : ∀ x, (enc' x).length = n} {h1' : ∀ x, ∀ v ∈ enc' x, v.oneCell' = true} {A : HP} {q : Option Addr} {l : List α} (f : α → β) (hf : ∀ x, enc x = enc' (f x)) (h : IsRow A (Kd.flat n enc hl h1) q l) : IsRow A (Kd.flat n enc' hl' h1') q (l.map f) := fun g hh ha => by
  rcases h g hh ha with h | ⟨b, o, c, e, fr, hp, hb, hr⟩
  · exact .inl (by rw [h]; rfl)
  · refine .inr ⟨b, o, c, e, fr, hp, hb, fun i x hx => ?_⟩
    rw [List.getElem?_map] at hx
    cases hi : l[i]? with
    | none => rw [hi] at hx; cases hx
    | some y =>
      rw [hi] at hx
      cases hx
      obtain ⟨cs, hrd, hc⟩ := hr i y hi
      cases hrd
      exact ⟨enc' (f y), rfl, fun j v hv => hc j v (by rw [hf]; exact hv)⟩
def One.held1 (o : One) : Hold := ⟨o.who, o.mode, 0⟩
def atH (l : List Hold) (who : Int) : Int := idxP (fun x => decide (x.who = who)) l
theorem atH_some {l : List Hold} {who : Int} (h : 0 ≤ atH l who) : ∃ (i : Nat) (el : Hold), l[i]? = some el ∧ atH l who = (i : Int) ∧ el.who = who := by
  unfold atH idxP at h ⊢
  cases hf : l.findIdx? (fun x => decide (x.who = who)) with
  | none => rw [hf] at h; exact absurd h (by decide)
  | some i =>
    rw [List.findIdx?_eq_some_iff_getElem] at hf
    obtain ⟨hi, h1, _⟩ := hf
    exact ⟨i, l[i], List.getElem?_eq_getElem hi, rfl, of_decide_eq_true h1⟩
/-- One of the line, told beside the holders. -/
def rh1 (out : List Hold) (e : One) : List Hold := if 0 ≤ atH out e.who then out.set (atH out e.who).toNat { out.getD (atH out e.who).toNat ⟨0, 0, 0⟩ with wants := e.mode } else out ++ [e.wait1]
def Lk.rHolds (k : Lk) : List Hold := k.line.foldl rh1 (k.hold.map One.held1)
theorem rh1_len (out : List Hold) (e : One) : (rh1 out e).length ≤ out.length + 1 := by
  unfold rh1
  split
  · rw [List.length_set]; omega
  · rw [List.length_append]; exact Nat.le_refl _
theorem foldl_take_succ {α β : Type} (f : β → α → β) (z : β) {l : List α} {i : Nat} {x : α} (h : l[i]? = some x) : (l.take (i + 1)).foldl f z = f ((l.take i).foldl f z) x := by
  rw [List.take_add_one, h, List.foldl_append]; rfl
theorem rHolds_len (z : List Hold) : ∀ (l : List One), (l.foldl rh1 z).length ≤ z.length + l.length := fun l => by
  induction l generalizing z with
  | nil => exact Nat.le_refl _
  | cons x l ih =>
    have h1 := ih (rh1 z x)
    have h2 := rh1_len z x
    simp only [List.foldl_cons, List.length_cons]
    omega
theorem rf_findO (e : TypeId) (q : Option Addr) (cap : Nat) (l : List Hold) (who : Int) (hn : l.length ≤ 2000000000) : Fn Tryz.prog 32 [.slice q l.length cap, .int .i64 who].toArray [RowO Kd.hold e q cap l] (fun r post => r = .int .i64 (atH l who) ∧ post = [RowO Kd.hold e q cap l]) := rf_find Hold.who (fun _ => rfl) (RowO Kd.hold e q cap l) q cap l who isO (by omega)
set_option maxHeartbeats 1600000 in
theorem rf_Holds (b : Nat) (q1 : Option Addr) (c1 : Nat) (q2 : Option Addr) (c2 : Nat) (k : Lk) (hl : k.hold.length + k.line.length ≤ 1000000000) : Fn Tryz.prog 40 [.pointer (some ⟨b, 0, none⟩)].toArray (RkL b q1 c1 q2 c2 k) (fun r post => ∃ po co, r = .slice po k.rHolds.length co ∧ post = RowO Kd.hold 59 po co k.rHolds :: RkL b q1 c1 q2 c2 k) := by
  refine Fn.enter (N := 55) Tryz.func40 rfl Tryz.ntmps40 (by kernel_rfl) rfl (fun ρ L => ?_)
  refine K.seq ?_
  refine K.region ?_
  refine KO.q rfl (q_assign rfl) ?_
  refine KO.done ?_
  refine K.seq ?_
  refine K.region ?_
  refine KO.q rfl (q_move rfl) ?_
  refine KO.q rfl (q_nilCheck rfl) ?_
  refine KO.q rfl (q_field fo_76_0 rfl) ?_
  refine KO.q rfl (q_load1D ck_74 rfl) ?_
  refine KO.st (fun w h => rowO_nil (k := Kd.hold) 59 h) ?_
  refine KO.loud rfl (l_append Kd.hold (ys := k.hold.map One.held1) se_74 Tryz.underlying74 ⟨_, ze_59, rfl⟩ (by decide) rfl rfl (by repeat (first | exact Pick.here | apply Pick.there)) (isRow_conv One.held1 (fun _ => rfl) (isO (k := Kd.oneH) (p := q1) (xs := k.hold))) (by repeat (first | exact List.Mem.head _ | apply List.Mem.tail)) rfl (by rw [List.length_map]) (by rw [List.length_map]; show (2 * (0 + k.hold.length) + 768) * 24 ≤ _; omega)) ?_
  rintro _ _ ⟨pa, ca, rfl, rfl⟩
  rw [List.nil_append]
  refine KO.q rfl (q_assign rfl) ?_
  refine KO.done ?_
  refine K.seq <| K.seq ?_
  refine K.region ?_
  refine KO.q rfl (q_assign rfl) ?_
  refine KO.done ?_
  refine K.block ?_
  refine K.rounds2 (ι := { s : Nat × Option Addr × Nat // s.1 ≤ k.line.length }) (fun s => [(4, .int .i64 s.1.1), (3, .slice s.1.2.1 ((k.line.take s.1.1).foldl rh1 (k.hold.map One.held1)).length s.1.2.2), (0, .pointer (some ⟨b, 0, none⟩))]) (fun s => RowO Kd.hold 59 s.1.2.1 s.1.2.2 ((k.line.take s.1.1).foldl rh1 (k.hold.map One.held1)) :: RkL b q1 c1 q2 c2 k ++ L) (fun s => k.line.length - s.1.1) ⟨(0, pa, ca), Nat.zero_le _⟩ (by repeat (first | exact Env.sub_nil _ | refine Env.sub_cons rfl ?_)) (fun w h => h.fitD) (fun s ih => ?_)
  obtain ⟨⟨i, po, co⟩, hi⟩ := s
  dsimp only at hi ⊢
  obtain ⟨out, hout⟩ : ∃ out, out = (k.line.take i).foldl rh1 (k.hold.map One.held1) := ⟨_, rfl⟩
  have hol : out.length ≤ 1000000000 := by
    rw [hout]
    have h1 := rHolds_len (k.hold.map One.held1) (k.line.take i)
    rw [List.length_map, List.length_take] at h1
    omega
  rw [← hout]
  refine K.seq <| K.seq ?_
  refine K.region ?_
  refine KO.q rfl (q_move rfl) ?_
  refine KO.q rfl (q_move rfl) ?_
  refine KO.q rfl (q_nilCheck rfl) ?_
  refine KO.q rfl (q_field fo_76_1 rfl) ?_
  refine KO.q rfl (q_load1D ck_74 rfl) ?_
  refine KO.q rfl (q_len Tryz.underlying74 rfl) ?_
  refine KO.q rfl (q_lt rfl rfl) ?_
  refine KO.done ?_
  refine K.dcond (s := 17) rfl (fun g17 => ?_) (fun g17 => ?_)
  · obtain ⟨e, he⟩ : ∃ e, k.line[i]? = some e := ⟨_, List.getElem?_eq_getElem (by omega)⟩
    have hm := foldl_take_succ rh1 (k.hold.map One.held1) he
    rw [← hout] at hm
    refine K.skip <| K.seq <| K.block <| K.seq ?_
    refine K.region ?_
    refine KO.q rfl (q_move rfl) ?_
    refine KO.q rfl (q_move rfl) ?_
    refine KO.q rfl (q_nilCheck rfl) ?_
    refine KO.q rfl (q_field fo_76_1 rfl) ?_
    refine KO.q rfl (q_load1D ck_74 rfl) ?_
    refine KO.q rfl (q_move rfl) ?_
    refine KO.q rfl (q_ix (xs := k.line) i se_74 rfl rfl rfl isO (by repeat (first | exact List.Mem.head _ | apply List.Mem.tail)) rfl (by omega)) ?_
    refine KO.q rfl (q_fieldE fo_59_0 rfl) ?_
    refine KO.q rfl (q_ldE (xs := k.line) (enc := One.lineC) ck_3 rfl isO (by repeat (first | exact List.Mem.head _ | apply List.Mem.tail)) he rfl) ?_
    refine KO.loud rfl (OpL.callD rfl (h := rf_findO 59 po co out e.who (by omega))) ?_
    rintro _ _ ⟨_, ⟨rfl, rfl⟩, rfl⟩
    refine KO.q rfl (q_assign rfl) ?_
    refine KO.done ?_
    refine K.seq ?_
    refine K.region ?_
    refine KO.q rfl (q_move rfl) ?_
    refine KO.q rfl (q_ge rfl rfl) ?_
    refine KO.done ?_
    refine K.dcond (s := 31) rfl (fun g31 => ?_) (fun g31 => ?_)
    · obtain ⟨j, ho, hj, hji, hw⟩ := atH_some g31
      have hjl := (List.getElem?_eq_some_iff.1 hj).1
      have hz : (k.line.take (i + 1)).foldl rh1 (k.hold.map One.held1) = out.set j { ho with wants := e.mode } := by
        rw [hm]; unfold rh1; rw [if_pos g31, hji, Int.toNat_natCast, List.getD_eq_getElem?_getD, hj]; rfl
      have hzl : ((k.line.take (i + 1)).foldl rh1 (k.hold.map One.held1)).length = out.length := by rw [hz, List.length_set]
      refine K.region ?_
      refine KO.q rfl (q_move rfl) ?_
      refine KO.q rfl (q_move rfl) ?_
      refine KO.q rfl (q_move rfl) ?_
      refine KO.q rfl (q_nilCheck rfl) ?_
      refine KO.q rfl (q_field fo_76_1 rfl) ?_
      refine KO.q rfl (q_load1D ck_74 rfl) ?_
      refine KO.q rfl (q_move rfl) ?_
      refine KO.q rfl (q_ix (xs := k.line) i se_74 rfl rfl rfl isO (by repeat (first | exact List.Mem.head _ | apply List.Mem.tail)) rfl (by omega)) ?_
      refine KO.q rfl (q_fieldE fo_59_2 rfl) ?_
      refine KO.q rfl (q_ldE (xs := k.line) (enc := One.lineC) ck_3 rfl isO (by repeat (first | exact List.Mem.head _ | apply List.Mem.tail)) he rfl) ?_
      refine KO.q rfl (q_ix (xs := out) j se_74 rfl rfl hji isO (by repeat (first | exact List.Mem.head _ | apply List.Mem.tail)) rfl hjl) ?_
      refine KO.q rfl (q_fieldE fo_59_2 rfl) ?_
      refine KO.loudN rfl (l_storeE (el := ho) { ho with wants := e.mode } ck_3 rfl rfl rfl (by repeat (first | exact Pick.here | apply Pick.there)) hj (by decide) rfl) ?_
      rintro _ _ ⟨rfl, rfl⟩
      refine KO.done ?_
      refine K.inBlock ?_
      refine K.region ?_
      refine KO.q rfl (q_move rfl) ?_
      refine KO.q rfl (q_add rfl rfl (by first | omega | (simp; omega)) (by first | omega | (simp; omega))) ?_
      refine KO.q rfl (q_assign rfl) ?_
      refine KO.done ?_
      exact K.weak (E' := [(4, .int .i64 ((i + 1 : Nat) : Int)), (3, .slice po ((k.line.take (i + 1)).foldl rh1 (k.hold.map One.held1)).length co), (0, .pointer (some ⟨b, 0, none⟩))]) (by rw [hzl]; exact (by repeat (first | exact Env.sub_nil _ | refine Env.sub_cons rfl ?_))) (fun w h => by rw [hz]; exact h.fitD) (ih ⟨(i + 1, po, co), by show i + 1 ≤ _; omega⟩ (by show k.line.length - (i + 1) < k.line.length - i; omega))
    · have hz : (k.line.take (i + 1)).foldl rh1 (k.hold.map One.held1) = out ++ [e.wait1] := by rw [hm]; unfold rh1; rw [if_neg g31]
      refine K.region ?_
      refine KO.q rfl (q_move rfl) ?_
      refine KO.q rfl (q_move rfl) ?_
      refine KO.q rfl (q_nilCheck rfl) ?_
      refine KO.q rfl (q_field fo_76_1 rfl) ?_
      refine KO.q rfl (q_load1D ck_74 rfl) ?_
      refine KO.q rfl (q_move rfl) ?_
      refine KO.q rfl (q_ix (xs := k.line) i se_74 rfl rfl rfl isO (by repeat (first | exact List.Mem.head _ | apply List.Mem.tail)) rfl (by omega)) ?_
      refine KO.q rfl (q_ldEN (xs := k.line) (enc := One.lineC) ck_59 rfl isO (by repeat (first | exact List.Mem.head _ | apply List.Mem.tail)) he) ?_
      refine KO.loud rfl (l_slice1 sz_74_1 rfl rfl ⟨rfl, rfl, rfl⟩) ?_
      rintro _ _ ⟨b52, rfl, rfl⟩
      refine KO.loud rfl (l_append Kd.hold (ys := [e.wait1]) se_74 Tryz.underlying74 ⟨_, ze_59, rfl⟩ (by decide) rfl rfl (by repeat (first | exact Pick.here | apply Pick.there)) (isP (enc := Hold.cells) (x := e.wait1)) (by repeat (first | exact List.Mem.head _ | apply List.Mem.tail)) rfl rfl (by show (2 * (out.length + 1) + 768) * 24 ≤ _; omega)) ?_
      rintro _ _ ⟨pn, dn, rfl, rfl⟩
      refine KO.q rfl (q_assign rfl) ?_
      refine KO.done ?_
      refine K.inBlock ?_
      refine K.region ?_
      refine KO.q rfl (q_move rfl) ?_
      refine KO.q rfl (q_add rfl rfl (by first | omega | (simp; omega)) (by first | omega | (simp; omega))) ?_
      refine KO.q rfl (q_assign rfl) ?_
      refine KO.done ?_
      exact K.weak (E' := [(4, .int .i64 ((i + 1 : Nat) : Int)), (3, .slice pn ((k.line.take (i + 1)).foldl rh1 (k.hold.map One.held1)).length dn), (0, .pointer (some ⟨b, 0, none⟩))]) (by rw [hz]; exact (by repeat (first | exact Env.sub_nil _ | refine Env.sub_cons rfl ?_))) (fun w h => by rw [hz]; exact h.fitD) (ih ⟨(i + 1, pn, dn), by show i + 1 ≤ _; omega⟩ (by show k.line.length - (i + 1) < k.line.length - i; omega))
  · obtain rfl : i = k.line.length := by omega
    rw [List.take_length] at hout
    refine K.exit rfl ?_
    refine K.seq ?_
    refine K.region ?_
    refine KO.q rfl (q_move rfl) ?_
    refine KO.q rfl (q_assign rfl) ?_
    refine KO.done ?_
    refine K.ret (fn := Tryz.f40) Tryz.func40 (fun a w hk hs => res1 Tryz.results40 hk rfl) (fun w hs => ?_)
    exact ⟨_, RowO Kd.hold 59 po co out :: RkL b q1 c1 q2 c2 k, rfl, ⟨po, co, by rw [hout]; rfl, by rw [hout]; rfl⟩, hs.fitD⟩
/-- A number put into a row that rises. -/
def insI : List Int → Int → List Int
  | [], n => [n]
  | x :: l, n => if x < n then x :: insI l n else if x = n then x :: l else n :: x :: l
theorem insI_at {n : Int} : ∀ {l : List Int} {i : Nat}, i ≤ l.length → (l.take i).all (fun x => decide (x < n)) = true → (∀ x, l[i]? = some x → ¬ x < n) → insI l n = if l[i]? = some n then l else l.take i ++ [n] ++ l.drop i
  | [], 0, _, _, _ => rfl
  | x :: l, 0, _, _, h => by
    have hx : ¬ x < n := h x rfl
    rw [insI, if_neg hx]
    by_cases he : x = n
    · rw [if_pos he, if_pos (by rw [he]; rfl)]
    · rw [if_neg he, if_neg (by simpa using he)]; rfl
  | x :: l, i + 1, hi, ha, h => by
    simp only [List.take_succ_cons, List.all_cons, Bool.and_eq_true, decide_eq_true_eq] at ha
    rw [insI, if_pos ha.1, insI_at (l := l) (i := i) (by simpa using hi) ha.2 (fun y hy => h y hy)]
    simp only [List.getElem?_cons_succ, List.take_succ_cons, List.drop_succ_cons, List.cons_append]
    split <;> rfl
theorem insI_len : ∀ (l : List Int) (n : Int), (insI l n).length ≤ l.length + 1
  | [], _ => Nat.le_refl _
  | x :: l, n => by
    have := insI_len l n
    rw [insI]
    split
    · simp only [List.length_cons]; omega
    · split <;> simp only [List.length_cons] <;> omega
set_option maxHeartbeats 1600000 in
theorem rf_insert (q : Option Addr) (cap : Nat) (l : List Int) (n : Int) (hl : l.length ≤ 1000000000) : Fn Tryz.prog 47 [.slice q l.length cap, .int .i64 n].toArray [RowO (Kd.int .i64) 3 q cap l] (fun r post => ∃ q' c', r = .slice q' (insI l n).length c' ∧ post = [RowO (Kd.int .i64) 3 q' c' (insI l n)]) := by
  refine Fn.enter (N := 44) Tryz.func47 rfl Tryz.ntmps47 (by kernel_rfl) rfl (fun ρ L => ?_)
  refine K.seq ?_
  refine K.fact (fun w h => rowO_cap (e := 3) (k := Kd.int .i64) (p := q) (cap := cap) (xs := l) (by repeat (first | exact List.Mem.head _ | apply List.Mem.tail)) w h) (fun hc => ?_)
  refine K.region ?_
  refine KO.q rfl (q_assign rfl) ?_
  refine KO.done ?_
  refine K.seq ?_
  refine K.region ?_
  refine KO.q rfl (q_assign rfl) ?_
  refine KO.done ?_
  refine K.seq <| K.block ?_
  refine K.rloop (ι := { i : Nat // i ≤ l.length ∧ (l.take i).all (fun x => decide (x < n)) = true }) (fun x => [(5, .int .i64 x.1), (0, .slice q l.length cap), (1, .int .i64 n)]) (fun x => l.length - x.1) ⟨0, Nat.zero_le _, rfl⟩ (by repeat (first | exact Env.sub_nil _ | refine Env.sub_cons rfl ?_)) (fun x ih => ?_)
  obtain ⟨i, hi, hz⟩ := x
  dsimp only at hi hz ⊢
  refine K.seq <| K.seq ?_
  refine K.region ?_
  refine KO.q rfl (q_move rfl) ?_
  refine KO.q rfl (q_move rfl) ?_
  refine KO.q rfl (q_len Tryz.underlying39 rfl) ?_
  refine KO.q rfl (q_lt rfl rfl) ?_
  refine KO.q rfl (q_move rfl) ?_
  refine KO.dsplit 10 rfl (fun g10 => ?_) (fun g10 => ?_)
  · obtain ⟨e, he⟩ : ∃ e, l[i]? = some e := ⟨_, List.getElem?_eq_getElem (by omega)⟩
    refine KO.q rfl (q_move rfl) ?_
    refine KO.q rfl (q_move rfl) ?_
    refine KO.q rfl (q_ix i se_39 rfl rfl rfl isO (by repeat (first | exact List.Mem.head _ | apply List.Mem.tail)) rfl (by omega)) ?_
    refine KO.q rfl (q_ldE ck_3 rfl isO (by repeat (first | exact List.Mem.head _ | apply List.Mem.tail)) he rfl) ?_
    refine KO.q rfl (q_move rfl) ?_
    refine KO.q rfl (q_lt rfl rfl) ?_
    refine KO.q rfl (q_pickT rfl rfl) ?_
    refine KO.done ?_
    refine K.dcond (s := 17) rfl (fun g17 => ?_) (fun g17 => ?_)
    · refine K.skip <| K.block ?_
      refine K.region ?_
      refine KO.q rfl (q_move rfl) ?_
      refine KO.q rfl (q_add rfl rfl (by first | omega | (simp; omega)) (by first | omega | (simp; omega))) ?_
      refine KO.q rfl (q_assign rfl) ?_
      refine KO.done ?_
      refine K.inBlock ?_
      exact K.subE (by repeat (first | exact Env.sub_nil _ | refine Env.sub_cons rfl ?_)) (ih ⟨i + 1, by omega, by rw [all_take_succ he, hz, decide_eq_true g17]; rfl⟩ (by show l.length - (i + 1) < l.length - i; omega))
    · have hins := insI_at hi hz (fun x hx => by rw [he] at hx; cases hx; exact g17)
      refine K.exit rfl ?_
      refine K.seq <| K.seq ?_
      refine K.region ?_
      refine KO.q rfl (q_move rfl) ?_
      refine KO.q rfl (q_move rfl) ?_
      refine KO.q rfl (q_len Tryz.underlying39 rfl) ?_
      refine KO.q rfl (q_lt rfl rfl) ?_
      refine KO.q rfl (q_move rfl) ?_
      refine KO.dsplit 24 rfl (fun g24 => ?_) (fun g24 => ?_)
      · refine KO.q rfl (q_move rfl) ?_
        refine KO.q rfl (q_move rfl) ?_
        refine KO.q rfl (q_ix i se_39 rfl rfl rfl isO (by repeat (first | exact List.Mem.head _ | apply List.Mem.tail)) rfl (by omega)) ?_
        refine KO.q rfl (q_ldE ck_3 rfl isO (by repeat (first | exact List.Mem.head _ | apply List.Mem.tail)) he rfl) ?_
        refine KO.q rfl (q_move rfl) ?_
        refine KO.q rfl (q_eq rfl rfl) ?_
        refine KO.q rfl (q_pickT rfl rfl) ?_
        refine KO.done ?_
        refine K.dcond (s := 31) rfl (fun g31 => ?_) (fun g31 => ?_)
        · rw [if_pos (by rw [he, g31])] at hins
          refine K.seq ?_
          refine K.region ?_
          refine KO.q rfl (q_move rfl) ?_
          refine KO.q rfl (q_assign rfl) ?_
          refine KO.done ?_
          refine K.ret (fn := Tryz.f47) Tryz.func47 (fun a w hk hs => res1 Tryz.results47 hk rfl) (fun w hs => ?_)
          rw [hins]
          exact ⟨_, [RowO (Kd.int .i64) 3 q cap l], rfl, ⟨q, cap, rfl, rfl⟩, hs.fitD⟩
        · rw [if_neg (by rw [he]; simpa using g31)] at hins
          refine K.skip <| K.seq ?_
          refine K.drawS [RowO (Kd.int .i64) 3 q cap l] (fun _ h => h.subD) mixed ?_
          refine D.q 0 rfl (by kernel_rfl) (by kernel_rfl) (q_move rfl) (fun _ h => h.subD) ?_
          refine D.q 1 rfl (by kernel_rfl) (by kernel_rfl) (q_move rfl) (fun _ h => h.subD) ?_
          refine D.q 2 rfl (by kernel_rfl) (by kernel_rfl) (q_cutH se_39 rfl rfl (by first | omega | (simp; omega)) (by first | omega | (simp; omega))) (fun _ h => h.subD) ?_
          refine D.q 4 rfl (by kernel_rfl) (by kernel_rfl) (q_move rfl) (fun _ h => h.subD) ?_
          refine D.q 7 rfl (by kernel_rfl) (by kernel_rfl) (q_move rfl) (fun _ h => h.subD) ?_
          refine D.q 8 rfl (by kernel_rfl) (by kernel_rfl) (q_move rfl) (fun _ h => h.subD) ?_
          refine D.q 9 rfl (by kernel_rfl) (by kernel_rfl) (q_cutL se_39 rfl rfl (by first | omega | (simp; omega)) (by first | omega | (simp; omega)) (by first | omega | (simp; omega))) (fun _ h => h.subD) ?_
          refine D.st (fun w h => rowO_nil (k := Kd.int .i64) 3 h) ?_
          refine D.all (rs := [3, 5]) (by kernel_rfl) rfl (DAll.cons rfl (by kernel_rfl) (l_append (Kd.int .i64) (ys := l.take i) se_39 Tryz.underlying39 ⟨_, ze_3, rfl⟩ (by decide) rfl rfl (by repeat (first | exact Pick.here | apply Pick.there)) (isRow_take isO i) (by repeat (first | exact List.Mem.head _ | apply List.Mem.tail)) rfl (by rw [List.length_take]; omega) (by rw [List.length_take]; show (2 * (0 + _) + 768) * 8 ≤ _; omega)) (.inr (by rintro _ _ ⟨pa, ca, rfl, rfl⟩ w h; exact h.subD)) rfl ?_ (DAll.cons rfl (by kernel_rfl) (l_slice sz_39_1 rfl (by repeat (first | exact Fill.nil | (apply Fill.cons; rfl; rfl; rfl) | exact SetN.nil | apply SetN.cons | exact SetAt.here | apply SetAt.there))) (.inr (by rintro _ _ ⟨b38, rfl, rfl⟩ w h; exact h.subD)) rfl ?_ DAll.nil))
          · rintro _ _ ⟨pa, ca, rfl, rfl⟩
            refine D.all (rs := [5]) (by kernel_rfl) rfl (DAll.cons rfl (by kernel_rfl) (l_slice sz_39_1 rfl (by repeat (first | exact Fill.nil | (apply Fill.cons; rfl; rfl; rfl) | exact SetN.nil | apply SetN.cons | exact SetAt.here | apply SetAt.there))) (.inr (by rintro _ _ ⟨b38, rfl, rfl⟩ w h; exact h.subD)) rfl ?_ DAll.nil)
            rintro _ _ ⟨b38, rfl, rfl⟩
            refine D.all (rs := [6]) (by kernel_rfl) rfl (DAll.cons rfl (by kernel_rfl) (l_append (Kd.int .i64) (ys := [n]) se_39 Tryz.underlying39 ⟨_, ze_3, rfl⟩ (by decide) rfl rfl (by repeat (first | exact Pick.here | apply Pick.there)) isP (by repeat (first | exact List.Mem.head _ | apply List.Mem.tail)) rfl rfl (by rw [List.nil_append, List.length_take]; show (2 * (_ + 1) + 768) * 8 ≤ _; omega)) (.inr (by rintro _ _ ⟨pb, cb, rfl, rfl⟩ w h; exact h.subD)) rfl ?_ DAll.nil)
            rintro _ _ ⟨pb, cb, rfl, rfl⟩
            refine D.all (rs := [10]) (by kernel_rfl) rfl (DAll.cons rfl (by kernel_rfl) (l_append (Kd.int .i64) (ys := l.drop i) se_39 Tryz.underlying39 ⟨_, ze_3, rfl⟩ (by decide) rfl rfl (by repeat (first | exact Pick.here | apply Pick.there)) (isO_cut i) (by repeat (first | exact List.Mem.head _ | apply List.Mem.tail)) rfl (by rw [List.length_drop]; rfl) (by rw [List.nil_append, List.length_append, List.length_take, List.length_drop]; show (2 * (_ + 1 + _) + 768) * 8 ≤ _; omega)) (.inr (by rintro _ _ ⟨pn, dn, rfl, rfl⟩ w h; exact h.subD)) rfl ?_ DAll.nil)
            rintro _ _ ⟨pn, dn, rfl, rfl⟩
            refine D.q 11 rfl (by kernel_rfl) (by kernel_rfl) (q_assign rfl) (fun _ h => h.subD) ?_
            refine D.done (by kernel_rfl) ?_
            refine K.ret (fn := Tryz.f47) Tryz.func47 (fun a w hk hs => res1 Tryz.results47 hk rfl) (fun w hs => ?_)
            rw [hins]
            exact ⟨_, [RowO (Kd.int .i64) 3 pn dn (l.take i ++ [n] ++ l.drop i)], rfl, ⟨pn, dn, rfl, rfl⟩, hs.fitD⟩
          · rintro _ _ ⟨b38, rfl, rfl⟩
            refine D.st (fun w h => rowO_nil (k := Kd.int .i64) 3 h) ?_
            refine D.all (rs := [3]) (by kernel_rfl) rfl (DAll.cons rfl (by kernel_rfl) (l_append (Kd.int .i64) (ys := l.take i) se_39 Tryz.underlying39 ⟨_, ze_3, rfl⟩ (by decide) rfl rfl (by repeat (first | exact Pick.here | apply Pick.there)) (isRow_take isO i) (by repeat (first | exact List.Mem.head _ | apply List.Mem.tail)) rfl (by rw [List.length_take]; omega) (by rw [List.length_take]; show (2 * (0 + _) + 768) * 8 ≤ _; omega)) (.inr (by rintro _ _ ⟨pa, ca, rfl, rfl⟩ w h; exact h.subD)) rfl ?_ DAll.nil)
            rintro _ _ ⟨pa, ca, rfl, rfl⟩
            refine D.all (rs := [6]) (by kernel_rfl) rfl (DAll.cons rfl (by kernel_rfl) (l_append (Kd.int .i64) (ys := [n]) se_39 Tryz.underlying39 ⟨_, ze_3, rfl⟩ (by decide) rfl rfl (by repeat (first | exact Pick.here | apply Pick.there)) isP (by repeat (first | exact List.Mem.head _ | apply List.Mem.tail)) rfl rfl (by rw [List.nil_append, List.length_take]; show (2 * (_ + 1) + 768) * 8 ≤ _; omega)) (.inr (by rintro _ _ ⟨pb, cb, rfl, rfl⟩ w h; exact h.subD)) rfl ?_ DAll.nil)
            rintro _ _ ⟨pb, cb, rfl, rfl⟩
            refine D.all (rs := [10]) (by kernel_rfl) rfl (DAll.cons rfl (by kernel_rfl) (l_append (Kd.int .i64) (ys := l.drop i) se_39 Tryz.underlying39 ⟨_, ze_3, rfl⟩ (by decide) rfl rfl (by repeat (first | exact Pick.here | apply Pick.there)) (isO_cut i) (by repeat (first | exact List.Mem.head _ | apply List.Mem.tail)) rfl (by rw [List.length_drop]; rfl) (by rw [List.nil_append, List.length_append, List.length_take, List.length_drop]; show (2 * (_ + 1 + _) + 768) * 8 ≤ _; omega)) (.inr (by rintro _ _ ⟨pn, dn, rfl, rfl⟩ w h; exact h.subD)) rfl ?_ DAll.nil)
            rintro _ _ ⟨pn, dn, rfl, rfl⟩
            refine D.q 11 rfl (by kernel_rfl) (by kernel_rfl) (q_assign rfl) (fun _ h => h.subD) ?_
            refine D.done (by kernel_rfl) ?_
            refine K.ret (fn := Tryz.f47) Tryz.func47 (fun a w hk hs => res1 Tryz.results47 hk rfl) (fun w hs => ?_)
            rw [hins]
            exact ⟨_, [RowO (Kd.int .i64) 3 pn dn (l.take i ++ [n] ++ l.drop i)], rfl, ⟨pn, dn, rfl, rfl⟩, hs.fitD⟩
      · exact absurd ((List.getElem?_eq_some_iff.1 he).1) (by omega)
  · have hins := insI_at hi hz (fun x hx => by rw [List.getElem?_eq_none (by omega)] at hx; cases hx)
    have hno : l[i]? = none := List.getElem?_eq_none (by omega)
    refine KO.skip rfl ?_
    refine KO.skip rfl ?_
    refine KO.skip rfl ?_
    refine KO.skip rfl ?_
    refine KO.skip rfl ?_
    refine KO.skip rfl ?_
    refine KO.q rfl (q_pickF rfl rfl) ?_
    refine KO.done ?_
    refine K.no rfl ?_
    refine K.exit rfl ?_
    refine K.seq <| K.seq ?_
    refine K.region ?_
    refine KO.q rfl (q_move rfl) ?_
    refine KO.q rfl (q_move rfl) ?_
    refine KO.q rfl (q_len Tryz.underlying39 rfl) ?_
    refine KO.q rfl (q_lt rfl rfl) ?_
    refine KO.q rfl (q_move rfl) ?_
    refine KO.dsplit 24 rfl (fun g24 => ?_) (fun g24 => ?_)
    · exact absurd g24 (by omega)
    · refine KO.skip rfl ?_
      refine KO.skip rfl ?_
      refine KO.skip rfl ?_
      refine KO.skip rfl ?_
      refine KO.skip rfl ?_
      refine KO.skip rfl ?_
      refine KO.q rfl (q_pickF rfl rfl) ?_
      refine KO.done ?_
      refine K.no rfl ?_
      refine K.skip <| K.seq ?_
      rw [if_neg (by rw [hno]; simp)] at hins
      refine K.drawS [RowO (Kd.int .i64) 3 q cap l] (fun _ h => h.subD) mixed ?_
      refine D.q 0 rfl (by kernel_rfl) (by kernel_rfl) (q_move rfl) (fun _ h => h.subD) ?_
      refine D.q 1 rfl (by kernel_rfl) (by kernel_rfl) (q_move rfl) (fun _ h => h.subD) ?_
      refine D.q 2 rfl (by kernel_rfl) (by kernel_rfl) (q_cutH se_39 rfl rfl (by first | omega | (simp; omega)) (by first | omega | (simp; omega))) (fun _ h => h.subD) ?_
      refine D.q 4 rfl (by kernel_rfl) (by kernel_rfl) (q_move rfl) (fun _ h => h.subD) ?_
      refine D.q 7 rfl (by kernel_rfl) (by kernel_rfl) (q_move rfl) (fun _ h => h.subD) ?_
      refine D.q 8 rfl (by kernel_rfl) (by kernel_rfl) (q_move rfl) (fun _ h => h.subD) ?_
      refine D.q 9 rfl (by kernel_rfl) (by kernel_rfl) (q_cutL se_39 rfl rfl (by first | omega | (simp; omega)) (by first | omega | (simp; omega)) (by first | omega | (simp; omega))) (fun _ h => h.subD) ?_
      refine D.st (fun w h => rowO_nil (k := Kd.int .i64) 3 h) ?_
      refine D.all (rs := [3, 5]) (by kernel_rfl) rfl (DAll.cons rfl (by kernel_rfl) (l_append (Kd.int .i64) (ys := l.take i) se_39 Tryz.underlying39 ⟨_, ze_3, rfl⟩ (by decide) rfl rfl (by repeat (first | exact Pick.here | apply Pick.there)) (isRow_take isO i) (by repeat (first | exact List.Mem.head _ | apply List.Mem.tail)) rfl (by rw [List.length_take]; omega) (by rw [List.length_take]; show (2 * (0 + _) + 768) * 8 ≤ _; omega)) (.inr (by rintro _ _ ⟨pa, ca, rfl, rfl⟩ w h; exact h.subD)) rfl ?_ (DAll.cons rfl (by kernel_rfl) (l_slice sz_39_1 rfl (by repeat (first | exact Fill.nil | (apply Fill.cons; rfl; rfl; rfl) | exact SetN.nil | apply SetN.cons | exact SetAt.here | apply SetAt.there))) (.inr (by rintro _ _ ⟨b38, rfl, rfl⟩ w h; exact h.subD)) rfl ?_ DAll.nil))
      · rintro _ _ ⟨pa, ca, rfl, rfl⟩
        refine D.all (rs := [5]) (by kernel_rfl) rfl (DAll.cons rfl (by kernel_rfl) (l_slice sz_39_1 rfl (by repeat (first | exact Fill.nil | (apply Fill.cons; rfl; rfl; rfl) | exact SetN.nil | apply SetN.cons | exact SetAt.here | apply SetAt.there))) (.inr (by rintro _ _ ⟨b38, rfl, rfl⟩ w h; exact h.subD)) rfl ?_ DAll.nil)
        rintro _ _ ⟨b38, rfl, rfl⟩
        refine D.all (rs := [6]) (by kernel_rfl) rfl (DAll.cons rfl (by kernel_rfl) (l_append (Kd.int .i64) (ys := [n]) se_39 Tryz.underlying39 ⟨_, ze_3, rfl⟩ (by decide) rfl rfl (by repeat (first | exact Pick.here | apply Pick.there)) isP (by repeat (first | exact List.Mem.head _ | apply List.Mem.tail)) rfl rfl (by rw [List.nil_append, List.length_take]; show (2 * (_ + 1) + 768) * 8 ≤ _; omega)) (.inr (by rintro _ _ ⟨pb, cb, rfl, rfl⟩ w h; exact h.subD)) rfl ?_ DAll.nil)
        rintro _ _ ⟨pb, cb, rfl, rfl⟩
        refine D.all (rs := [10]) (by kernel_rfl) rfl (DAll.cons rfl (by kernel_rfl) (l_append (Kd.int .i64) (ys := l.drop i) se_39 Tryz.underlying39 ⟨_, ze_3, rfl⟩ (by decide) rfl rfl (by repeat (first | exact Pick.here | apply Pick.there)) (isO_cut i) (by repeat (first | exact List.Mem.head _ | apply List.Mem.tail)) rfl (by rw [List.length_drop]; rfl) (by rw [List.nil_append, List.length_append, List.length_take, List.length_drop]; show (2 * (_ + 1 + _) + 768) * 8 ≤ _; omega)) (.inr (by rintro _ _ ⟨pn, dn, rfl, rfl⟩ w h; exact h.subD)) rfl ?_ DAll.nil)
        rintro _ _ ⟨pn, dn, rfl, rfl⟩
        refine D.q 11 rfl (by kernel_rfl) (by kernel_rfl) (q_assign rfl) (fun _ h => h.subD) ?_
        refine D.done (by kernel_rfl) ?_
        refine K.ret (fn := Tryz.f47) Tryz.func47 (fun a w hk hs => res1 Tryz.results47 hk rfl) (fun w hs => ?_)
        rw [hins]
        exact ⟨_, [RowO (Kd.int .i64) 3 pn dn (l.take i ++ [n] ++ l.drop i)], rfl, ⟨pn, dn, rfl, rfl⟩, hs.fitD⟩
      · rintro _ _ ⟨b38, rfl, rfl⟩
        refine D.st (fun w h => rowO_nil (k := Kd.int .i64) 3 h) ?_
        refine D.all (rs := [3]) (by kernel_rfl) rfl (DAll.cons rfl (by kernel_rfl) (l_append (Kd.int .i64) (ys := l.take i) se_39 Tryz.underlying39 ⟨_, ze_3, rfl⟩ (by decide) rfl rfl (by repeat (first | exact Pick.here | apply Pick.there)) (isRow_take isO i) (by repeat (first | exact List.Mem.head _ | apply List.Mem.tail)) rfl (by rw [List.length_take]; omega) (by rw [List.length_take]; show (2 * (0 + _) + 768) * 8 ≤ _; omega)) (.inr (by rintro _ _ ⟨pa, ca, rfl, rfl⟩ w h; exact h.subD)) rfl ?_ DAll.nil)
        rintro _ _ ⟨pa, ca, rfl, rfl⟩
        refine D.all (rs := [6]) (by kernel_rfl) rfl (DAll.cons rfl (by kernel_rfl) (l_append (Kd.int .i64) (ys := [n]) se_39 Tryz.underlying39 ⟨_, ze_3, rfl⟩ (by decide) rfl rfl (by repeat (first | exact Pick.here | apply Pick.there)) isP (by repeat (first | exact List.Mem.head _ | apply List.Mem.tail)) rfl rfl (by rw [List.nil_append, List.length_take]; show (2 * (_ + 1) + 768) * 8 ≤ _; omega)) (.inr (by rintro _ _ ⟨pb, cb, rfl, rfl⟩ w h; exact h.subD)) rfl ?_ DAll.nil)
        rintro _ _ ⟨pb, cb, rfl, rfl⟩
        refine D.all (rs := [10]) (by kernel_rfl) rfl (DAll.cons rfl (by kernel_rfl) (l_append (Kd.int .i64) (ys := l.drop i) se_39 Tryz.underlying39 ⟨_, ze_3, rfl⟩ (by decide) rfl rfl (by repeat (first | exact Pick.here | apply Pick.there)) (isO_cut i) (by repeat (first | exact List.Mem.head _ | apply List.Mem.tail)) rfl (by rw [List.length_drop]; rfl) (by rw [List.nil_append, List.length_append, List.length_take, List.length_drop]; show (2 * (_ + 1 + _) + 768) * 8 ≤ _; omega)) (.inr (by rintro _ _ ⟨pn, dn, rfl, rfl⟩ w h; exact h.subD)) rfl ?_ DAll.nil)
        rintro _ _ ⟨pn, dn, rfl, rfl⟩
        refine D.q 11 rfl (by kernel_rfl) (by kernel_rfl) (q_assign rfl) (fun _ h => h.subD) ?_
        refine D.done (by kernel_rfl) ?_
        refine K.ret (fn := Tryz.f47) Tryz.func47 (fun a w hk hs => res1 Tryz.results47 hk rfl) (fun w hs => ?_)
        rw [hins]
        exact ⟨_, [RowO (Kd.int .i64) 3 pn dn (l.take i ++ [n] ++ l.drop i)], rfl, ⟨pn, dn, rfl, rfl⟩, hs.fitD⟩
end Go.Proofs.YtcpkcjabmookmaaGreat.L
