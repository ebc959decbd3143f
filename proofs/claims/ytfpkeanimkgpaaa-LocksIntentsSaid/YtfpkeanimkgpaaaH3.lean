/- Walks: the document's lock: asking. -/
import Derived.Test.YtfpkeanimkgpaaaH2
namespace Go.Proofs.Ytfpkeanimkgpaaa.L
open Go Go.Proofs
attribute [local irreducible] pv fv pt fz RowF RowO rowP old pure_ elA
set_option maxRecDepth 100000
set_option linter.unusedSimpArgs false
set_option linter.unusedVariables false

def One.heldC (o : One) : List Value := [.int .i64 o.who, .int .i64 o.mode, .int .i64 0]
def One.lineC (o : One) : List Value := [.int .i64 o.who, .int .i64 0, .int .i64 o.mode]
theorem heldC_one (o : One) : ∀ v ∈ o.heldC, v.oneCell' = true := fun v h => by simp [One.heldC] at h; rcases h with rfl | rfl | rfl <;> rfl
theorem lineC_one (o : One) : ∀ v ∈ o.lineC, v.oneCell' = true := fun v h => by simp [One.lineC] at h; rcases h with rfl | rfl | rfl <;> rfl
def Kd.oneH : Kd One := Kd.flat 3 One.heldC (fun _ => rfl) heldC_one
def Kd.oneW : Kd One := Kd.flat 3 One.lineC (fun _ => rfl) lineC_one
abbrev RkL (b : Nat) (q1 : Option Addr) (c1 : Nat) (q2 : Option Addr) (c2 : Nat) (k : Lk) : List HP := [pv b 52 [.slice q1 k.hold.length c1, .slice q2 k.line.length c2], RowO Kd.oneH 60 q1 c1 k.hold, RowO Kd.oneW 60 q2 c2 k.line]
theorem rf_find {α : Type} {enc : α → List Value} {hl : ∀ x, (enc x).length = 3} {h1 : ∀ x, ∀ v ∈ enc x, v.oneCell' = true} (wf : α → Int) (h0 : ∀ x, (enc x)[0]? = some (.int .i64 (wf x))) (A : HP) (q : Option Addr) (cap : Nat) (l : List α) (who : Int) (hA : IsRow A (Kd.flat 3 enc hl h1) q l) (hn : (l.length : Int) ≤ 9223372036854775807) : Fn Try.prog 61 [.slice q l.length cap, .int .i64 who].toArray [A] (fun r post => r = .int .i64 (idxP (fun x => decide (wf x = who)) l) ∧ post = [A]) := by
  refine Fn.enter (N := 20) Try.func61 rfl Try.ntmps61 (by kernel_rfl) rfl (fun ρ L => ?_)
  refine K.seq ?_
  refine K.region ?_
  refine KO.q rfl (q_assign rfl) ?_
  refine KO.done ?_
  refine K.seq <| K.seq ?_
  refine K.region ?_
  refine KO.q rfl (q_assign rfl) ?_
  refine KO.done ?_
  refine K.block ?_
  refine K.rloop (ι := { i : Nat // i ≤ l.length ∧ (l.take i).any (fun x => decide (wf x = who)) = false }) (fun x => [(5, .int .i64 x.1), (0, .slice q l.length cap), (1, .int .i64 who)]) (fun x => l.length - x.1) ⟨0, Nat.zero_le _, rfl⟩ (by repeat (first | exact Env.sub_nil _ | refine Env.sub_cons rfl ?_)) (fun x ih => ?_)
  obtain ⟨i, hi, hz⟩ := x
  dsimp only at hi hz ⊢
  refine K.seq <| K.seq ?_
  refine K.region ?_
  refine KO.q rfl (q_move rfl) ?_
  refine KO.q rfl (q_move rfl) ?_
  refine KO.q rfl (q_len Try.underlying50 rfl) ?_
  refine KO.q rfl (q_lt rfl rfl) ?_
  refine KO.done ?_
  refine K.dcond (s := 9) rfl (fun g9 => ?_) (fun g9 => ?_)
  · obtain ⟨e, he⟩ : ∃ e, l[i]? = some e := ⟨_, List.getElem?_eq_getElem (by omega)⟩
    refine K.skip <| K.seq <| K.block <| K.seq ?_
    refine K.region ?_
    refine KO.q rfl (q_move rfl) ?_
    refine KO.q rfl (q_move rfl) ?_
    refine KO.q rfl (q_ix i se_50 rfl rfl rfl hA (by repeat (first | exact List.Mem.head _ | apply List.Mem.tail)) rfl (by omega)) ?_
    refine KO.q rfl (q_fieldE fo_60_0 rfl) ?_
    refine KO.q rfl (q_ldE ck_3 rfl hA (by repeat (first | exact List.Mem.head _ | apply List.Mem.tail)) he (h0 e)) ?_
    refine KO.q rfl (q_move rfl) ?_
    refine KO.q rfl (q_eq rfl rfl) ?_
    refine KO.done ?_
    refine K.dcond (s := 18) rfl (fun g18 => ?_) (fun g18 => ?_)
    · refine K.seq ?_
      have hr : idxP (fun x => decide (wf x = who)) l = i := idxP_some he (decide_eq_true g18) hz
      refine K.region ?_
      refine KO.q rfl (q_move rfl) ?_
      refine KO.q rfl (q_assign rfl) ?_
      refine KO.done ?_
      refine K.ret (fn := Try.f61) Try.func61 (fun a w hk hs => res1 Try.results61 hk rfl) (fun w hs => ?_)
      rw [hr]
      exact ⟨_, [A], rfl, ⟨rfl, rfl⟩, hs.fitD⟩
    · refine K.skip <| K.inBlock ?_
      refine K.region ?_
      refine KO.q rfl (q_move rfl) ?_
      refine KO.q rfl (q_add rfl rfl (by first | omega | (simp; omega)) (by first | omega | (simp; omega))) ?_
      refine KO.q rfl (q_assign rfl) ?_
      refine KO.done ?_
      exact K.subE (by repeat (first | exact Env.sub_nil _ | refine Env.sub_cons rfl ?_)) (ih ⟨i + 1, by omega, by rw [any_take_succ he, hz, decide_eq_false g18]; rfl⟩ (by show l.length - (i + 1) < l.length - i; omega))
  · refine K.exit rfl ?_
    refine K.seq ?_
    have hr : idxP (fun x => decide (wf x = who)) l = -1 := idxP_none (by rw [List.take_of_length_le (by omega)] at hz; exact hz)
    refine K.region ?_
    refine KO.q rfl (q_assign rfl) ?_
    refine KO.done ?_
    refine K.ret (fn := Try.f61) Try.func61 (fun a w hk hs => res1 Try.results61 hk rfl) (fun w hs => ?_)
    rw [hr]
    exact ⟨_, [A], rfl, ⟨rfl, rfl⟩, hs.fitD⟩
theorem rf_findH (e : TypeId) (q : Option Addr) (cap : Nat) (l : List One) (who : Int) (hn : l.length ≤ 1000000000) : Fn Try.prog 61 [.slice q l.length cap, .int .i64 who].toArray [RowO Kd.oneH e q cap l] (fun r post => r = .int .i64 (at1 l who) ∧ post = [RowO Kd.oneH e q cap l]) := rf_find One.who (fun _ => rfl) (RowO Kd.oneH e q cap l) q cap l who isO (by omega)
theorem rf_findW (e : TypeId) (q : Option Addr) (cap : Nat) (l : List One) (who : Int) (hn : l.length ≤ 1000000000) : Fn Try.prog 61 [.slice q l.length cap, .int .i64 who].toArray [RowO Kd.oneW e q cap l] (fun r post => r = .int .i64 (at1 l who) ∧ post = [RowO Kd.oneW e q cap l]) := rf_find One.who (fun _ => rfl) (RowO Kd.oneW e q cap l) q cap l who isO (by omega)
theorem rf_fits (b : Nat) (q1 : Option Addr) (c1 : Nat) (q2 : Option Addr) (c2 : Nat) (k : Lk) (x : One) (hl : k.hold.length ≤ 1000000000) : Fn Try.prog 63 [.pointer (some ⟨b, 0, none⟩), .int .i64 x.who, .int .i64 x.mode].toArray (RkL b q1 c1 q2 c2 k) (fun r post => r = .bool (k.fits x) ∧ post = RkL b q1 c1 q2 c2 k) := by
  refine Fn.enter (N := 40) Try.func63 rfl Try.ntmps63 (by kernel_rfl) rfl (fun ρ L => ?_)
  refine K.seq ?_
  refine K.region ?_
  refine KO.q rfl (q_assign rfl) ?_
  refine KO.done ?_
  refine K.seq <| K.seq ?_
  refine K.region ?_
  refine KO.q rfl (q_assign rfl) ?_
  refine KO.done ?_
  refine K.block ?_
  refine K.rloop (ι := { i : Nat // i ≤ k.hold.length ∧ (k.hold.take i).any (fun h => decide (h.who ≠ x.who) && !fitsM x.mode h.mode) = false }) (fun s => [(7, .int .i64 s.1), (0, .pointer (some ⟨b, 0, none⟩)), (1, .int .i64 x.who), (2, .int .i64 x.mode)]) (fun s => k.hold.length - s.1) ⟨0, Nat.zero_le _, rfl⟩ (by repeat (first | exact Env.sub_nil _ | refine Env.sub_cons rfl ?_)) (fun s ih => ?_)
  obtain ⟨i, hi, hz⟩ := s
  dsimp only at hi hz ⊢
  refine K.seq <| K.seq ?_
  refine K.region ?_
  refine KO.q rfl (q_move rfl) ?_
  refine KO.q rfl (q_move rfl) ?_
  refine KO.q rfl (q_nilCheck rfl) ?_
  refine KO.q rfl (q_field fo_52_0 rfl) ?_
  refine KO.q rfl (q_load1D ck_50 rfl) ?_
  refine KO.q rfl (q_len Try.underlying50 rfl) ?_
  refine KO.q rfl (q_lt rfl rfl) ?_
  refine KO.done ?_
  refine K.dcond (s := 14) rfl (fun g14 => ?_) (fun g14 => ?_)
  · obtain ⟨e, he⟩ : ∃ e, k.hold[i]? = some e := ⟨_, List.getElem?_eq_getElem (by omega)⟩
    refine K.skip <| K.seq <| K.block <| K.seq ?_
    refine K.region ?_
    refine KO.q rfl (q_move rfl) ?_
    refine KO.q rfl (q_nilCheck rfl) ?_
    refine KO.q rfl (q_field fo_52_0 rfl) ?_
    refine KO.q rfl (q_load1D ck_50 rfl) ?_
    refine KO.q rfl (q_move rfl) ?_
    refine KO.q rfl (q_ix i se_50 rfl rfl rfl isO (by repeat (first | exact List.Mem.head _ | apply List.Mem.tail)) rfl (by omega)) ?_
    refine KO.q rfl (q_fieldE fo_60_0 rfl) ?_
    refine KO.q rfl (q_ldE ck_3 rfl isO (by repeat (first | exact List.Mem.head _ | apply List.Mem.tail)) he rfl) ?_
    refine KO.q rfl (q_move rfl) ?_
    refine KO.q rfl (q_ne rfl rfl) ?_
    refine KO.q rfl (q_move rfl) ?_
    refine KO.dsplit 27 rfl (fun g27 => ?_) (fun g27 => ?_)
    · refine KO.q rfl (q_move rfl) ?_
      refine KO.q rfl (q_move rfl) ?_
      refine KO.q rfl (q_nilCheck rfl) ?_
      refine KO.q rfl (q_field fo_52_0 rfl) ?_
      refine KO.q rfl (q_load1D ck_50 rfl) ?_
      refine KO.q rfl (q_move rfl) ?_
      refine KO.q rfl (q_ix i se_50 rfl rfl rfl isO (by repeat (first | exact List.Mem.head _ | apply List.Mem.tail)) rfl (by omega)) ?_
      refine KO.q rfl (q_fieldE fo_60_1 rfl) ?_
      refine KO.q rfl (q_ldE ck_3 rfl isO (by repeat (first | exact List.Mem.head _ | apply List.Mem.tail)) he rfl) ?_
      refine KO.loud rfl (OpL.callD rfl (h := rm_Fits _ _)) ?_
      rintro _ _ ⟨_, ⟨rfl, rfl⟩, rfl⟩
      refine KO.q rfl (q_not rfl) ?_
      refine KO.q rfl (q_pickT rfl rfl) ?_
      refine KO.done ?_
      refine K.bcond (s := 39) rfl (fun g39 => ?_) (fun g39 => ?_)
      · refine K.seq ?_
        have hr : k.fits x = false := by
          unfold Lk.fits
          rw [any_of_at he (by rw [decide_eq_true (by assumption), Bool.true_and]; exact g39)]
          rfl
        refine K.region ?_
        refine KO.q rfl (q_assign rfl) ?_
        refine KO.done ?_
        refine K.ret (fn := Try.f63) Try.func63 (fun a w hk hs => res1 Try.results63 hk rfl) (fun w hs => ?_)
        rw [hr]
        exact ⟨_, RkL b q1 c1 q2 c2 k, rfl, ⟨rfl, rfl⟩, hs.fitD⟩
      · refine K.skip <| K.inBlock ?_
        refine K.region ?_
        refine KO.q rfl (q_move rfl) ?_
        refine KO.q rfl (q_add rfl rfl (by first | omega | (simp; omega)) (by first | omega | (simp; omega))) ?_
        refine KO.q rfl (q_assign rfl) ?_
        refine KO.done ?_
        exact K.subE (by repeat (first | exact Env.sub_nil _ | refine Env.sub_cons rfl ?_)) (ih ⟨i + 1, by omega, by rw [any_take_succ he, hz, g39, Bool.and_false]; rfl⟩ (by show k.hold.length - (i + 1) < k.hold.length - i; omega))
    · refine KO.skip rfl ?_
      refine KO.skip rfl ?_
      refine KO.skip rfl ?_
      refine KO.skip rfl ?_
      refine KO.skip rfl ?_
      refine KO.skip rfl ?_
      refine KO.skip rfl ?_
      refine KO.skip rfl ?_
      refine KO.skip rfl ?_
      refine KO.skip rfl ?_
      refine KO.skip rfl ?_
      refine KO.q rfl (q_pickF rfl rfl) ?_
      refine KO.done ?_
      refine K.no rfl ?_
      refine K.skip <| K.inBlock ?_
      refine K.region ?_
      refine KO.q rfl (q_move rfl) ?_
      refine KO.q rfl (q_add rfl rfl (by first | omega | (simp; omega)) (by first | omega | (simp; omega))) ?_
      refine KO.q rfl (q_assign rfl) ?_
      refine KO.done ?_
      exact K.subE (by repeat (first | exact Env.sub_nil _ | refine Env.sub_cons rfl ?_)) (ih ⟨i + 1, by omega, by rw [any_take_succ he, hz, decide_eq_false g27]; rfl⟩ (by show k.hold.length - (i + 1) < k.hold.length - i; omega))
  · refine K.exit rfl ?_
    refine K.seq ?_
    have hr : k.fits x = true := by
      rw [List.take_of_length_le (by omega)] at hz
      unfold Lk.fits
      rw [hz]; rfl
    refine K.region ?_
    refine KO.q rfl (q_assign rfl) ?_
    refine KO.done ?_
    refine K.ret (fn := Try.f63) Try.func63 (fun a w hk hs => res1 Try.results63 hk rfl) (fun w hs => ?_)
    rw [hr]
    exact ⟨_, RkL b q1 c1 q2 c2 k, rfl, ⟨rfl, rfl⟩, hs.fitD⟩
set_option maxHeartbeats 3200000 in
theorem rf_Ask (b : Nat) (q1 : Option Addr) (c1 : Nat) (q2 : Option Addr) (c2 : Nat) (k : Lk) (who m : Int) (hl : k.hold.length ≤ 1000000000) (hl2 : k.line.length ≤ 1000000000) : Fn Try.prog 29 [.pointer (some ⟨b, 0, none⟩), .int .i64 who, .int .i64 m].toArray (RkL b q1 c1 q2 c2 k) (fun r post => ∃ q1' c1' q2' c2', r = .bool (k.ask who m).1 ∧ post = RkL b q1' c1' q2' c2' (k.ask who m).2) := by
  refine Fn.enter (N := 140) Try.func29 rfl Try.ntmps29 (by kernel_rfl) rfl (fun ρ L => ?_)
  refine K.seq ?_
  refine K.fact (fun w h => rowO_cap (e := 60) (k := Kd.oneW) (p := q2) (cap := c2) (xs := k.line) (by repeat (first | exact List.Mem.head _ | apply List.Mem.tail)) w h) (fun hc2 => ?_)
  refine K.region ?_
  refine KO.q rfl (q_assign rfl) ?_
  refine KO.done ?_
  refine K.seq ?_
  refine K.region ?_
  refine KO.q rfl (q_move rfl) ?_
  refine KO.loud rfl (OpL.callD rfl (h := rm_mode _)) ?_
  rintro _ _ ⟨_, ⟨rfl, rfl⟩, rfl⟩
  refine KO.q rfl (q_assign rfl) ?_
  refine KO.done ?_
  refine K.seq <| K.seq ?_
  refine K.region ?_
  refine KO.q rfl (q_move rfl) ?_
  refine KO.q rfl (q_eq rfl rfl) ?_
  refine KO.done ?_
  refine K.dcond (s := 12) rfl (fun g12 => ?_) (fun g12 => ?_)
  · have hr : k.ask who m = (true, k) := by unfold Lk.ask; rw [if_pos g12]
    refine K.seq ?_
    refine K.region ?_
    refine KO.q rfl (q_assign rfl) ?_
    refine KO.done ?_
    refine K.ret (fn := Try.f29) Try.func29 (fun a w hk hs => res1 Try.results29 hk rfl) (fun w hs => ?_)
    rw [hr]
    exact ⟨_, RkL b q1 c1 q2 c2 k, rfl, ⟨q1, c1, q2, c2, rfl, rfl⟩, hs.fitD⟩
  · refine K.skip <| K.seq <| K.seq ?_
    refine K.region ?_
    refine KO.q rfl (q_move rfl) ?_
    refine KO.q rfl (q_nilCheck rfl) ?_
    refine KO.q rfl (q_field fo_52_1 rfl) ?_
    refine KO.q rfl (q_load1D ck_50 rfl) ?_
    refine KO.q rfl (q_move rfl) ?_
    refine KO.loud rfl (OpL.callD rfl (h := rf_findW 60 q2 c2 k.line who hl2)) ?_
    rintro _ _ ⟨_, ⟨rfl, rfl⟩, rfl⟩
    refine KO.q rfl (q_ge rfl rfl) ?_
    refine KO.done ?_
    refine K.dcond (s := 19) rfl (fun g19 => ?_) (fun g19 => ?_)
    · have hr : k.ask who m = (false, k) := by unfold Lk.ask; rw [if_neg g12, if_pos g19]
      refine K.seq ?_
      refine K.region ?_
      refine KO.q rfl (q_assign rfl) ?_
      refine KO.done ?_
      refine K.ret (fn := Try.f29) Try.func29 (fun a w hk hs => res1 Try.results29 hk rfl) (fun w hs => ?_)
      rw [hr]
      exact ⟨_, RkL b q1 c1 q2 c2 k, rfl, ⟨q1, c1, q2, c2, rfl, rfl⟩, hs.fitD⟩
    · refine K.skip <| K.seq ?_
      refine K.region ?_
      refine KO.q rfl (q_move rfl) ?_
      refine KO.q rfl (q_nilCheck rfl) ?_
      refine KO.q rfl (q_field fo_52_0 rfl) ?_
      refine KO.q rfl (q_load1D ck_50 rfl) ?_
      refine KO.q rfl (q_move rfl) ?_
      refine KO.loud rfl (OpL.callD rfl (h := rf_findH 60 q1 c1 k.hold who hl)) ?_
      rintro _ _ ⟨_, ⟨rfl, rfl⟩, rfl⟩
      refine KO.q rfl (q_assign rfl) ?_
      refine KO.done ?_
      refine K.seq <| K.seq ?_
      refine K.region ?_
      refine KO.q rfl (q_move rfl) ?_
      refine KO.q rfl (q_ge rfl rfl) ?_
      refine KO.done ?_
      refine K.dcond (s := 27) rfl (fun g27 => ?_) (fun g27 => ?_)
      · obtain ⟨i, el, he, hi, hw⟩ := at1_some g27
        have hil := (List.getElem?_eq_some_iff.1 he).1
        have hd : k.hold.getD (at1 k.hold who).toNat ⟨0, 0⟩ = el := by rw [hi, Int.toNat_natCast]; exact getD_at he
        refine K.seq <| K.seq ?_
        refine K.region ?_
        refine KO.q rfl (q_move rfl) ?_
        refine KO.q rfl (q_nilCheck rfl) ?_
        refine KO.q rfl (q_field fo_52_0 rfl) ?_
        refine KO.q rfl (q_load1D ck_50 rfl) ?_
        refine KO.q rfl (q_move rfl) ?_
        refine KO.q rfl (q_ix i se_50 rfl rfl hi isO (by repeat (first | exact List.Mem.head _ | apply List.Mem.tail)) rfl hil) ?_
        refine KO.q rfl (q_fieldE fo_60_1 rfl) ?_
        refine KO.q rfl (q_ldE ck_3 rfl isO (by repeat (first | exact List.Mem.head _ | apply List.Mem.tail)) he rfl) ?_
        refine KO.q rfl (q_move rfl) ?_
        refine KO.loud rfl (OpL.callD rfl (h := rm_Covers _ _)) ?_
        rintro _ _ ⟨_, ⟨rfl, rfl⟩, rfl⟩
        refine KO.done ?_
        refine K.bcond (s := 37) rfl (fun g37 => ?_) (fun g37 => ?_)
        · have hr : k.ask who m = (true, k) := by unfold Lk.ask; rw [if_neg g12, if_neg g19, if_pos g27, hd, if_pos g37]
          refine K.seq ?_
          refine K.region ?_
          refine KO.q rfl (q_assign rfl) ?_
          refine KO.done ?_
          refine K.ret (fn := Try.f29) Try.func29 (fun a w hk hs => res1 Try.results29 hk rfl) (fun w hs => ?_)
          rw [hr]
          exact ⟨_, RkL b q1 c1 q2 c2 k, rfl, ⟨q1, c1, q2, c2, rfl, rfl⟩, hs.fitD⟩
        · refine K.skip ?_
          refine K.region ?_
          refine KO.q rfl (q_move rfl) ?_
          refine KO.q rfl (q_nilCheck rfl) ?_
          refine KO.q rfl (q_field fo_52_0 rfl) ?_
          refine KO.q rfl (q_load1D ck_50 rfl) ?_
          refine KO.q rfl (q_move rfl) ?_
          refine KO.q rfl (q_ix i se_50 rfl rfl hi isO (by repeat (first | exact List.Mem.head _ | apply List.Mem.tail)) rfl hil) ?_
          refine KO.q rfl (q_fieldE fo_60_1 rfl) ?_
          refine KO.q rfl (q_ldE ck_3 rfl isO (by repeat (first | exact List.Mem.head _ | apply List.Mem.tail)) he rfl) ?_
          refine KO.q rfl (q_move rfl) ?_
          refine KO.loud rfl (OpL.callD rfl (h := rm_Join _ _)) ?_
          rintro _ _ ⟨_, ⟨rfl, rfl⟩, rfl⟩
          refine KO.q rfl (q_assign rfl) ?_
          refine KO.done ?_
          refine K.seq <| K.seq ?_
          refine K.region ?_
          refine KO.q rfl (q_move rfl) ?_
          refine KO.q rfl (q_move rfl) ?_
          refine KO.q rfl (q_move rfl) ?_
          refine KO.loud rfl (OpL.callD rfl (h := rf_fits b q1 c1 q2 c2 k ⟨who, joinM el.mode (modeOf m)⟩ hl)) ?_
          rintro _ _ ⟨_, ⟨rfl, rfl⟩, rfl⟩
          refine KO.q rfl (q_move rfl) ?_
          refine KO.split 52 rfl (fun g52 => ?_) (fun g52 => ?_)
          · have hr : k.ask who m = (true, k.grant ⟨who, joinM el.mode (modeOf m)⟩) := by unfold Lk.ask; rw [if_neg g12, if_neg g19, if_pos g27, hd, if_neg (by simp [g37]), if_pos g52]
            refine KO.q rfl (q_move rfl) ?_
            refine KO.q rfl (q_nilCheck rfl) ?_
            refine KO.q rfl (q_field fo_52_1 rfl) ?_
            refine KO.q rfl (q_load1D ck_50 rfl) ?_
            refine KO.q rfl (q_len Try.underlying50 rfl) ?_
            refine KO.q rfl (q_eq rfl rfl) ?_
            refine KO.q rfl (q_move rfl) ?_
            refine KO.dsplit 59 rfl (fun g59 => ?_) (fun g59 => ?_)
            · refine KO.skip rfl ?_
              refine KO.skip rfl ?_
              refine KO.q rfl (q_pickT rfl rfl) ?_
              refine KO.q rfl (q_pickT rfl rfl) ?_
              refine KO.done ?_
              refine K.yes rfl ?_
              refine K.seq <| K.seq ?_
              refine K.region ?_
              refine KO.q rfl (q_move rfl) ?_
              refine KO.q rfl (q_ge rfl rfl) ?_
              refine KO.done ?_
              refine K.dcond (s := 65) rfl (fun g65 => ?_) (fun g65 => ?_)
              · refine K.region ?_
                refine KO.q rfl (q_move rfl) ?_
                refine KO.q rfl (q_nilCheck rfl) ?_
                refine KO.q rfl (q_field fo_52_0 rfl) ?_
                refine KO.q rfl (q_load1D ck_50 rfl) ?_
                refine KO.q rfl (q_move rfl) ?_
                refine KO.q rfl (q_move rfl) ?_
                refine KO.q rfl (q_ix i se_50 rfl rfl hi isO (by repeat (first | exact List.Mem.head _ | apply List.Mem.tail)) rfl hil) ?_
                refine KO.q rfl (q_fieldE fo_60_1 rfl) ?_
                refine KO.loudN rfl (l_storeE (el := el) ⟨who, joinM el.mode (modeOf m)⟩ ck_3 rfl rfl rfl (by repeat (first | exact Pick.here | apply Pick.there)) he (by decide) (by show [Value.int .i64 el.who, Value.int .i64 _, Value.int .i64 0] = [Value.int .i64 who, Value.int .i64 _, Value.int .i64 0]; rw [hw])) ?_
                rintro _ _ ⟨rfl, rfl⟩
                refine KO.done ?_
                refine K.seq ?_
                refine K.region ?_
                refine KO.q rfl (q_assign rfl) ?_
                refine KO.done ?_
                refine K.ret (fn := Try.f29) Try.func29 (fun a w hk hs => res1 Try.results29 hk rfl) (fun w hs => ?_)
                rw [hr]
                have hg : k.grant ⟨who, joinM el.mode (modeOf m)⟩ = ⟨k.hold.set i ⟨who, joinM el.mode (modeOf m)⟩, k.line⟩ := by unfold Lk.grant; rw [if_pos g27, hi, Int.toNat_natCast]
                exact ⟨_, [pv b 52 [.slice q1 k.hold.length c1, .slice q2 k.line.length c2], RowO Kd.oneH 60 q1 c1 (k.hold.set i ⟨who, joinM el.mode (modeOf m)⟩), RowO Kd.oneW 60 q2 c2 k.line], rfl, ⟨q1, c1, q2, c2, rfl, by rw [hg]; show _ = [pv b _ [.slice q1 (k.hold.set i _).length c1, _], _, _]; rw [List.length_set]⟩, hs.fitD⟩
              · exact absurd g27 g65
            · refine KO.q rfl (q_move rfl) ?_
              refine KO.q rfl (q_ge rfl rfl) ?_
              refine KO.q rfl (q_pickF rfl rfl) ?_
              refine KO.q rfl (q_pickT rfl rfl) ?_
              refine KO.done ?_
              refine K.dcond (s := 63) rfl (fun g63 => ?_) (fun g63 => ?_)
              · refine K.seq <| K.seq ?_
                refine K.region ?_
                refine KO.q rfl (q_move rfl) ?_
                refine KO.q rfl (q_ge rfl rfl) ?_
                refine KO.done ?_
                refine K.dcond (s := 65) rfl (fun g65 => ?_) (fun g65 => ?_)
                · refine K.region ?_
                  refine KO.q rfl (q_move rfl) ?_
                  refine KO.q rfl (q_nilCheck rfl) ?_
                  refine KO.q rfl (q_field fo_52_0 rfl) ?_
                  refine KO.q rfl (q_load1D ck_50 rfl) ?_
                  refine KO.q rfl (q_move rfl) ?_
                  refine KO.q rfl (q_move rfl) ?_
                  refine KO.q rfl (q_ix i se_50 rfl rfl hi isO (by repeat (first | exact List.Mem.head _ | apply List.Mem.tail)) rfl hil) ?_
                  refine KO.q rfl (q_fieldE fo_60_1 rfl) ?_
                  refine KO.loudN rfl (l_storeE (el := el) ⟨who, joinM el.mode (modeOf m)⟩ ck_3 rfl rfl rfl (by repeat (first | exact Pick.here | apply Pick.there)) he (by decide) (by show [Value.int .i64 el.who, Value.int .i64 _, Value.int .i64 0] = [Value.int .i64 who, Value.int .i64 _, Value.int .i64 0]; rw [hw])) ?_
                  rintro _ _ ⟨rfl, rfl⟩
                  refine KO.done ?_
                  refine K.seq ?_
                  refine K.region ?_
                  refine KO.q rfl (q_assign rfl) ?_
                  refine KO.done ?_
                  refine K.ret (fn := Try.f29) Try.func29 (fun a w hk hs => res1 Try.results29 hk rfl) (fun w hs => ?_)
                  rw [hr]
                  have hg : k.grant ⟨who, joinM el.mode (modeOf m)⟩ = ⟨k.hold.set i ⟨who, joinM el.mode (modeOf m)⟩, k.line⟩ := by unfold Lk.grant; rw [if_pos g27, hi, Int.toNat_natCast]
                  exact ⟨_, [pv b 52 [.slice q1 k.hold.length c1, .slice q2 k.line.length c2], RowO Kd.oneH 60 q1 c1 (k.hold.set i ⟨who, joinM el.mode (modeOf m)⟩), RowO Kd.oneW 60 q2 c2 k.line], rfl, ⟨q1, c1, q2, c2, rfl, by rw [hg]; show _ = [pv b _ [.slice q1 (k.hold.set i _).length c1, _], _, _]; rw [List.length_set]⟩, hs.fitD⟩
                · exact absurd g27 g65
              · exact absurd g27 g63
          · have hr : k.ask who m = (false, k.wait ⟨who, joinM el.mode (modeOf m)⟩) := by unfold Lk.ask; rw [if_neg g12, if_neg g19, if_pos g27, hd, if_neg (by simp [g37]), if_neg (by simp [g52])]
            refine KO.skip rfl ?_
            refine KO.skip rfl ?_
            refine KO.skip rfl ?_
            refine KO.skip rfl ?_
            refine KO.skip rfl ?_
            refine KO.skip rfl ?_
            refine KO.skip rfl ?_
            refine KO.gone rfl ?_
            refine KO.gone rfl ?_
            refine KO.skip rfl ?_
            refine KO.q rfl (q_pickF rfl rfl) ?_
            refine KO.done ?_
            refine K.no rfl ?_
            refine K.skip <| K.seq ?_
            refine K.region ?_
            refine KO.q rfl (q_move rfl) ?_
            refine KO.q rfl (q_nilCheck rfl) ?_
            refine KO.q rfl (q_field fo_52_1 rfl) ?_
            refine KO.q rfl (q_load1D ck_50 rfl) ?_
            refine KO.q rfl (q_len Try.underlying50 rfl) ?_
            refine KO.q rfl (q_assign rfl) ?_
            refine KO.done ?_
            refine K.seq <| K.seq ?_
            refine K.region ?_
            refine KO.q rfl (q_move rfl) ?_
            refine KO.q rfl (q_ge rfl rfl) ?_
            refine KO.done ?_
            refine K.dcond (s := 92) rfl (fun g92 => ?_) (fun g92 => ?_)
            · refine K.seq ?_
              refine K.region ?_
              refine KO.q rfl (q_assign rfl) ?_
              refine KO.done ?_
              refine K.block ?_
              refine K.rloop (ι := { i : Nat // i ≤ k.line.length ∧ (k.line.take i).all (fun y => k.has y.who) = true }) (fun x => [(8, .int .i64 x.1), (0, .pointer (some ⟨b, 0, none⟩)), (1, .int .i64 who), (2, .int .i64 (joinM el.mode (modeOf m)))]) (fun x => k.line.length - x.1) ⟨0, Nat.zero_le _, rfl⟩ (by repeat (first | exact Env.sub_nil _ | refine Env.sub_cons rfl ?_)) (fun x ih => ?_)
              obtain ⟨j, hj, hz⟩ := x
              dsimp only at hj hz ⊢
              refine K.seq <| K.seq ?_
              refine K.drawS [pv b 52 [.slice q1 k.hold.length c1, .slice q2 k.line.length c2], RowO Kd.oneH 60 q1 c1 k.hold, RowO Kd.oneW 60 q2 c2 k.line] (fun _ h => h.subD) mixed ?_
              refine D.q 0 rfl (by kernel_rfl) (by kernel_rfl) (q_move rfl) (fun _ h => h.subD) ?_
              refine D.q 1 rfl (by kernel_rfl) (by kernel_rfl) (q_move rfl) (fun _ h => h.subD) ?_
              refine D.q 2 rfl (by kernel_rfl) (by kernel_rfl) (q_nilCheck rfl) (fun _ h => h.subD) ?_
              refine D.q 3 rfl (by kernel_rfl) (by kernel_rfl) (q_field fo_52_1 rfl) (fun _ h => h.subD) ?_
              refine D.q 4 rfl (by kernel_rfl) (by kernel_rfl) (q_load1D ck_50 rfl) (fun _ h => h.subD) ?_
              refine D.q 5 rfl (by kernel_rfl) (by kernel_rfl) (q_len Try.underlying50 rfl) (fun _ h => h.subD) ?_
              refine D.q 6 rfl (by kernel_rfl) (by kernel_rfl) (q_lt rfl rfl) (fun _ h => h.subD) ?_
              refine D.q 7 rfl (by kernel_rfl) (by kernel_rfl) (q_move rfl) (fun _ h => h.subD) ?_
              refine D.dsplit 100 rfl (fun g100 => ?_) (fun g100 => ?_)
              · obtain ⟨e, hje⟩ : ∃ e, k.line[j]? = some e := ⟨_, List.getElem?_eq_getElem (by omega)⟩
                refine D.q 8 rfl (by kernel_rfl) (by kernel_rfl) (q_move rfl) (fun _ h => h.subD) ?_
                refine D.q 9 rfl (by kernel_rfl) (by kernel_rfl) (q_nilCheck rfl) (fun _ h => h.subD) ?_
                refine D.q 10 rfl (by kernel_rfl) (by kernel_rfl) (q_field fo_52_0 rfl) (fun _ h => h.subD) ?_
                refine D.q 11 rfl (by kernel_rfl) (by kernel_rfl) (q_load1D ck_50 rfl) (fun _ h => h.subD) ?_
                refine D.q 12 rfl (by kernel_rfl) (by kernel_rfl) (q_move rfl) (fun _ h => h.subD) ?_
                refine D.q 13 rfl (by kernel_rfl) (by kernel_rfl) (q_nilCheck rfl) (fun _ h => h.subD) ?_
                refine D.q 14 rfl (by kernel_rfl) (by kernel_rfl) (q_field fo_52_1 rfl) (fun _ h => h.subD) ?_
                refine D.q 15 rfl (by kernel_rfl) (by kernel_rfl) (q_load1D ck_50 rfl) (fun _ h => h.subD) ?_
                refine D.q 16 rfl (by kernel_rfl) (by kernel_rfl) (q_move rfl) (fun _ h => h.subD) ?_
                refine D.q 17 rfl (by kernel_rfl) (by kernel_rfl) (q_ix j se_50 rfl rfl rfl isO (by repeat (first | exact List.Mem.head _ | apply List.Mem.tail)) rfl (by omega)) (fun _ h => h.subD) ?_
                refine D.q 18 rfl (by kernel_rfl) (by kernel_rfl) (q_fieldE fo_60_0 rfl) (fun _ h => h.subD) ?_
                refine D.q 19 rfl (by kernel_rfl) (by kernel_rfl) (q_ldE ck_3 rfl isO (by repeat (first | exact List.Mem.head _ | apply List.Mem.tail)) hje rfl) (fun _ h => h.subD) ?_
                refine D.all (rs := [20]) (by kernel_rfl) rfl (DAll.cons rfl (by kernel_rfl) (OpL.callD rfl (h := rf_findH 60 q1 c1 k.hold e.who hl)) (.inr (by rintro _ _ ⟨_, ⟨rfl, rfl⟩, rfl⟩ w h; exact h.subD)) rfl ?_ DAll.nil)
                rintro _ _ ⟨_, ⟨rfl, rfl⟩, rfl⟩
                refine D.q 21 rfl (by kernel_rfl) (by kernel_rfl) (q_ge rfl rfl) (fun _ h => h.subD) ?_
                refine D.q 22 rfl (by kernel_rfl) (by kernel_rfl) (q_pickT rfl rfl) (fun _ h => h.subD) ?_
                refine D.done (by kernel_rfl) ?_
                refine K.dcond (s := 115) rfl (fun g115 => ?_) (fun g115 => ?_)
                · refine K.skip <| K.block ?_
                  refine K.region ?_
                  refine KO.q rfl (q_move rfl) ?_
                  refine KO.q rfl (q_add rfl rfl (by first | omega | (simp; omega)) (by first | omega | (simp; omega))) ?_
                  refine KO.q rfl (q_assign rfl) ?_
                  refine KO.done ?_
                  refine K.inBlock ?_
                  exact K.weak (by repeat (first | exact Env.sub_nil _ | refine Env.sub_cons rfl ?_)) (fun w h => h.fitD) (ih ⟨j + 1, by omega, by rw [all_take_succ hje, hz]; exact (show k.has e.who = true from decide_eq_true g115)⟩ (by show k.line.length - (j + 1) < k.line.length - j; omega))
                · have hat : k.waitAt who = j := by
                    unfold Lk.waitAt
                    rw [if_pos (show k.has who = true from decide_eq_true g27)]
                    exact wAt_eq hz (.inr ⟨e, hje, (show k.has e.who = false from decide_eq_false g115)⟩)
                  subst hat
                  refine K.exit rfl ?_
                  refine K.seq ?_
                  refine K.drawS [pv b 52 [.slice q1 k.hold.length c1, .slice q2 k.line.length c2], RowO Kd.oneW 60 q2 c2 k.line] (fun _ h => h.subD) mixed ?_
                  refine D.q 0 rfl (by kernel_rfl) (by kernel_rfl) (q_move rfl) (fun _ h => h.subD) ?_
                  refine D.q 1 rfl (by kernel_rfl) (by kernel_rfl) (q_move rfl) (fun _ h => h.subD) ?_
                  refine D.q 2 rfl (by kernel_rfl) (by kernel_rfl) (q_nilCheck rfl) (fun _ h => h.subD) ?_
                  refine D.q 3 rfl (by kernel_rfl) (by kernel_rfl) (q_field fo_52_1 rfl) (fun _ h => h.subD) ?_
                  refine D.q 4 rfl (by kernel_rfl) (by kernel_rfl) (q_load1D ck_50 rfl) (fun _ h => h.subD) ?_
                  refine D.q 5 rfl (by kernel_rfl) (by kernel_rfl) (q_move rfl) (fun _ h => h.subD) ?_
                  refine D.q 6 rfl (by kernel_rfl) (by kernel_rfl) (q_cutH se_50 rfl rfl (by first | omega | (simp; omega)) (by first | omega | (simp; omega))) (fun _ h => h.subD) ?_
                  refine D.q 8 rfl (by kernel_rfl) (by kernel_rfl) (q_move rfl) (fun _ h => h.subD) ?_
                  refine D.q 9 rfl (by kernel_rfl) (by kernel_rfl) (q_move rfl) (fun _ h => h.subD) ?_
                  refine D.q 10 rfl (by kernel_rfl) (by kernel_rfl) (q_as (q_build st_60 rfl (by repeat (first | exact Fill.nil | (apply Fill.cons; rfl; rfl; rfl) | exact SetN.nil | apply SetN.cons | exact SetAt.here | apply SetAt.there))) (show _ = One.lineC ⟨_, _⟩ from rfl)) (fun _ h => h.subD) ?_
                  refine D.q 13 rfl (by kernel_rfl) (by kernel_rfl) (q_move rfl) (fun _ h => h.subD) ?_
                  refine D.q 14 rfl (by kernel_rfl) (by kernel_rfl) (q_nilCheck rfl) (fun _ h => h.subD) ?_
                  refine D.q 15 rfl (by kernel_rfl) (by kernel_rfl) (q_field fo_52_1 rfl) (fun _ h => h.subD) ?_
                  refine D.q 16 rfl (by kernel_rfl) (by kernel_rfl) (q_load1D ck_50 rfl) (fun _ h => h.subD) ?_
                  refine D.q 17 rfl (by kernel_rfl) (by kernel_rfl) (q_move rfl) (fun _ h => h.subD) ?_
                  refine D.q 18 rfl (by kernel_rfl) (by kernel_rfl) (q_cutL se_50 rfl rfl (by first | omega | (simp; omega)) (by first | omega | (simp; omega)) (by first | omega | (simp; omega))) (fun _ h => h.subD) ?_
                  refine D.st (fun w h => rowO_nil (k := Kd.oneW) 60 h) ?_
                  refine D.all (rs := [7, 11]) (by kernel_rfl) rfl (DAll.cons rfl (by kernel_rfl) (l_append Kd.oneW (ys := k.line.take (k.waitAt who)) se_50 Try.underlying50 ⟨_, ze_60, rfl⟩ (by decide) rfl rfl (by repeat (first | exact Pick.here | apply Pick.there)) (isRow_take isO (k.waitAt who)) (by repeat (first | exact List.Mem.head _ | apply List.Mem.tail)) rfl (by rw [List.length_take]; omega) (by rw [List.length_take]; show (2 * (0 + _) + 768) * 24 ≤ _; omega)) (.inr (by rintro _ _ ⟨pa, ca, rfl, rfl⟩ w h; exact h.subD)) rfl ?_ (DAll.cons rfl (by kernel_rfl) (l_slice1 sz_50_1 rfl rfl ⟨rfl, rfl, rfl⟩) (.inr (by rintro _ _ ⟨b129, rfl, rfl⟩ w h; exact h.subD)) rfl ?_ DAll.nil))
                  · rintro _ _ ⟨pa, ca, rfl, rfl⟩
                    refine D.all (rs := [11]) (by kernel_rfl) rfl (DAll.cons rfl (by kernel_rfl) (l_slice1 sz_50_1 rfl rfl ⟨rfl, rfl, rfl⟩) (.inr (by rintro _ _ ⟨b129, rfl, rfl⟩ w h; exact h.subD)) rfl ?_ DAll.nil)
                    rintro _ _ ⟨b129, rfl, rfl⟩
                    refine D.all (rs := [12]) (by kernel_rfl) rfl (DAll.cons rfl (by kernel_rfl) (l_append Kd.oneW se_50 Try.underlying50 ⟨_, ze_60, rfl⟩ (by decide) rfl rfl (by repeat (first | exact Pick.here | apply Pick.there)) isP (by repeat (first | exact List.Mem.head _ | apply List.Mem.tail)) rfl rfl (by rw [List.nil_append, List.length_take]; show (2 * (_ + 1) + 768) * 24 ≤ _; omega)) (.inr (by rintro _ _ ⟨pb, cb, rfl, rfl⟩ w h; exact h.subD)) rfl ?_ DAll.nil)
                    rintro _ _ ⟨pb, cb, rfl, rfl⟩
                    refine D.all (rs := [19]) (by kernel_rfl) rfl (DAll.cons rfl (by kernel_rfl) (l_append Kd.oneW se_50 Try.underlying50 ⟨_, ze_60, rfl⟩ (by decide) rfl rfl (by repeat (first | exact Pick.here | apply Pick.there)) (isO_cut (k.waitAt who)) (by repeat (first | exact List.Mem.head _ | apply List.Mem.tail)) rfl (by rw [List.length_drop]; rfl) (by rw [List.nil_append, List.length_append, List.length_take, List.length_drop]; show (2 * (_ + 1 + _) + 768) * 24 ≤ _; omega)) (.inr (by rintro _ _ ⟨pn, dn, rfl, rfl⟩ w h; exact h.subD)) rfl ?_ DAll.nil)
                    rintro _ _ ⟨pn, dn, rfl, rfl⟩
                    refine D.all (rs := [20]) (by kernel_rfl) rfl (DAll.cons rfl (by kernel_rfl) (OpQ.loud (q_nilCheck rfl)) (.inl (by kernel_rfl)) rfl ?_ DAll.nil)
                    rintro _ _ ⟨rfl, rfl⟩
                    refine D.all (rs := [21]) (by kernel_rfl) rfl (DAll.cons rfl (by kernel_rfl) (OpQ.loud (q_field fo_52_1 rfl)) (.inl (by kernel_rfl)) rfl ?_ DAll.nil)
                    rintro _ _ ⟨rfl, rfl⟩
                    refine D.all (rs := [22]) (by kernel_rfl) rfl (DAll.consN rfl (by kernel_rfl) (l_store1 ck_50 rfl rfl rfl (by repeat (first | exact Pick.here | apply Pick.there)) (by repeat (first | exact SetAt.here | apply SetAt.there))) (.inl (by kernel_rfl)) rfl ?_ DAll.nil)
                    rintro _ _ ⟨rfl, rfl⟩
                    refine D.done (by kernel_rfl) ?_
                    refine K.seq ?_
                    refine K.region ?_
                    refine KO.q rfl (q_assign rfl) ?_
                    refine KO.done ?_
                    refine K.ret (fn := Try.f29) Try.func29 (fun a w hk hs => res1 Try.results29 hk rfl) (fun w hs => ?_)
                    rw [hr]
                    exact ⟨_, RkL b q1 c1 pn dn (k.wait _), rfl, ⟨q1, c1, pn, dn, rfl, rfl⟩, hs.fitD⟩
                  · rintro _ _ ⟨b129, rfl, rfl⟩
                    refine D.st (fun w h => rowO_nil (k := Kd.oneW) 60 h) ?_
                    refine D.all (rs := [7]) (by kernel_rfl) rfl (DAll.cons rfl (by kernel_rfl) (l_append Kd.oneW (ys := k.line.take (k.waitAt who)) se_50 Try.underlying50 ⟨_, ze_60, rfl⟩ (by decide) rfl rfl (by repeat (first | exact Pick.here | apply Pick.there)) (isRow_take isO (k.waitAt who)) (by repeat (first | exact List.Mem.head _ | apply List.Mem.tail)) rfl (by rw [List.length_take]; omega) (by rw [List.length_take]; show (2 * (0 + _) + 768) * 24 ≤ _; omega)) (.inr (by rintro _ _ ⟨pa, ca, rfl, rfl⟩ w h; exact h.subD)) rfl ?_ DAll.nil)
                    rintro _ _ ⟨pa, ca, rfl, rfl⟩
                    refine D.all (rs := [12]) (by kernel_rfl) rfl (DAll.cons rfl (by kernel_rfl) (l_append Kd.oneW se_50 Try.underlying50 ⟨_, ze_60, rfl⟩ (by decide) rfl rfl (by repeat (first | exact Pick.here | apply Pick.there)) isP (by repeat (first | exact List.Mem.head _ | apply List.Mem.tail)) rfl rfl (by rw [List.nil_append, List.length_take]; show (2 * (_ + 1) + 768) * 24 ≤ _; omega)) (.inr (by rintro _ _ ⟨pb, cb, rfl, rfl⟩ w h; exact h.subD)) rfl ?_ DAll.nil)
                    rintro _ _ ⟨pb, cb, rfl, rfl⟩
                    refine D.all (rs := [19]) (by kernel_rfl) rfl (DAll.cons rfl (by kernel_rfl) (l_append Kd.oneW se_50 Try.underlying50 ⟨_, ze_60, rfl⟩ (by decide) rfl rfl (by repeat (first | exact Pick.here | apply Pick.there)) (isO_cut (k.waitAt who)) (by repeat (first | exact List.Mem.head _ | apply List.Mem.tail)) rfl (by rw [List.length_drop]; rfl) (by rw [List.nil_append, List.length_append, List.length_take, List.length_drop]; show (2 * (_ + 1 + _) + 768) * 24 ≤ _; omega)) (.inr (by rintro _ _ ⟨pn, dn, rfl, rfl⟩ w h; exact h.subD)) rfl ?_ DAll.nil)
                    rintro _ _ ⟨pn, dn, rfl, rfl⟩
                    refine D.all (rs := [20]) (by kernel_rfl) rfl (DAll.cons rfl (by kernel_rfl) (OpQ.loud (q_nilCheck rfl)) (.inl (by kernel_rfl)) rfl ?_ DAll.nil)
                    rintro _ _ ⟨rfl, rfl⟩
                    refine D.all (rs := [21]) (by kernel_rfl) rfl (DAll.cons rfl (by kernel_rfl) (OpQ.loud (q_field fo_52_1 rfl)) (.inl (by kernel_rfl)) rfl ?_ DAll.nil)
                    rintro _ _ ⟨rfl, rfl⟩
                    refine D.all (rs := [22]) (by kernel_rfl) rfl (DAll.consN rfl (by kernel_rfl) (l_store1 ck_50 rfl rfl rfl (by repeat (first | exact Pick.here | apply Pick.there)) (by repeat (first | exact SetAt.here | apply SetAt.there))) (.inl (by kernel_rfl)) rfl ?_ DAll.nil)
                    rintro _ _ ⟨rfl, rfl⟩
                    refine D.done (by kernel_rfl) ?_
                    refine K.seq ?_
                    refine K.region ?_
                    refine KO.q rfl (q_assign rfl) ?_
                    refine KO.done ?_
                    refine K.ret (fn := Try.f29) Try.func29 (fun a w hk hs => res1 Try.results29 hk rfl) (fun w hs => ?_)
                    rw [hr]
                    exact ⟨_, RkL b q1 c1 pn dn (k.wait _), rfl, ⟨q1, c1, pn, dn, rfl, rfl⟩, hs.fitD⟩
              · have hat : k.waitAt who = j := by
                  unfold Lk.waitAt
                  rw [if_pos (show k.has who = true from decide_eq_true g27)]
                  exact wAt_eq hz (.inl (by omega))
                subst hat
                refine D.skip 8 rfl (by kernel_rfl) (by kernel_rfl) (fun _ h => h.subD) ?_
                refine D.skip 9 rfl (by kernel_rfl) (by kernel_rfl) (fun _ h => h.subD) ?_
                refine D.skip 10 rfl (by kernel_rfl) (by kernel_rfl) (fun _ h => h.subD) ?_
                refine D.skip 11 rfl (by kernel_rfl) (by kernel_rfl) (fun _ h => h.subD) ?_
                refine D.skip 12 rfl (by kernel_rfl) (by kernel_rfl) (fun _ h => h.subD) ?_
                refine D.skip 13 rfl (by kernel_rfl) (by kernel_rfl) (fun _ h => h.subD) ?_
                refine D.skip 14 rfl (by kernel_rfl) (by kernel_rfl) (fun _ h => h.subD) ?_
                refine D.skip 15 rfl (by kernel_rfl) (by kernel_rfl) (fun _ h => h.subD) ?_
                refine D.skip 16 rfl (by kernel_rfl) (by kernel_rfl) (fun _ h => h.subD) ?_
                refine D.skip 17 rfl (by kernel_rfl) (by kernel_rfl) (fun _ h => h.subD) ?_
                refine D.skip 18 rfl (by kernel_rfl) (by kernel_rfl) (fun _ h => h.subD) ?_
                refine D.skip 19 rfl (by kernel_rfl) (by kernel_rfl) (fun _ h => h.subD) ?_
                refine D.skip 20 rfl (by kernel_rfl) (by kernel_rfl) (fun _ h => h.subD) ?_
                refine D.skip 21 rfl (by kernel_rfl) (by kernel_rfl) (fun _ h => h.subD) ?_
                refine D.q 22 rfl (by kernel_rfl) (by kernel_rfl) (q_pickF rfl rfl) (fun _ h => h.subD) ?_
                refine D.done (by kernel_rfl) ?_
                refine K.no rfl ?_
                refine K.exit rfl ?_
                refine K.seq ?_
                refine K.drawS [pv b 52 [.slice q1 k.hold.length c1, .slice q2 k.line.length c2], RowO Kd.oneW 60 q2 c2 k.line] (fun _ h => h.subD) mixed ?_
                refine D.q 0 rfl (by kernel_rfl) (by kernel_rfl) (q_move rfl) (fun _ h => h.subD) ?_
                refine D.q 1 rfl (by kernel_rfl) (by kernel_rfl) (q_move rfl) (fun _ h => h.subD) ?_
                refine D.q 2 rfl (by kernel_rfl) (by kernel_rfl) (q_nilCheck rfl) (fun _ h => h.subD) ?_
                refine D.q 3 rfl (by kernel_rfl) (by kernel_rfl) (q_field fo_52_1 rfl) (fun _ h => h.subD) ?_
                refine D.q 4 rfl (by kernel_rfl) (by kernel_rfl) (q_load1D ck_50 rfl) (fun _ h => h.subD) ?_
                refine D.q 5 rfl (by kernel_rfl) (by kernel_rfl) (q_move rfl) (fun _ h => h.subD) ?_
                refine D.q 6 rfl (by kernel_rfl) (by kernel_rfl) (q_cutH se_50 rfl rfl (by first | omega | (simp; omega)) (by first | omega | (simp; omega))) (fun _ h => h.subD) ?_
                refine D.q 8 rfl (by kernel_rfl) (by kernel_rfl) (q_move rfl) (fun _ h => h.subD) ?_
                refine D.q 9 rfl (by kernel_rfl) (by kernel_rfl) (q_move rfl) (fun _ h => h.subD) ?_
                refine D.q 10 rfl (by kernel_rfl) (by kernel_rfl) (q_as (q_build st_60 rfl (by repeat (first | exact Fill.nil | (apply Fill.cons; rfl; rfl; rfl) | exact SetN.nil | apply SetN.cons | exact SetAt.here | apply SetAt.there))) (show _ = One.lineC ⟨_, _⟩ from rfl)) (fun _ h => h.subD) ?_
                refine D.q 13 rfl (by kernel_rfl) (by kernel_rfl) (q_move rfl) (fun _ h => h.subD) ?_
                refine D.q 14 rfl (by kernel_rfl) (by kernel_rfl) (q_nilCheck rfl) (fun _ h => h.subD) ?_
                refine D.q 15 rfl (by kernel_rfl) (by kernel_rfl) (q_field fo_52_1 rfl) (fun _ h => h.subD) ?_
                refine D.q 16 rfl (by kernel_rfl) (by kernel_rfl) (q_load1D ck_50 rfl) (fun _ h => h.subD) ?_
                refine D.q 17 rfl (by kernel_rfl) (by kernel_rfl) (q_move rfl) (fun _ h => h.subD) ?_
                refine D.q 18 rfl (by kernel_rfl) (by kernel_rfl) (q_cutL se_50 rfl rfl (by first | omega | (simp; omega)) (by first | omega | (simp; omega)) (by first | omega | (simp; omega))) (fun _ h => h.subD) ?_
                refine D.st (fun w h => rowO_nil (k := Kd.oneW) 60 h) ?_
                refine D.all (rs := [7, 11]) (by kernel_rfl) rfl (DAll.cons rfl (by kernel_rfl) (l_append Kd.oneW (ys := k.line.take (k.waitAt who)) se_50 Try.underlying50 ⟨_, ze_60, rfl⟩ (by decide) rfl rfl (by repeat (first | exact Pick.here | apply Pick.there)) (isRow_take isO (k.waitAt who)) (by repeat (first | exact List.Mem.head _ | apply List.Mem.tail)) rfl (by rw [List.length_take]; omega) (by rw [List.length_take]; show (2 * (0 + _) + 768) * 24 ≤ _; omega)) (.inr (by rintro _ _ ⟨pa, ca, rfl, rfl⟩ w h; exact h.subD)) rfl ?_ (DAll.cons rfl (by kernel_rfl) (l_slice1 sz_50_1 rfl rfl ⟨rfl, rfl, rfl⟩) (.inr (by rintro _ _ ⟨b129, rfl, rfl⟩ w h; exact h.subD)) rfl ?_ DAll.nil))
                · rintro _ _ ⟨pa, ca, rfl, rfl⟩
                  refine D.all (rs := [11]) (by kernel_rfl) rfl (DAll.cons rfl (by kernel_rfl) (l_slice1 sz_50_1 rfl rfl ⟨rfl, rfl, rfl⟩) (.inr (by rintro _ _ ⟨b129, rfl, rfl⟩ w h; exact h.subD)) rfl ?_ DAll.nil)
                  rintro _ _ ⟨b129, rfl, rfl⟩
                  refine D.all (rs := [12]) (by kernel_rfl) rfl (DAll.cons rfl (by kernel_rfl) (l_append Kd.oneW se_50 Try.underlying50 ⟨_, ze_60, rfl⟩ (by decide) rfl rfl (by repeat (first | exact Pick.here | apply Pick.there)) isP (by repeat (first | exact List.Mem.head _ | apply List.Mem.tail)) rfl rfl (by rw [List.nil_append, List.length_take]; show (2 * (_ + 1) + 768) * 24 ≤ _; omega)) (.inr (by rintro _ _ ⟨pb, cb, rfl, rfl⟩ w h; exact h.subD)) rfl ?_ DAll.nil)
                  rintro _ _ ⟨pb, cb, rfl, rfl⟩
                  refine D.all (rs := [19]) (by kernel_rfl) rfl (DAll.cons rfl (by kernel_rfl) (l_append Kd.oneW se_50 Try.underlying50 ⟨_, ze_60, rfl⟩ (by decide) rfl rfl (by repeat (first | exact Pick.here | apply Pick.there)) (isO_cut (k.waitAt who)) (by repeat (first | exact List.Mem.head _ | apply List.Mem.tail)) rfl (by rw [List.length_drop]; rfl) (by rw [List.nil_append, List.length_append, List.length_take, List.length_drop]; show (2 * (_ + 1 + _) + 768) * 24 ≤ _; omega)) (.inr (by rintro _ _ ⟨pn, dn, rfl, rfl⟩ w h; exact h.subD)) rfl ?_ DAll.nil)
                  rintro _ _ ⟨pn, dn, rfl, rfl⟩
                  refine D.all (rs := [20]) (by kernel_rfl) rfl (DAll.cons rfl (by kernel_rfl) (OpQ.loud (q_nilCheck rfl)) (.inl (by kernel_rfl)) rfl ?_ DAll.nil)
                  rintro _ _ ⟨rfl, rfl⟩
                  refine D.all (rs := [21]) (by kernel_rfl) rfl (DAll.cons rfl (by kernel_rfl) (OpQ.loud (q_field fo_52_1 rfl)) (.inl (by kernel_rfl)) rfl ?_ DAll.nil)
                  rintro _ _ ⟨rfl, rfl⟩
                  refine D.all (rs := [22]) (by kernel_rfl) rfl (DAll.consN rfl (by kernel_rfl) (l_store1 ck_50 rfl rfl rfl (by repeat (first | exact Pick.here | apply Pick.there)) (by repeat (first | exact SetAt.here | apply SetAt.there))) (.inl (by kernel_rfl)) rfl ?_ DAll.nil)
                  rintro _ _ ⟨rfl, rfl⟩
                  refine D.done (by kernel_rfl) ?_
                  refine K.seq ?_
                  refine K.region ?_
                  refine KO.q rfl (q_assign rfl) ?_
                  refine KO.done ?_
                  refine K.ret (fn := Try.f29) Try.func29 (fun a w hk hs => res1 Try.results29 hk rfl) (fun w hs => ?_)
                  rw [hr]
                  exact ⟨_, RkL b q1 c1 pn dn (k.wait _), rfl, ⟨q1, c1, pn, dn, rfl, rfl⟩, hs.fitD⟩
                · rintro _ _ ⟨b129, rfl, rfl⟩
                  refine D.st (fun w h => rowO_nil (k := Kd.oneW) 60 h) ?_
                  refine D.all (rs := [7]) (by kernel_rfl) rfl (DAll.cons rfl (by kernel_rfl) (l_append Kd.oneW (ys := k.line.take (k.waitAt who)) se_50 Try.underlying50 ⟨_, ze_60, rfl⟩ (by decide) rfl rfl (by repeat (first | exact Pick.here | apply Pick.there)) (isRow_take isO (k.waitAt who)) (by repeat (first | exact List.Mem.head _ | apply List.Mem.tail)) rfl (by rw [List.length_take]; omega) (by rw [List.length_take]; show (2 * (0 + _) + 768) * 24 ≤ _; omega)) (.inr (by rintro _ _ ⟨pa, ca, rfl, rfl⟩ w h; exact h.subD)) rfl ?_ DAll.nil)
                  rintro _ _ ⟨pa, ca, rfl, rfl⟩
                  refine D.all (rs := [12]) (by kernel_rfl) rfl (DAll.cons rfl (by kernel_rfl) (l_append Kd.oneW se_50 Try.underlying50 ⟨_, ze_60, rfl⟩ (by decide) rfl rfl (by repeat (first | exact Pick.here | apply Pick.there)) isP (by repeat (first | exact List.Mem.head _ | apply List.Mem.tail)) rfl rfl (by rw [List.nil_append, List.length_take]; show (2 * (_ + 1) + 768) * 24 ≤ _; omega)) (.inr (by rintro _ _ ⟨pb, cb, rfl, rfl⟩ w h; exact h.subD)) rfl ?_ DAll.nil)
                  rintro _ _ ⟨pb, cb, rfl, rfl⟩
                  refine D.all (rs := [19]) (by kernel_rfl) rfl (DAll.cons rfl (by kernel_rfl) (l_append Kd.oneW se_50 Try.underlying50 ⟨_, ze_60, rfl⟩ (by decide) rfl rfl (by repeat (first | exact Pick.here | apply Pick.there)) (isO_cut (k.waitAt who)) (by repeat (first | exact List.Mem.head _ | apply List.Mem.tail)) rfl (by rw [List.length_drop]; rfl) (by rw [List.nil_append, List.length_append, List.length_take, List.length_drop]; show (2 * (_ + 1 + _) + 768) * 24 ≤ _; omega)) (.inr (by rintro _ _ ⟨pn, dn, rfl, rfl⟩ w h; exact h.subD)) rfl ?_ DAll.nil)
                  rintro _ _ ⟨pn, dn, rfl, rfl⟩
                  refine D.all (rs := [20]) (by kernel_rfl) rfl (DAll.cons rfl (by kernel_rfl) (OpQ.loud (q_nilCheck rfl)) (.inl (by kernel_rfl)) rfl ?_ DAll.nil)
                  rintro _ _ ⟨rfl, rfl⟩
                  refine D.all (rs := [21]) (by kernel_rfl) rfl (DAll.cons rfl (by kernel_rfl) (OpQ.loud (q_field fo_52_1 rfl)) (.inl (by kernel_rfl)) rfl ?_ DAll.nil)
                  rintro _ _ ⟨rfl, rfl⟩
                  refine D.all (rs := [22]) (by kernel_rfl) rfl (DAll.consN rfl (by kernel_rfl) (l_store1 ck_50 rfl rfl rfl (by repeat (first | exact Pick.here | apply Pick.there)) (by repeat (first | exact SetAt.here | apply SetAt.there))) (.inl (by kernel_rfl)) rfl ?_ DAll.nil)
                  rintro _ _ ⟨rfl, rfl⟩
                  refine D.done (by kernel_rfl) ?_
                  refine K.seq ?_
                  refine K.region ?_
                  refine KO.q rfl (q_assign rfl) ?_
                  refine KO.done ?_
                  refine K.ret (fn := Try.f29) Try.func29 (fun a w hk hs => res1 Try.results29 hk rfl) (fun w hs => ?_)
                  rw [hr]
                  exact ⟨_, RkL b q1 c1 pn dn (k.wait _), rfl, ⟨q1, c1, pn, dn, rfl, rfl⟩, hs.fitD⟩
            · exact absurd g27 g92
      · refine K.skip <| K.seq <| K.seq ?_
        refine K.region ?_
        refine KO.q rfl (q_move rfl) ?_
        refine KO.q rfl (q_move rfl) ?_
        refine KO.q rfl (q_move rfl) ?_
        refine KO.loud rfl (OpL.callD rfl (h := rf_fits b q1 c1 q2 c2 k ⟨who, modeOf m⟩ hl)) ?_
        rintro _ _ ⟨_, ⟨rfl, rfl⟩, rfl⟩
        refine KO.q rfl (q_move rfl) ?_
        refine KO.split 52 rfl (fun g52 => ?_) (fun g52 => ?_)
        · refine KO.q rfl (q_move rfl) ?_
          refine KO.q rfl (q_nilCheck rfl) ?_
          refine KO.q rfl (q_field fo_52_1 rfl) ?_
          refine KO.q rfl (q_load1D ck_50 rfl) ?_
          refine KO.q rfl (q_len Try.underlying50 rfl) ?_
          refine KO.q rfl (q_eq rfl rfl) ?_
          refine KO.q rfl (q_move rfl) ?_
          refine KO.dsplit 59 rfl (fun g59 => ?_) (fun g59 => ?_)
          · have hr : k.ask who m = (true, k.grant ⟨who, modeOf m⟩) := by unfold Lk.ask; rw [if_neg g12, if_neg g19, if_neg g27, if_pos (by rw [g52, decide_eq_true (by omega)]; rfl)]
            refine KO.skip rfl ?_
            refine KO.skip rfl ?_
            refine KO.q rfl (q_pickT rfl rfl) ?_
            refine KO.q rfl (q_pickT rfl rfl) ?_
            refine KO.done ?_
            refine K.yes rfl ?_
            refine K.seq <| K.seq ?_
            refine K.region ?_
            refine KO.q rfl (q_move rfl) ?_
            refine KO.q rfl (q_ge rfl rfl) ?_
            refine KO.done ?_
            refine K.dcond (s := 65) rfl (fun g65 => ?_) (fun g65 => ?_)
            · exact absurd g65 g27
            · refine K.region ?_
              refine KO.q rfl (q_move rfl) ?_
              refine KO.q rfl (q_move rfl) ?_
              refine KO.q rfl (q_nilCheck rfl) ?_
              refine KO.q rfl (q_field fo_52_0 rfl) ?_
              refine KO.q rfl (q_load1D ck_50 rfl) ?_
              refine KO.q rfl (q_move rfl) ?_
              refine KO.q rfl (q_move rfl) ?_
              refine KO.q rfl (q_as (q_build st_60 rfl (by repeat (first | exact Fill.nil | (apply Fill.cons; rfl; rfl; rfl) | exact SetN.nil | apply SetN.cons | exact SetAt.here | apply SetAt.there))) (show _ = One.heldC ⟨who, modeOf m⟩ from rfl)) ?_
              refine KO.loud rfl (l_slice1 sz_50_1 rfl rfl ⟨rfl, rfl, rfl⟩) ?_
              rintro _ _ ⟨b82, rfl, rfl⟩
              refine KO.loud rfl (l_append Kd.oneH se_50 Try.underlying50 ⟨_, ze_60, rfl⟩ (by decide) rfl rfl (by repeat (first | exact Pick.here | apply Pick.there)) isP (by repeat (first | exact List.Mem.head _ | apply List.Mem.tail)) rfl rfl (by show (2 * (k.hold.length + 1) + 768) * 24 ≤ _; omega)) ?_
              rintro _ _ ⟨pn, dn, rfl, rfl⟩
              refine KO.q rfl (q_nilCheck rfl) ?_
              refine KO.q rfl (q_field fo_52_0 rfl) ?_
              refine KO.loudN rfl (l_store1 ck_50 rfl rfl rfl (by repeat (first | exact Pick.here | apply Pick.there)) (by repeat (first | exact SetAt.here | apply SetAt.there))) ?_
              rintro _ _ ⟨rfl, rfl⟩
              refine KO.done ?_
              refine K.seq ?_
              refine K.region ?_
              refine KO.q rfl (q_assign rfl) ?_
              refine KO.done ?_
              refine K.ret (fn := Try.f29) Try.func29 (fun a w hk hs => res1 Try.results29 hk rfl) (fun w hs => ?_)
              rw [hr]
              have hg : k.grant ⟨who, modeOf m⟩ = ⟨k.hold ++ [⟨who, modeOf m⟩], k.line⟩ := by unfold Lk.grant; rw [if_neg g27]
              exact ⟨_, RkL b pn dn q2 c2 ⟨k.hold ++ [⟨who, modeOf m⟩], k.line⟩, rfl, ⟨pn, dn, q2, c2, rfl, by rw [hg]⟩, hs.fitD⟩
          · have hr : k.ask who m = (false, k.wait ⟨who, modeOf m⟩) := by unfold Lk.ask; rw [if_neg g12, if_neg g19, if_neg g27, if_neg (by rw [g52, decide_eq_false (by omega)]; decide)]
            refine KO.q rfl (q_move rfl) ?_
            refine KO.q rfl (q_ge rfl rfl) ?_
            refine KO.q rfl (q_pickF rfl rfl) ?_
            refine KO.q rfl (q_pickT rfl rfl) ?_
            refine KO.done ?_
            refine K.dcond (s := 63) rfl (fun g63 => ?_) (fun g63 => ?_)
            · exact absurd g63 g27
            · refine K.skip <| K.seq ?_
              refine K.region ?_
              refine KO.q rfl (q_move rfl) ?_
              refine KO.q rfl (q_nilCheck rfl) ?_
              refine KO.q rfl (q_field fo_52_1 rfl) ?_
              refine KO.q rfl (q_load1D ck_50 rfl) ?_
              refine KO.q rfl (q_len Try.underlying50 rfl) ?_
              refine KO.q rfl (q_assign rfl) ?_
              refine KO.done ?_
              refine K.seq <| K.seq ?_
              refine K.region ?_
              refine KO.q rfl (q_move rfl) ?_
              refine KO.q rfl (q_ge rfl rfl) ?_
              refine KO.done ?_
              refine K.dcond (s := 92) rfl (fun g92 => ?_) (fun g92 => ?_)
              · exact absurd g92 g27
              · have hat : k.waitAt who = k.line.length := by unfold Lk.waitAt; rw [if_neg (by unfold Lk.has; rw [decide_eq_false g27]; exact Bool.false_ne_true)]
                have hj := k.waitAt_le who
                refine K.subE (E' := [(0, .pointer (some ⟨b, 0, none⟩)), (1, .int .i64 who), (2, .int .i64 (modeOf m)), (92, .bool false), (8, .int .i64 (k.waitAt who))]) (Env.sub_cons rfl (Env.sub_cons rfl (Env.sub_cons rfl (Env.sub_cons rfl (Env.sub_cons (by show some (Value.int .i64 _) = some (Value.int .i64 _); rw [hat]) (Env.sub_nil _)))))) ?_
                refine K.skip <| K.seq ?_
                refine K.drawS [pv b 52 [.slice q1 k.hold.length c1, .slice q2 k.line.length c2], RowO Kd.oneW 60 q2 c2 k.line] (fun _ h => h.subD) mixed ?_
                refine D.q 0 rfl (by kernel_rfl) (by kernel_rfl) (q_move rfl) (fun _ h => h.subD) ?_
                refine D.q 1 rfl (by kernel_rfl) (by kernel_rfl) (q_move rfl) (fun _ h => h.subD) ?_
                refine D.q 2 rfl (by kernel_rfl) (by kernel_rfl) (q_nilCheck rfl) (fun _ h => h.subD) ?_
                refine D.q 3 rfl (by kernel_rfl) (by kernel_rfl) (q_field fo_52_1 rfl) (fun _ h => h.subD) ?_
                refine D.q 4 rfl (by kernel_rfl) (by kernel_rfl) (q_load1D ck_50 rfl) (fun _ h => h.subD) ?_
                refine D.q 5 rfl (by kernel_rfl) (by kernel_rfl) (q_move rfl) (fun _ h => h.subD) ?_
                refine D.q 6 rfl (by kernel_rfl) (by kernel_rfl) (q_cutH se_50 rfl rfl (by first | omega | (simp; omega)) (by first | omega | (simp; omega))) (fun _ h => h.subD) ?_
                refine D.q 8 rfl (by kernel_rfl) (by kernel_rfl) (q_move rfl) (fun _ h => h.subD) ?_
                refine D.q 9 rfl (by kernel_rfl) (by kernel_rfl) (q_move rfl) (fun _ h => h.subD) ?_
                refine D.q 10 rfl (by kernel_rfl) (by kernel_rfl) (q_as (q_build st_60 rfl (by repeat (first | exact Fill.nil | (apply Fill.cons; rfl; rfl; rfl) | exact SetN.nil | apply SetN.cons | exact SetAt.here | apply SetAt.there))) (show _ = One.lineC ⟨_, _⟩ from rfl)) (fun _ h => h.subD) ?_
                refine D.q 13 rfl (by kernel_rfl) (by kernel_rfl) (q_move rfl) (fun _ h => h.subD) ?_
                refine D.q 14 rfl (by kernel_rfl) (by kernel_rfl) (q_nilCheck rfl) (fun _ h => h.subD) ?_
                refine D.q 15 rfl (by kernel_rfl) (by kernel_rfl) (q_field fo_52_1 rfl) (fun _ h => h.subD) ?_
                refine D.q 16 rfl (by kernel_rfl) (by kernel_rfl) (q_load1D ck_50 rfl) (fun _ h => h.subD) ?_
                refine D.q 17 rfl (by kernel_rfl) (by kernel_rfl) (q_move rfl) (fun _ h => h.subD) ?_
                refine D.q 18 rfl (by kernel_rfl) (by kernel_rfl) (q_cutL se_50 rfl rfl (by first | omega | (simp; omega)) (by first | omega | (simp; omega)) (by first | omega | (simp; omega))) (fun _ h => h.subD) ?_
                refine D.st (fun w h => rowO_nil (k := Kd.oneW) 60 h) ?_
                refine D.all (rs := [7, 11]) (by kernel_rfl) rfl (DAll.cons rfl (by kernel_rfl) (l_append Kd.oneW (ys := k.line.take (k.waitAt who)) se_50 Try.underlying50 ⟨_, ze_60, rfl⟩ (by decide) rfl rfl (by repeat (first | exact Pick.here | apply Pick.there)) (isRow_take isO (k.waitAt who)) (by repeat (first | exact List.Mem.head _ | apply List.Mem.tail)) rfl (by rw [List.length_take]; omega) (by rw [List.length_take]; show (2 * (0 + _) + 768) * 24 ≤ _; omega)) (.inr (by rintro _ _ ⟨pa, ca, rfl, rfl⟩ w h; exact h.subD)) rfl ?_ (DAll.cons rfl (by kernel_rfl) (l_slice1 sz_50_1 rfl rfl ⟨rfl, rfl, rfl⟩) (.inr (by rintro _ _ ⟨b129, rfl, rfl⟩ w h; exact h.subD)) rfl ?_ DAll.nil))
                · rintro _ _ ⟨pa, ca, rfl, rfl⟩
                  refine D.all (rs := [11]) (by kernel_rfl) rfl (DAll.cons rfl (by kernel_rfl) (l_slice1 sz_50_1 rfl rfl ⟨rfl, rfl, rfl⟩) (.inr (by rintro _ _ ⟨b129, rfl, rfl⟩ w h; exact h.subD)) rfl ?_ DAll.nil)
                  rintro _ _ ⟨b129, rfl, rfl⟩
                  refine D.all (rs := [12]) (by kernel_rfl) rfl (DAll.cons rfl (by kernel_rfl) (l_append Kd.oneW se_50 Try.underlying50 ⟨_, ze_60, rfl⟩ (by decide) rfl rfl (by repeat (first | exact Pick.here | apply Pick.there)) isP (by repeat (first | exact List.Mem.head _ | apply List.Mem.tail)) rfl rfl (by rw [List.nil_append, List.length_take]; show (2 * (_ + 1) + 768) * 24 ≤ _; omega)) (.inr (by rintro _ _ ⟨pb, cb, rfl, rfl⟩ w h; exact h.subD)) rfl ?_ DAll.nil)
                  rintro _ _ ⟨pb, cb, rfl, rfl⟩
                  refine D.all (rs := [19]) (by kernel_rfl) rfl (DAll.cons rfl (by kernel_rfl) (l_append Kd.oneW se_50 Try.underlying50 ⟨_, ze_60, rfl⟩ (by decide) rfl rfl (by repeat (first | exact Pick.here | apply Pick.there)) (isO_cut (k.waitAt who)) (by repeat (first | exact List.Mem.head _ | apply List.Mem.tail)) rfl (by rw [List.length_drop]; rfl) (by rw [List.nil_append, List.length_append, List.length_take, List.length_drop]; show (2 * (_ + 1 + _) + 768) * 24 ≤ _; omega)) (.inr (by rintro _ _ ⟨pn, dn, rfl, rfl⟩ w h; exact h.subD)) rfl ?_ DAll.nil)
                  rintro _ _ ⟨pn, dn, rfl, rfl⟩
                  refine D.all (rs := [20]) (by kernel_rfl) rfl (DAll.cons rfl (by kernel_rfl) (OpQ.loud (q_nilCheck rfl)) (.inl (by kernel_rfl)) rfl ?_ DAll.nil)
                  rintro _ _ ⟨rfl, rfl⟩
                  refine D.all (rs := [21]) (by kernel_rfl) rfl (DAll.cons rfl (by kernel_rfl) (OpQ.loud (q_field fo_52_1 rfl)) (.inl (by kernel_rfl)) rfl ?_ DAll.nil)
                  rintro _ _ ⟨rfl, rfl⟩
                  refine D.all (rs := [22]) (by kernel_rfl) rfl (DAll.consN rfl (by kernel_rfl) (l_store1 ck_50 rfl rfl rfl (by repeat (first | exact Pick.here | apply Pick.there)) (by repeat (first | exact SetAt.here | apply SetAt.there))) (.inl (by kernel_rfl)) rfl ?_ DAll.nil)
                  rintro _ _ ⟨rfl, rfl⟩
                  refine D.done (by kernel_rfl) ?_
                  refine K.seq ?_
                  refine K.region ?_
                  refine KO.q rfl (q_assign rfl) ?_
                  refine KO.done ?_
                  refine K.ret (fn := Try.f29) Try.func29 (fun a w hk hs => res1 Try.results29 hk rfl) (fun w hs => ?_)
                  rw [hr]
                  exact ⟨_, RkL b q1 c1 pn dn (k.wait _), rfl, ⟨q1, c1, pn, dn, rfl, rfl⟩, hs.fitD⟩
                · rintro _ _ ⟨b129, rfl, rfl⟩
                  refine D.st (fun w h => rowO_nil (k := Kd.oneW) 60 h) ?_
                  refine D.all (rs := [7]) (by kernel_rfl) rfl (DAll.cons rfl (by kernel_rfl) (l_append Kd.oneW (ys := k.line.take (k.waitAt who)) se_50 Try.underlying50 ⟨_, ze_60, rfl⟩ (by decide) rfl rfl (by repeat (first | exact Pick.here | apply Pick.there)) (isRow_take isO (k.waitAt who)) (by repeat (first | exact List.Mem.head _ | apply List.Mem.tail)) rfl (by rw [List.length_take]; omega) (by rw [List.length_take]; show (2 * (0 + _) + 768) * 24 ≤ _; omega)) (.inr (by rintro _ _ ⟨pa, ca, rfl, rfl⟩ w h; exact h.subD)) rfl ?_ DAll.nil)
                  rintro _ _ ⟨pa, ca, rfl, rfl⟩
                  refine D.all (rs := [12]) (by kernel_rfl) rfl (DAll.cons rfl (by kernel_rfl) (l_append Kd.oneW se_50 Try.underlying50 ⟨_, ze_60, rfl⟩ (by decide) rfl rfl (by repeat (first | exact Pick.here | apply Pick.there)) isP (by repeat (first | exact List.Mem.head _ | apply List.Mem.tail)) rfl rfl (by rw [List.nil_append, List.length_take]; show (2 * (_ + 1) + 768) * 24 ≤ _; omega)) (.inr (by rintro _ _ ⟨pb, cb, rfl, rfl⟩ w h; exact h.subD)) rfl ?_ DAll.nil)
                  rintro _ _ ⟨pb, cb, rfl, rfl⟩
                  refine D.all (rs := [19]) (by kernel_rfl) rfl (DAll.cons rfl (by kernel_rfl) (l_append Kd.oneW se_50 Try.underlying50 ⟨_, ze_60, rfl⟩ (by decide) rfl rfl (by repeat (first | exact Pick.here | apply Pick.there)) (isO_cut (k.waitAt who)) (by repeat (first | exact List.Mem.head _ | apply List.Mem.tail)) rfl (by rw [List.length_drop]; rfl) (by rw [List.nil_append, List.length_append, List.length_take, List.length_drop]; show (2 * (_ + 1 + _) + 768) * 24 ≤ _; omega)) (.inr (by rintro _ _ ⟨pn, dn, rfl, rfl⟩ w h; exact h.subD)) rfl ?_ DAll.nil)
                  rintro _ _ ⟨pn, dn, rfl, rfl⟩
                  refine D.all (rs := [20]) (by kernel_rfl) rfl (DAll.cons rfl (by kernel_rfl) (OpQ.loud (q_nilCheck rfl)) (.inl (by kernel_rfl)) rfl ?_ DAll.nil)
                  rintro _ _ ⟨rfl, rfl⟩
                  refine D.all (rs := [21]) (by kernel_rfl) rfl (DAll.cons rfl (by kernel_rfl) (OpQ.loud (q_field fo_52_1 rfl)) (.inl (by kernel_rfl)) rfl ?_ DAll.nil)
                  rintro _ _ ⟨rfl, rfl⟩
                  refine D.all (rs := [22]) (by kernel_rfl) rfl (DAll.consN rfl (by kernel_rfl) (l_store1 ck_50 rfl rfl rfl (by repeat (first | exact Pick.here | apply Pick.there)) (by repeat (first | exact SetAt.here | apply SetAt.there))) (.inl (by kernel_rfl)) rfl ?_ DAll.nil)
                  rintro _ _ ⟨rfl, rfl⟩
                  refine D.done (by kernel_rfl) ?_
                  refine K.seq ?_
                  refine K.region ?_
                  refine KO.q rfl (q_assign rfl) ?_
                  refine KO.done ?_
                  refine K.ret (fn := Try.f29) Try.func29 (fun a w hk hs => res1 Try.results29 hk rfl) (fun w hs => ?_)
                  rw [hr]
                  exact ⟨_, RkL b q1 c1 pn dn (k.wait _), rfl, ⟨q1, c1, pn, dn, rfl, rfl⟩, hs.fitD⟩
        · have hr : k.ask who m = (false, k.wait ⟨who, modeOf m⟩) := by unfold Lk.ask; rw [if_neg g12, if_neg g19, if_neg g27, if_neg (by simp [g52])]
          refine KO.skip rfl ?_
          refine KO.skip rfl ?_
          refine KO.skip rfl ?_
          refine KO.skip rfl ?_
          refine KO.skip rfl ?_
          refine KO.skip rfl ?_
          refine KO.skip rfl ?_
          refine KO.gone rfl ?_
          refine KO.gone rfl ?_
          refine KO.skip rfl ?_
          refine KO.q rfl (q_pickF rfl rfl) ?_
          refine KO.done ?_
          refine K.no rfl ?_
          refine K.skip <| K.seq ?_
          refine K.region ?_
          refine KO.q rfl (q_move rfl) ?_
          refine KO.q rfl (q_nilCheck rfl) ?_
          refine KO.q rfl (q_field fo_52_1 rfl) ?_
          refine KO.q rfl (q_load1D ck_50 rfl) ?_
          refine KO.q rfl (q_len Try.underlying50 rfl) ?_
          refine KO.q rfl (q_assign rfl) ?_
          refine KO.done ?_
          refine K.seq <| K.seq ?_
          refine K.region ?_
          refine KO.q rfl (q_move rfl) ?_
          refine KO.q rfl (q_ge rfl rfl) ?_
          refine KO.done ?_
          refine K.dcond (s := 92) rfl (fun g92 => ?_) (fun g92 => ?_)
          · exact absurd g92 g27
          · have hat : k.waitAt who = k.line.length := by unfold Lk.waitAt; rw [if_neg (by unfold Lk.has; rw [decide_eq_false g27]; exact Bool.false_ne_true)]
            have hj := k.waitAt_le who
            refine K.subE (E' := [(0, .pointer (some ⟨b, 0, none⟩)), (1, .int .i64 who), (2, .int .i64 (modeOf m)), (92, .bool false), (8, .int .i64 (k.waitAt who))]) (Env.sub_cons rfl (Env.sub_cons rfl (Env.sub_cons rfl (Env.sub_cons rfl (Env.sub_cons (by show some (Value.int .i64 _) = some (Value.int .i64 _); rw [hat]) (Env.sub_nil _)))))) ?_
            refine K.skip <| K.seq ?_
            refine K.drawS [pv b 52 [.slice q1 k.hold.length c1, .slice q2 k.line.length c2], RowO Kd.oneW 60 q2 c2 k.line] (fun _ h => h.subD) mixed ?_
            refine D.q 0 rfl (by kernel_rfl) (by kernel_rfl) (q_move rfl) (fun _ h => h.subD) ?_
            refine D.q 1 rfl (by kernel_rfl) (by kernel_rfl) (q_move rfl) (fun _ h => h.subD) ?_
            refine D.q 2 rfl (by kernel_rfl) (by kernel_rfl) (q_nilCheck rfl) (fun _ h => h.subD) ?_
            refine D.q 3 rfl (by kernel_rfl) (by kernel_rfl) (q_field fo_52_1 rfl) (fun _ h => h.subD) ?_
            refine D.q 4 rfl (by kernel_rfl) (by kernel_rfl) (q_load1D ck_50 rfl) (fun _ h => h.subD) ?_
            refine D.q 5 rfl (by kernel_rfl) (by kernel_rfl) (q_move rfl) (fun _ h => h.subD) ?_
            refine D.q 6 rfl (by kernel_rfl) (by kernel_rfl) (q_cutH se_50 rfl rfl (by first | omega | (simp; omega)) (by first | omega | (simp; omega))) (fun _ h => h.subD) ?_
            refine D.q 8 rfl (by kernel_rfl) (by kernel_rfl) (q_move rfl) (fun _ h => h.subD) ?_
            refine D.q 9 rfl (by kernel_rfl) (by kernel_rfl) (q_move rfl) (fun _ h => h.subD) ?_
            refine D.q 10 rfl (by kernel_rfl) (by kernel_rfl) (q_as (q_build st_60 rfl (by repeat (first | exact Fill.nil | (apply Fill.cons; rfl; rfl; rfl) | exact SetN.nil | apply SetN.cons | exact SetAt.here | apply SetAt.there))) (show _ = One.lineC ⟨_, _⟩ from rfl)) (fun _ h => h.subD) ?_
            refine D.q 13 rfl (by kernel_rfl) (by kernel_rfl) (q_move rfl) (fun _ h => h.subD) ?_
            refine D.q 14 rfl (by kernel_rfl) (by kernel_rfl) (q_nilCheck rfl) (fun _ h => h.subD) ?_
            refine D.q 15 rfl (by kernel_rfl) (by kernel_rfl) (q_field fo_52_1 rfl) (fun _ h => h.subD) ?_
            refine D.q 16 rfl (by kernel_rfl) (by kernel_rfl) (q_load1D ck_50 rfl) (fun _ h => h.subD) ?_
            refine D.q 17 rfl (by kernel_rfl) (by kernel_rfl) (q_move rfl) (fun _ h => h.subD) ?_
            refine D.q 18 rfl (by kernel_rfl) (by kernel_rfl) (q_cutL se_50 rfl rfl (by first | omega | (simp; omega)) (by first | omega | (simp; omega)) (by first | omega | (simp; omega))) (fun _ h => h.subD) ?_
            refine D.st (fun w h => rowO_nil (k := Kd.oneW) 60 h) ?_
            refine D.all (rs := [7, 11]) (by kernel_rfl) rfl (DAll.cons rfl (by kernel_rfl) (l_append Kd.oneW (ys := k.line.take (k.waitAt who)) se_50 Try.underlying50 ⟨_, ze_60, rfl⟩ (by decide) rfl rfl (by repeat (first | exact Pick.here | apply Pick.there)) (isRow_take isO (k.waitAt who)) (by repeat (first | exact List.Mem.head _ | apply List.Mem.tail)) rfl (by rw [List.length_take]; omega) (by rw [List.length_take]; show (2 * (0 + _) + 768) * 24 ≤ _; omega)) (.inr (by rintro _ _ ⟨pa, ca, rfl, rfl⟩ w h; exact h.subD)) rfl ?_ (DAll.cons rfl (by kernel_rfl) (l_slice1 sz_50_1 rfl rfl ⟨rfl, rfl, rfl⟩) (.inr (by rintro _ _ ⟨b129, rfl, rfl⟩ w h; exact h.subD)) rfl ?_ DAll.nil))
            · rintro _ _ ⟨pa, ca, rfl, rfl⟩
              refine D.all (rs := [11]) (by kernel_rfl) rfl (DAll.cons rfl (by kernel_rfl) (l_slice1 sz_50_1 rfl rfl ⟨rfl, rfl, rfl⟩) (.inr (by rintro _ _ ⟨b129, rfl, rfl⟩ w h; exact h.subD)) rfl ?_ DAll.nil)
              rintro _ _ ⟨b129, rfl, rfl⟩
              refine D.all (rs := [12]) (by kernel_rfl) rfl (DAll.cons rfl (by kernel_rfl) (l_append Kd.oneW se_50 Try.underlying50 ⟨_, ze_60, rfl⟩ (by decide) rfl rfl (by repeat (first | exact Pick.here | apply Pick.there)) isP (by repeat (first | exact List.Mem.head _ | apply List.Mem.tail)) rfl rfl (by rw [List.nil_append, List.length_take]; show (2 * (_ + 1) + 768) * 24 ≤ _; omega)) (.inr (by rintro _ _ ⟨pb, cb, rfl, rfl⟩ w h; exact h.subD)) rfl ?_ DAll.nil)
              rintro _ _ ⟨pb, cb, rfl, rfl⟩
              refine D.all (rs := [19]) (by kernel_rfl) rfl (DAll.cons rfl (by kernel_rfl) (l_append Kd.oneW se_50 Try.underlying50 ⟨_, ze_60, rfl⟩ (by decide) rfl rfl (by repeat (first | exact Pick.here | apply Pick.there)) (isO_cut (k.waitAt who)) (by repeat (first | exact List.Mem.head _ | apply List.Mem.tail)) rfl (by rw [List.length_drop]; rfl) (by rw [List.nil_append, List.length_append, List.length_take, List.length_drop]; show (2 * (_ + 1 + _) + 768) * 24 ≤ _; omega)) (.inr (by rintro _ _ ⟨pn, dn, rfl, rfl⟩ w h; exact h.subD)) rfl ?_ DAll.nil)
              rintro _ _ ⟨pn, dn, rfl, rfl⟩
              refine D.all (rs := [20]) (by kernel_rfl) rfl (DAll.cons rfl (by kernel_rfl) (OpQ.loud (q_nilCheck rfl)) (.inl (by kernel_rfl)) rfl ?_ DAll.nil)
              rintro _ _ ⟨rfl, rfl⟩
              refine D.all (rs := [21]) (by kernel_rfl) rfl (DAll.cons rfl (by kernel_rfl) (OpQ.loud (q_field fo_52_1 rfl)) (.inl (by kernel_rfl)) rfl ?_ DAll.nil)
              rintro _ _ ⟨rfl, rfl⟩
              refine D.all (rs := [22]) (by kernel_rfl) rfl (DAll.consN rfl (by kernel_rfl) (l_store1 ck_50 rfl rfl rfl (by repeat (first | exact Pick.here | apply Pick.there)) (by repeat (first | exact SetAt.here | apply SetAt.there))) (.inl (by kernel_rfl)) rfl ?_ DAll.nil)
              rintro _ _ ⟨rfl, rfl⟩
              refine D.done (by kernel_rfl) ?_
              refine K.seq ?_
              refine K.region ?_
              refine KO.q rfl (q_assign rfl) ?_
              refine KO.done ?_
              refine K.ret (fn := Try.f29) Try.func29 (fun a w hk hs => res1 Try.results29 hk rfl) (fun w hs => ?_)
              rw [hr]
              exact ⟨_, RkL b q1 c1 pn dn (k.wait _), rfl, ⟨q1, c1, pn, dn, rfl, rfl⟩, hs.fitD⟩
            · rintro _ _ ⟨b129, rfl, rfl⟩
              refine D.st (fun w h => rowO_nil (k := Kd.oneW) 60 h) ?_
              refine D.all (rs := [7]) (by kernel_rfl) rfl (DAll.cons rfl (by kernel_rfl) (l_append Kd.oneW (ys := k.line.take (k.waitAt who)) se_50 Try.underlying50 ⟨_, ze_60, rfl⟩ (by decide) rfl rfl (by repeat (first | exact Pick.here | apply Pick.there)) (isRow_take isO (k.waitAt who)) (by repeat (first | exact List.Mem.head _ | apply List.Mem.tail)) rfl (by rw [List.length_take]; omega) (by rw [List.length_take]; show (2 * (0 + _) + 768) * 24 ≤ _; omega)) (.inr (by rintro _ _ ⟨pa, ca, rfl, rfl⟩ w h; exact h.subD)) rfl ?_ DAll.nil)
              rintro _ _ ⟨pa, ca, rfl, rfl⟩
              refine D.all (rs := [12]) (by kernel_rfl) rfl (DAll.cons rfl (by kernel_rfl) (l_append Kd.oneW se_50 Try.underlying50 ⟨_, ze_60, rfl⟩ (by decide) rfl rfl (by repeat (first | exact Pick.here | apply Pick.there)) isP (by repeat (first | exact List.Mem.head _ | apply List.Mem.tail)) rfl rfl (by rw [List.nil_append, List.length_take]; show (2 * (_ + 1) + 768) * 24 ≤ _; omega)) (.inr (by rintro _ _ ⟨pb, cb, rfl, rfl⟩ w h; exact h.subD)) rfl ?_ DAll.nil)
              rintro _ _ ⟨pb, cb, rfl, rfl⟩
              refine D.all (rs := [19]) (by kernel_rfl) rfl (DAll.cons rfl (by kernel_rfl) (l_append Kd.oneW se_50 Try.underlying50 ⟨_, ze_60, rfl⟩ (by decide) rfl rfl (by repeat (first | exact Pick.here | apply Pick.there)) (isO_cut (k.waitAt who)) (by repeat (first | exact List.Mem.head _ | apply List.Mem.tail)) rfl (by rw [List.length_drop]; rfl) (by rw [List.nil_append, List.length_append, List.length_take, List.length_drop]; show (2 * (_ + 1 + _) + 768) * 24 ≤ _; omega)) (.inr (by rintro _ _ ⟨pn, dn, rfl, rfl⟩ w h; exact h.subD)) rfl ?_ DAll.nil)
              rintro _ _ ⟨pn, dn, rfl, rfl⟩
              refine D.all (rs := [20]) (by kernel_rfl) rfl (DAll.cons rfl (by kernel_rfl) (OpQ.loud (q_nilCheck rfl)) (.inl (by kernel_rfl)) rfl ?_ DAll.nil)
              rintro _ _ ⟨rfl, rfl⟩
              refine D.all (rs := [21]) (by kernel_rfl) rfl (DAll.cons rfl (by kernel_rfl) (OpQ.loud (q_field fo_52_1 rfl)) (.inl (by kernel_rfl)) rfl ?_ DAll.nil)
              rintro _ _ ⟨rfl, rfl⟩
              refine D.all (rs := [22]) (by kernel_rfl) rfl (DAll.consN rfl (by kernel_rfl) (l_store1 ck_50 rfl rfl rfl (by repeat (first | exact Pick.here | apply Pick.there)) (by repeat (first | exact SetAt.here | apply SetAt.there))) (.inl (by kernel_rfl)) rfl ?_ DAll.nil)
              rintro _ _ ⟨rfl, rfl⟩
              refine D.done (by kernel_rfl) ?_
              refine K.seq ?_
              refine K.region ?_
              refine KO.q rfl (q_assign rfl) ?_
              refine KO.done ?_
              refine K.ret (fn := Try.f29) Try.func29 (fun a w hk hs => res1 Try.results29 hk rfl) (fun w hs => ?_)
              rw [hr]
              exact ⟨_, RkL b q1 c1 pn dn (k.wait _), rfl, ⟨q1, c1, pn, dn, rfl, rfl⟩, hs.fitD⟩
end Go.Proofs.Ytfpkeanimkgpaaa.L
