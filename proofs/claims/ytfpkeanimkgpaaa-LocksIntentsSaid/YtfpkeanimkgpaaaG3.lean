/- Walks: who holds a lock, and who waits: where somebody is. -/
import Derived.Test.YtfpkeanimkgpaaaG2
namespace Go.Proofs.Ytfpkeanimkgpaaa.L
open Go Go.Proofs
attribute [local irreducible] pv fv pt fz RowF RowO rowP old pure_ elA
set_option maxRecDepth 100000
set_option linter.unusedSimpArgs false
set_option linter.unusedVariables false

structure One where
  who : Int
  mode : Int
def One.cells (o : One) : List Value := [.int .i64 o.who, .int .i64 o.mode]
theorem one_sz (o : One) : o.cells.length = 2 := rfl
theorem one_one (o : One) : ∀ v ∈ o.cells, v.oneCell' = true := fun v h => by simp [One.cells] at h; rcases h with rfl | rfl <;> rfl
def Kd.one1 : Kd One := Kd.flat 2 One.cells one_sz one_one
--%rec grant.one One
--%kd grant.one Kd.one1
theorem q_as_one {X : Fx} {o : Oper} {E : Env} {L : List HP} {cs : List Value} {who_ mode_ : Int} (h : OpQ X o E L (.agg cs.toArray)) (e : cs = [.int .i64 who_, .int .i64 mode_]) : OpQ X o E L (.agg (One.cells ⟨who_, mode_⟩).toArray) := q_as h e
theorem ixf_one (A R : HP) (q : Option Addr) (cap : Nat) (l : List One) (hA : IsRow A Kd.one1 q l) (f : FuncId) (cs : List Value) (p : One → Bool) (hl : (l.length : Int) ≤ 9223372036854775807) (hf : ∀ x ∈ l, Fn Try.prog f (Value.agg x.cells.toArray :: cs).toArray [R] (fun v post => v = .bool (p x) ∧ post = [R])) :
    Fn Try.prog 88 [.slice q l.length cap, .func (.func f) #[] cs.toArray].toArray [A, R] (fun r post => r = .int .i64 (idxP p l) ∧ post = [A, R]) := by
  refine Fn.enter (N := 19) Try.func88 rfl Try.ntmps88 (by kernel_rfl) rfl (fun ρ L => ?_)
  refine K.seq ?_
  refine K.region ?_
  refine KO.q rfl (q_assign rfl) ?_
  refine KO.done ?_
  refine K.seq <| K.seq ?_
  refine K.region ?_
  refine KO.q rfl (q_move rfl) ?_
  refine KO.q rfl (q_len Try.underlying46 rfl) ?_
  refine KO.q rfl (q_move rfl) ?_
  refine KO.done ?_
  refine K.block ?_
  refine K.rloop (ι := { i : Nat // i ≤ l.length ∧ (l.take i).any p = false }) (fun x => [(8, .int .i64 x.1), (7, .int .i64 l.length), (0, .slice q l.length cap), (1, .func (.func f) #[] cs.toArray)]) (fun x => l.length - x.1) ⟨0, Nat.zero_le _, rfl⟩ (by repeat (first | exact Env.sub_nil _ | refine Env.sub_cons rfl ?_)) (fun x ih => ?_)
  obtain ⟨i, hi, hz⟩ := x
  dsimp only at hi hz ⊢
  refine K.seq ?_
  refine K.region ?_
  refine KO.q rfl (q_lt rfl rfl) ?_
  refine KO.done ?_
  refine K.seq ?_
  refine K.dcond (s := 9) rfl (fun g9 => ?_) (fun g9 => ?_)
  · obtain ⟨e, he⟩ : ∃ e, l[i]? = some e := ⟨_, List.getElem?_eq_getElem (by omega)⟩
    refine K.skip <| K.seq <| K.block <| K.seq ?_
    refine K.region ?_
    refine KO.q rfl (q_move rfl) ?_
    refine KO.q rfl (q_assign rfl) ?_
    refine KO.done ?_
    refine K.seq ?_
    refine K.region ?_
    refine KO.q rfl (q_move rfl) ?_
    refine KO.q rfl (q_move rfl) ?_
    refine KO.q rfl (q_move rfl) ?_
    refine KO.q rfl (q_ix i se_46 rfl rfl rfl hA (by repeat (first | exact List.Mem.head _ | apply List.Mem.tail)) rfl (by omega)) ?_
    refine KO.q rfl (q_ldEN ck_94 rfl hA (by repeat (first | exact List.Mem.head _ | apply List.Mem.tail)) he) ?_
    refine KO.loud rfl (OpL.callCG (first := []) (captured := cs) rfl rfl (by repeat (first | exact Give.nil | (apply Give.perI; (repeat (first | exact List.Mem.head _ | apply List.Mem.tail))) | (apply Give.own; (repeat (first | exact Pick.here | apply Pick.there))))) (hf e (List.mem_of_getElem? he))) ?_
    rintro _ _ ⟨_, ⟨rfl, rfl⟩, rfl⟩
    refine KO.done ?_
    refine K.bcond (s := 16) rfl (fun g16 => ?_) (fun g16 => ?_)
    · refine K.seq ?_
      have hr : idxP p l = i := idxP_some he g16 hz
      refine K.region ?_
      refine KO.q rfl (q_move rfl) ?_
      refine KO.q rfl (q_assign rfl) ?_
      refine KO.done ?_
      refine K.ret (fn := Try.f88) Try.func88 (fun a w hk hs => res1 Try.results88 hk rfl) (fun w hs => ?_)
      rw [hr]
      exact ⟨_, [A, R], rfl, ⟨rfl, rfl⟩, hs.fitD⟩
    · refine K.skip <| K.inBlock ?_
      refine K.region ?_
      refine KO.q rfl (q_add rfl rfl (by first | omega | (simp; omega)) (by first | omega | (simp; omega))) ?_
      refine KO.q rfl (q_move rfl) ?_
      refine KO.done ?_
      exact K.weak (by repeat (first | exact Env.sub_nil _ | refine Env.sub_cons rfl ?_)) (fun w h => h.fitD) (ih ⟨i + 1, by omega, by rw [any_take_succ he, hz, g16]; rfl⟩ (by show l.length - (i + 1) < l.length - i; omega))
  · refine K.exit rfl ?_
    refine K.seq ?_
    have hr : idxP p l = -1 := idxP_none (by rw [List.take_of_length_le (by omega)] at hz; exact hz)
    refine K.region ?_
    refine KO.q rfl (q_assign rfl) ?_
    refine KO.done ?_
    refine K.ret (fn := Try.f88) Try.func88 (fun a w hk hs => res1 Try.results88 hk rfl) (fun w hs => ?_)
    rw [hr]
    exact ⟨_, [A, R], rfl, ⟨rfl, rfl⟩, hs.fitD⟩
theorem cof_one (A R : HP) (q : Option Addr) (cap : Nat) (l : List One) (hA : IsRow A Kd.one1 q l) (f : FuncId) (cs : List Value) (p : One → Bool) (hl : (l.length : Int) ≤ 9223372036854775807) (hf : ∀ x ∈ l, Fn Try.prog f (Value.agg x.cells.toArray :: cs).toArray [R] (fun v post => v = .bool (p x) ∧ post = [R])) :
    Fn Try.prog 92 [.slice q l.length cap, .func (.func f) #[] cs.toArray].toArray [A, R] (fun r post => r = .bool (l.any p) ∧ post = [A, R]) := by
  refine Fn.enter (N := 9) Try.func92 rfl Try.ntmps92 (by kernel_rfl) rfl (fun ρ L => ?_)
  refine K.seq ?_
  refine K.region ?_
  refine KO.q rfl (q_assign rfl) ?_
  refine KO.done ?_
  refine K.seq ?_
  refine K.region ?_
  refine KO.q rfl (q_move rfl) ?_
  refine KO.q rfl (q_move rfl) ?_
  refine KO.loud rfl (OpL.callD rfl (h := ixf_one A R q cap l hA f cs p hl hf)) ?_
  rintro _ _ ⟨_, ⟨rfl, rfl⟩, rfl⟩
  refine KO.q rfl (q_ge rfl rfl) ?_
  refine KO.q rfl (q_assign rfl) ?_
  refine KO.done ?_
  refine K.ret (fn := Try.f92) Try.func92 (fun a w hk hs => res1 Try.results92 hk rfl) (fun w hs => ?_)
  exact ⟨_, [A, R], rfl, ⟨by rw [← idxP_any], rfl⟩, hs.fitD⟩
theorem gr_find1 (b : Nat) (who : Int) (x : One) : Fn Try.prog 89 [.agg x.cells.toArray, .pointer (some ⟨b, 0, none⟩)].toArray [pv b 3 [.int .i64 who]] (fun v post => v = .bool (decide (x.who = who)) ∧ post = [pv b 3 [.int .i64 who]]) := by
  refine Fn.enter (N := 8) Try.func89 rfl Try.ntmps89 (by kernel_rfl) rfl (fun ρ L => ?_)
  refine K.seq ?_
  refine K.region ?_
  refine KO.loud rfl (l_box rfl rfl) ?_
  rintro _ _ ⟨b2, rfl, rfl⟩
  refine KO.q rfl (q_assign rfl) ?_
  refine KO.done ?_
  refine K.seq ?_
  refine K.region ?_
  refine KO.q rfl (q_field fo_94_0 rfl) ?_
  refine KO.q rfl (q_load1D ck_3 rfl) ?_
  refine KO.q rfl (q_load1D ck_3 rfl) ?_
  refine KO.q rfl (q_eq rfl rfl) ?_
  refine KO.q rfl (q_assign rfl) ?_
  refine KO.done ?_
  refine K.ret (fn := Try.f89) Try.func89 (fun a w hk hs => res1 Try.results89 hk rfl) (fun w hs => ?_)
  exact ⟨_, [pv b 3 [.int .i64 who]], rfl, ⟨rfl, rfl⟩, hs.fitD⟩
def at1 (l : List One) (who : Int) : Int := idxP (fun x => decide (x.who = who)) l
theorem gr_find (A : HP) (q : Option Addr) (cap : Nat) (l : List One) (who : Int) (hA : IsRow A Kd.one1 q l) (hl : (l.length : Int) ≤ 9223372036854775807) : Fn Try.prog 54 [.slice q l.length cap, .int .i64 who].toArray [A] (fun r post => r = .int .i64 (at1 l who) ∧ post = [A]) := by
  refine Fn.enter (N := 8) Try.func54 rfl Try.ntmps54 (by kernel_rfl) rfl (fun ρ L => ?_)
  refine K.seq ?_
  refine K.region ?_
  refine KO.loud rfl (l_box rfl rfl) ?_
  rintro _ _ ⟨b3, rfl, rfl⟩
  refine KO.q rfl (q_assign rfl) ?_
  refine KO.done ?_
  refine K.seq ?_
  refine K.region ?_
  refine KO.q rfl (q_move rfl) ?_
  refine KO.q rfl (q_func rfl rfl) ?_
  refine KO.loud rfl (OpL.callD rfl (h := ixf_one A (pv b3 3 [.int .i64 who]) q cap l hA 89 [.pointer (some ⟨b3, 0, none⟩)] (fun x => decide (x.who = who)) hl (fun x _ => gr_find1 b3 who x))) ?_
  rintro _ _ ⟨_, ⟨rfl, rfl⟩, rfl⟩
  refine KO.q rfl (q_assign rfl) ?_
  refine KO.done ?_
  refine K.ret (fn := Try.f54) Try.func54 (fun a w hk hs => res1 Try.results54 hk rfl) (fun w hs => ?_)
  exact ⟨_, [A], rfl, ⟨rfl, rfl⟩, hs.fitD⟩
theorem gr_fits1 (b : Nat) (y x : One) : Fn Try.prog 93 [.agg x.cells.toArray, .pointer (some ⟨b, 0, none⟩)].toArray [pv b 94 y.cells] (fun v post => v = .bool (decide (x.who ≠ y.who) && !fitsM y.mode x.mode) ∧ post = [pv b 94 y.cells]) := by
  refine Fn.enter (N := 17) Try.func93 rfl Try.ntmps93 (by kernel_rfl) rfl (fun ρ L => ?_)
  refine K.seq ?_
  refine K.region ?_
  refine KO.loud rfl (l_box rfl rfl) ?_
  rintro _ _ ⟨b2, rfl, rfl⟩
  refine KO.q rfl (q_assign rfl) ?_
  refine KO.done ?_
  refine K.seq ?_
  refine K.region ?_
  refine KO.q rfl (q_field fo_94_0 rfl) ?_
  refine KO.q rfl (q_load1D ck_3 rfl) ?_
  refine KO.q rfl (q_field fo_94_0 rfl) ?_
  refine KO.q rfl (q_load1D ck_3 rfl) ?_
  refine KO.q rfl (q_ne rfl rfl) ?_
  refine KO.q rfl (q_move rfl) ?_
  refine KO.dsplit 9 rfl (fun g9 => ?_) (fun g9 => ?_)
  · refine KO.q rfl (q_field fo_94_1 rfl) ?_
    refine KO.q rfl (q_load1D ck_3 rfl) ?_
    refine KO.q rfl (q_field fo_94_1 rfl) ?_
    refine KO.q rfl (q_load1D ck_3 rfl) ?_
    refine KO.loud rfl (OpL.callD rfl (h := md_Fits _ _)) ?_
    rintro _ _ ⟨_, ⟨rfl, rfl⟩, rfl⟩
    refine KO.q rfl (q_not rfl) ?_
    refine KO.q rfl (q_pickT rfl rfl) ?_
    refine KO.q rfl (q_assign rfl) ?_
    refine KO.done ?_
    refine K.ret (fn := Try.f93) Try.func93 (fun a w hk hs => res1 Try.results93 hk rfl) (fun w hs => ?_)
    exact ⟨_, [pv b 94 y.cells], rfl, ⟨by simp [*], rfl⟩, hs.fitD⟩
  · refine KO.skip rfl ?_
    refine KO.skip rfl ?_
    refine KO.skip rfl ?_
    refine KO.skip rfl ?_
    refine KO.skip rfl ?_
    refine KO.skip rfl ?_
    refine KO.q rfl (q_pickF rfl rfl) ?_
    refine KO.q rfl (q_assign rfl) ?_
    refine KO.done ?_
    refine K.ret (fn := Try.f93) Try.func93 (fun a w hk hs => res1 Try.results93 hk rfl) (fun w hs => ?_)
    exact ⟨_, [pv b 94 y.cells], rfl, ⟨by simp [*], rfl⟩, hs.fitD⟩
end Go.Proofs.Ytfpkeanimkgpaaa.L
