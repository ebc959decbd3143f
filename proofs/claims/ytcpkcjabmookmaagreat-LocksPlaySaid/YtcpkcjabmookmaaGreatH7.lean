/- A lock's calls, its addresses hidden. -/
import Derived.Test.YtcpkcjabmookmaaGreatH6
import Derived.Test.YtcpkcjabmookmaaGreatLI
namespace Go.Proofs.YtcpkcjabmookmaaGreat.L
open Go Go.Proofs
attribute [local irreducible] pv fv pt fz RowF RowO rowP old pure_ elA
set_option maxRecDepth 100000
set_option linter.unusedSimpArgs false
set_option linter.unusedVariables false

abbrev Ad4 := (Option Addr × Nat) × (Option Addr × Nat)
def LkX (b : Nat) (k : Lk) : HP := HP.ex (fun a : Ad4 => LkL b a.1.1 a.1.2 a.2.1 a.2.2 k)
def RkX (b : Nat) (k : Lk) : HP := HP.ex (fun a : Ad4 => RkL b a.1.1 a.1.2 a.2.1 a.2.2 k)
theorem lkX_new {ρ : World} {L : List HP} {w : World} {b : Nat} (h : St ρ (pv b 68 [.slice none 0 0, .slice none 0 0] :: L) w) : St ρ (LkX b ⟨[], []⟩ :: L) w := St.exI ((none, 0), (none, 0)) (lk_new h)
theorem rkX_new {ρ : World} {L : List HP} {w : World} {b : Nat} (h : St ρ (pv b 76 [.slice none 0 0, .slice none 0 0] :: L) w) : St ρ (RkX b ⟨[], []⟩ :: L) w := St.exI ((none, 0), (none, 0)) (rk_new h)
def ad0 : Ad4 := ((none, 0), (none, 0))
--%call (*poste/grant.Lock).Ask := lk_AskX _ _ _ _ (by assumption)
theorem lk_AskX (b : Nat) (k : Lk) (who m : Int) (hl : k.size ≤ 1000000) : Fn Tryz.prog 28 [.pointer (some ⟨b, 0, none⟩), .int .i64 who, .int .i64 m].toArray [LkX b k] (fun r post => r = .bool (k.ask who m).1 ∧ post = [LkX b (k.ask who m).2]) :=
  (Fn.exT (f' := fun a : Ad4 => LkL b a.1.1 a.1.2 a.2.1 a.2.2 (k.ask who m).2) (Ψ := fun r M => r = .bool (k.ask who m).1 ∧ M = []) ad0 (fun a => (lk_Ask b a.1.1 a.1.2 a.2.1 a.2.2 k who m (by unfold Lk.size at hl; omega) (by unfold Lk.size at hl; omega)).mono fun r post ⟨q1, c1, q2, c2, h1, h2⟩ => ⟨((q1, c1), (q2, c2)), [], ⟨h1, rfl⟩, h2⟩)).mono fun r post ⟨M, ⟨h1, h2⟩, h3⟩ => ⟨h1, by rw [h3, h2]; rfl⟩
--%call (*poste/posteref10.Lock).Ask := rf_AskX _ _ _ _ (by assumption)
theorem rf_AskX (b : Nat) (k : Lk) (who m : Int) (hl : k.size ≤ 1000000) : Fn Tryz.prog 34 [.pointer (some ⟨b, 0, none⟩), .int .i64 who, .int .i64 m].toArray [RkX b k] (fun r post => r = .bool (k.ask who m).1 ∧ post = [RkX b (k.ask who m).2]) :=
  (Fn.exT (f' := fun a : Ad4 => RkL b a.1.1 a.1.2 a.2.1 a.2.2 (k.ask who m).2) (Ψ := fun r M => r = .bool (k.ask who m).1 ∧ M = []) ad0 (fun a => (rf_Ask b a.1.1 a.1.2 a.2.1 a.2.2 k who m (by unfold Lk.size at hl; omega) (by unfold Lk.size at hl; omega)).mono fun r post ⟨q1, c1, q2, c2, h1, h2⟩ => ⟨((q1, c1), (q2, c2)), [], ⟨h1, rfl⟩, h2⟩)).mono fun r post ⟨M, ⟨h1, h2⟩, h3⟩ => ⟨h1, by rw [h3, h2]; rfl⟩
--%call (*poste/grant.Lock).Drop := lk_DropX _ _ _ (by assumption) !! ⟨_, ⟨p#, d#, rfl, rfl⟩, rfl⟩
theorem lk_DropX (b : Nat) (k : Lk) (who : Int) (hl : k.size ≤ 1000000) : Fn Tryz.prog 35 [.pointer (some ⟨b, 0, none⟩), .int .i64 who].toArray [LkX b k] (fun r post => ∃ po co, r = .slice po (k.drop who).1.length co ∧ post = [RowO (Kd.int .i64) 3 po co (k.drop who).1, LkX b (k.drop who).2]) :=
  (Fn.exT (f' := fun a : Ad4 => LkL b a.1.1 a.1.2 a.2.1 a.2.2 (k.drop who).2) (Ψ := fun r M => ∃ po co, r = .slice po (k.drop who).1.length co ∧ M = [RowO (Kd.int .i64) 3 po co (k.drop who).1]) ad0 (fun a => (lk_Drop b a.1.1 a.1.2 a.2.1 a.2.2 k who (by unfold Lk.size at hl; omega)).mono fun r post ⟨q1, c1, q2, c2, po, co, h1, h2⟩ => ⟨((q1, c1), (q2, c2)), _, ⟨po, co, h1, rfl⟩, h2⟩)).mono fun r post ⟨M, ⟨po, co, h1, h2⟩, h3⟩ => ⟨po, co, h1, by rw [h3, h2]; rfl⟩
--%call (*poste/posteref10.Lock).Drop := rf_DropX _ _ _ (by assumption) !! ⟨_, ⟨p#, d#, rfl, rfl⟩, rfl⟩
theorem rf_DropX (b : Nat) (k : Lk) (who : Int) (hl : k.size ≤ 1000000) : Fn Tryz.prog 39 [.pointer (some ⟨b, 0, none⟩), .int .i64 who].toArray [RkX b k] (fun r post => ∃ po co, r = .slice po (k.drop who).1.length co ∧ post = [RowO (Kd.int .i64) 3 po co (k.drop who).1, RkX b (k.drop who).2]) :=
  (Fn.exT (f' := fun a : Ad4 => RkL b a.1.1 a.1.2 a.2.1 a.2.2 (k.drop who).2) (Ψ := fun r M => ∃ po co, r = .slice po (k.drop who).1.length co ∧ M = [RowO (Kd.int .i64) 3 po co (k.drop who).1]) ad0 (fun a => (rf_Drop b a.1.1 a.1.2 a.2.1 a.2.2 k who (by unfold Lk.size at hl; omega)).mono fun r post ⟨q1, c1, q2, c2, po, co, h1, h2⟩ => ⟨((q1, c1), (q2, c2)), _, ⟨po, co, h1, rfl⟩, h2⟩)).mono fun r post ⟨M, ⟨po, co, h1, h2⟩, h3⟩ => ⟨po, co, h1, by rw [h3, h2]; rfl⟩
--%call (*poste/grant.Lock).Waits := lk_WaitsX _ _ _ (by assumption) !! ⟨_, ⟨p#, d#, rfl, rfl⟩, rfl⟩
theorem lk_WaitsX (b : Nat) (k : Lk) (who : Int) (hl : k.size ≤ 1000000) : Fn Tryz.prog 41 [.pointer (some ⟨b, 0, none⟩), .int .i64 who].toArray [LkX b k] (fun r post => ∃ po co, r = .slice po (k.waits who).length co ∧ post = [RowO (Kd.int .i64) 3 po co (k.waits who), LkX b k]) :=
  (Fn.exT (f' := fun a : Ad4 => LkL b a.1.1 a.1.2 a.2.1 a.2.2 k) (Ψ := fun r M => ∃ po co, r = .slice po (k.waits who).length co ∧ M = [RowO (Kd.int .i64) 3 po co (k.waits who)]) ad0 (fun a => (lk_Waits b a.1.1 a.1.2 a.2.1 a.2.2 k who (by unfold Lk.size at hl; omega)).mono fun r post ⟨po, co, h1, h2⟩ => ⟨a, _, ⟨po, co, h1, rfl⟩, h2⟩)).mono fun r post ⟨M, ⟨po, co, h1, h2⟩, h3⟩ => ⟨po, co, h1, by rw [h3, h2]; rfl⟩
--%call (*poste/posteref10.Lock).Waits := rf_WaitsX _ _ _ (by assumption) !! ⟨_, ⟨p#, d#, rfl, rfl⟩, rfl⟩
theorem rf_WaitsX (b : Nat) (k : Lk) (who : Int) (hl : k.size ≤ 1000000) : Fn Tryz.prog 48 [.pointer (some ⟨b, 0, none⟩), .int .i64 who].toArray [RkX b k] (fun r post => ∃ po co, r = .slice po (k.waits who).length co ∧ post = [RowO (Kd.int .i64) 3 po co (k.waits who), RkX b k]) :=
  (Fn.exT (f' := fun a : Ad4 => RkL b a.1.1 a.1.2 a.2.1 a.2.2 k) (Ψ := fun r M => ∃ po co, r = .slice po (k.waits who).length co ∧ M = [RowO (Kd.int .i64) 3 po co (k.waits who)]) ad0 (fun a => (rf_Waits b a.1.1 a.1.2 a.2.1 a.2.2 k who (by unfold Lk.size at hl; omega)).mono fun r post ⟨po, co, h1, h2⟩ => ⟨a, _, ⟨po, co, h1, rfl⟩, h2⟩)).mono fun r post ⟨M, ⟨po, co, h1, h2⟩, h3⟩ => ⟨po, co, h1, by rw [h3, h2]; rfl⟩
--%call (*poste/grant.Lock).Holds := lk_HoldsX _ _ (by assumption) !! ⟨_, ⟨p#, d#, rfl, rfl⟩, rfl⟩
theorem lk_HoldsX (b : Nat) (k : Lk) (hl : k.size ≤ 1000000) : Fn Tryz.prog 38 [.pointer (some ⟨b, 0, none⟩)].toArray [LkX b k] (fun r post => ∃ po co, r = .slice po k.holds.length co ∧ post = [RowO Kd.hold 59 po co k.holds, LkX b k]) :=
  (Fn.exT (f' := fun a : Ad4 => LkL b a.1.1 a.1.2 a.2.1 a.2.2 k) (Ψ := fun r M => ∃ po co, r = .slice po k.holds.length co ∧ M = [RowO Kd.hold 59 po co k.holds]) ad0 (fun a => (lk_Holds b a.1.1 a.1.2 a.2.1 a.2.2 k (by unfold Lk.size at hl; omega)).mono fun r post ⟨po, co, h1, h2⟩ => ⟨a, _, ⟨po, co, h1, rfl⟩, h2⟩)).mono fun r post ⟨M, ⟨po, co, h1, h2⟩, h3⟩ => ⟨po, co, h1, by rw [h3, h2]; rfl⟩
--%call (*poste/posteref10.Lock).Holds := rf_HoldsX _ _ (by assumption) (by assumption) !! ⟨_, ⟨p#, d#, rfl, rfl⟩, rfl⟩
theorem rf_HoldsX (b : Nat) (k : Lk) (ok : k.Ok) (hl : k.size ≤ 1000000) : Fn Tryz.prog 40 [.pointer (some ⟨b, 0, none⟩)].toArray [RkX b k] (fun r post => ∃ po co, r = .slice po k.holds.length co ∧ post = [RowO Kd.hold 59 po co k.holds, RkX b k]) :=
  (Fn.exT (f' := fun a : Ad4 => RkL b a.1.1 a.1.2 a.2.1 a.2.2 k) (Ψ := fun r M => ∃ po co, r = .slice po k.holds.length co ∧ M = [RowO Kd.hold 59 po co k.holds]) ad0 (fun a => (rf_Holds b a.1.1 a.1.2 a.2.1 a.2.2 k (by unfold Lk.size at hl; omega)).mono fun r post ⟨po, co, h1, h2⟩ => ⟨a, _, ⟨po, co, by rw [h1, Lk.rHolds_eq ok], by rw [← Lk.rHolds_eq ok]⟩, h2⟩)).mono fun r post ⟨M, ⟨po, co, h1, h2⟩, h3⟩ => ⟨po, co, h1, by rw [h3, h2]; rfl⟩
end Go.Proofs.YtcpkcjabmookmaaGreat.L
