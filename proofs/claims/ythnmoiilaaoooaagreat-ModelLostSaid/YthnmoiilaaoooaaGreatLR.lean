/- Maps whose keys are pairs of texts. No program in sight. -/
import Derived.Test.YthnmoiilaaoooaaGreatLD
import Derived.Test.YthnmoiilaaoooaaGreatLC
import Derived.WideKeyRuns
namespace Go.Proofs.YthnmoiilaaoooaaGreat.L
open Go Go.RowKit
set_option linter.unusedSimpArgs false
set_option linter.unusedVariables false

/-- Two texts. -/
structure Pl where
  a : ByteArray
  b : ByteArray
def Pl.cells (p : Pl) : List Value := [.string p.a, .string p.b]
theorem pl_ext {p q : Pl} : p = q ↔ p.a = q.a ∧ p.b = q.b := by cases p; cases q; simp
instance : DecidableEq Pl := fun _ _ => decidable_of_iff _ pl_ext.symm
def plV (p : Pl) : Value := .agg p.cells.toArray
theorem findAsk_pl {P : Program} {w : World} {kt : TypeId} (heq : ∀ p q : Pl, (Op.equalIn Op.maxDepth kt (plV p) (plV q)).run P w = .ok (decide (p = q)) w) (k : Pl) : ∀ (ents : List MapEntry) (es : List (Pl × Value)) (i : Nat), ents.map (fun e => (e.key, e.val)) = es.map (fun p => (plV p.1, p.2)) → (Instr.findAsking kt (plV k) ents i).run P w = .ok (lookIx es k i) w
  | [], es, i, h => by
    cases es with
    | nil => simp [Instr.findAsking, lookIx]
    | cons p l => cases h
  | e :: ents, es, i, h => by
    cases es with
    | nil => cases h
    | cons p l =>
      obtain ⟨a, v⟩ := p
      simp only [List.map_cons, List.cons.injEq, Prod.mk.injEq] at h
      obtain ⟨⟨h1, h2⟩, h3⟩ := h
      have ih := findAsk_pl heq k ents l (i + 1) h3
      have hq := heq k a
      unfold Instr.findAsking lookIx
      rw [h1, h2]
      by_cases hk : k = a
      · subst hk
        rw [decide_eq_true rfl] at hq
        simp [Op.equal, hq]
      · rw [decide_eq_false hk] at hq
        simp [Op.equal, hq, hk]
        exact ih
theorem check_pl {P : Program} {kt : TypeId} {f0 f1 : Field} (ht : P.underlying kt = some (.struct #[f0, f1])) (h0 : cellK P f0.type = some (false, 1)) (h1 : cellK P f1.type = some (false, 1)) (u0 : P.underlying f0.type = some .string) (u1 : P.underlying f1.type = some .string) (o0 : f0.offset = 0) (o1 : f1.offset = 1) (e : Bool) (p : Pl) (w : World) :
    (Instr.checkKey e 10000 kt (plV p)).run P w = .ok () w := by
  have p0 : (part f0.type p.cells.toArray f0.offset).run P w = .ok (.string p.a) w := run_part1 h0 (by rw [o0]; rfl)
  have p1 : (part f1.type p.cells.toArray f1.offset).run P w = .ok (.string p.b) w := run_part1 h1 (by rw [o1]; rfl)
  have c0 : (Instr.checkKey e 9999 f0.type (.string p.a)).run P w = .ok () w := MapKept.run_checkKey (n := 9998) u0 (by trivial) e
  have c1 : (Instr.checkKey e 9999 f1.type (.string p.b)).run P w = .ok () w := MapKept.run_checkKey (n := 9998) u1 (by trivial) e
  show (Instr.checkKey e (9999 + 1) kt (.agg p.cells.toArray)).run P w = _
  unfold Instr.checkKey
  by_cases n0 : f0.name = "_" <;> by_cases n1 : f1.name = "_" <;> simp [run_underlying ht, n0, n1, p0, p1, c0, c1]
theorem mkey_pl {P : Program} {kt : TypeId} {f0 f1 : Field} (ht : P.underlying kt = some (.struct #[f0, f1])) (h0 : cellK P f0.type = some (false, 1)) (h1 : cellK P f1.type = some (false, 1)) (u0 : P.underlying f0.type = some .string) (u1 : P.underlying f1.type = some .string) (o0 : f0.offset = 0) (o1 : f1.offset = 1)
    (hp : P.stoodInHeld kt = false) (heq : ∀ p q : Pl, EqF P p.cells q.cells [f0, f1] (decide (p = q))) : MKey P kt plV where
  check := fun e p w => check_pl ht h0 h1 u0 u1 o0 o1 e p w
  find := fun ents es k w he => by
    rw [run_findKey_eq w (by rw [ht])]
    exact findAsk_pl (fun p q => run_rec (w := w) ht hp (heq p q)) k ents es 0 he
  stays := fun p => by
    show Instr.sameBits (9999 + 1) (.agg p.cells.toArray) (.agg p.cells.toArray) = true
    simp [Instr.sameBits, Pl.cells]
    exact ⟨by rw [bbeq]; simp, by rw [bbeq]; simp⟩
end Go.Proofs.YthnmoiilaaoooaaGreat.L
