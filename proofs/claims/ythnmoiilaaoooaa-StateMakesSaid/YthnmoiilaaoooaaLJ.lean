/- Arrays of two numbers: cells, addresses, equality. -/
import Derived.Test.YthnmoiilaaoooaaLC
namespace Go.Proofs.Ythnmoiilaaoooaa.L
open Go Go.RowKit

/-- Of an array type: its length, its element type, the element's cells. -/
def arElem (P : Program) (t : TypeId) : Option (Nat × TypeId × Nat) :=
  match P.underlying t with
  | some (.array n e) => (P.info? e).map fun i => (n, e, i.size)
  | _ => none
section
variable {X : Fx} {E : Env} {L : List HP} {d : Option Tmp} {ty : TypeId} {pos : String} {af : Array Edge} {gd : Option (Nat × Bool)} {t u : TypeId} {x y ix : Operand}
theorem q_ixA {n e sz : Nat} {p : Addr} {k : IntKind} {i : Int} (hs : arElem X.P t = some (n, e, sz)) (hx : Env.ev E x = some (.pointer (some p))) (hi : Env.ev E ix = some (.int k i)) (h0 : 0 ≤ i) (h1 : i < n) : OpQ X ⟨d, .indexAddr t x ix, ty, pos, af, gd⟩ E L (.pointer (some (p.add (i.toNat * sz)))) := fun a w hk _ => by
  unfold arElem at hs
  cases hu : X.P.underlying t with
  | none => rw [hu] at hs; simp at hs
  | some ds =>
    cases ds <;> rw [hu] at hs <;> simp only [reduceCtorEq] at hs
    rename_i n' e'
    cases hi' : X.P.info? e' with
    | none => rw [hi'] at hs; simp at hs
    | some inf =>
      rw [hi'] at hs
      simp only [Option.map_some, Option.some.injEq, Prod.mk.injEq] at hs
      obtain ⟨rfl, rfl, rfl⟩ := hs
      simp [execOp, hk.ev hx, hk.ev hi, Instr.indexAt, Instr.sureAddr, asIntOf, underlying, hu, sizeOf, typeInfo, hi', h0, h1]
theorem q_buildA {n e sz : Nat} {parts : List (Nat × Operand)} {vs : List (Nat × Value)} {zeros cs : List Value} (hs : arElem X.P t = some (n, e, sz)) (hz : zeroOf X.P t = some zeros) (hp : Env.parts E parts = some vs)
    (hf : Fill (fun i => some (i * sz, sz)) zeros vs cs) : OpQ X ⟨d, .build t parts.toArray, ty, pos, af, gd⟩ E L (.agg cs.toArray) := fun a w hk _ => by
  unfold arElem at hs
  cases hu : X.P.underlying t with
  | none => rw [hu] at hs; simp at hs
  | some ds =>
    cases ds <;> rw [hu] at hs <;> simp only [reduceCtorEq] at hs
    rename_i n' e'
    cases hi' : X.P.info? e' with
    | none => rw [hi'] at hs; simp at hs
    | some inf =>
      rw [hi'] at hs
      simp only [Option.map_some, Option.some.injEq, Prod.mk.injEq] at hs
      obtain ⟨rfl, rfl, rfl⟩ := hs
      unfold zeroOf at hz
      cases hzz : (X.P.info? t).bind (·.zero) with
      | none => rw [hzz] at hz; simp at hz
      | some z =>
        rw [hzz] at hz
        simp only [Option.map_some, Option.some.injEq] at hz
        subst hz
        obtain ⟨inf2, hinf, hz2⟩ := Option.bind_eq_some_iff.1 hzz
        have h2 := hf.spec
        have h3 := hk.parts hp
        have h5 : (Array.map (fun x => match x with | (i, x) => (i, a.eval x)) parts.toArray).toList = vs := by
          rw [← h3]; simp
        have h7 : z.cells = z.cells.toList.toArray := by simp
        simp only [execOp, Instr.build, Sem.run_bind, zeroValue, typeInfo, run_program, Result.andThen_ok, hinf, Sem.run_pure, hz2, underlying, hu, sizeOf, hi']
        rw [h7, h5, h2]
        simp
/-- Two numbers in an array. -/
structure P2 where
  a : Int
  b : Int
  deriving DecidableEq
instance : Inhabited P2 := ⟨⟨0, 0⟩⟩
def P2.cells (p : P2) : List Value := [.int .i64 p.a, .int .i64 p.b]
theorem p2_sz (p : P2) : p.cells.length = 2 := rfl
theorem p2_one (p : P2) : ∀ v ∈ p.cells, v.oneCell' = true := fun v h => by simp [P2.cells] at h; rcases h with rfl | rfl <;> rfl
def Kd.p2 : Kd P2 := Kd.flat 2 P2.cells p2_sz p2_one
theorem p2_eq {a b : P2} : ((a.a == b.a) && (a.b == b.b)) = decide (a = b) := by
  rw [Bool.eq_iff_iff, decide_eq_true_iff]
  cases a; cases b
  simp
theorem run_p2 {P : Program} {w : World} {e : TypeId} {p q : P2} (ht : P.underlying t = some (.array 2 e)) (he : P.underlying e = some (.int .i64)) (hk : cellK P e = some (false, 1)) : (Op.equalIn 10000 t (.agg p.cells.toArray) (.agg q.cells.toArray)).run P w = .ok (decide (p = q)) w := by
  have p0 : ∀ r : P2, (part e r.cells.toArray 0).run P w = .ok (.int .i64 r.a) w := fun r => run_part1 hk rfl
  have p1 : ∀ r : P2, (part e r.cells.toArray 1).run P w = .ok (.int .i64 r.b) w := fun r => run_part1 hk rfl
  have hsz := run_sizeK hk w
  have e0 : ∀ a b : Int, (Op.equalIn 9999 e (.int .i64 a) (.int .i64 b)).run P w = .ok (a == b) w := fun a b => eq_int (P := P) (w := w) (t := e) (k := .i64) (a := a) (b := b) 9998 he
  rw [← p2_eq]
  show (Op.equalIn (9999 + 1) t (.agg p.cells.toArray) (.agg q.cells.toArray)).run P w = _
  rw [Op.equalIn]
  simp [underlying, ht, hsz, p0, p1, e0, List.range'_succ, List.forIn'_cons, List.forIn'_nil]
  by_cases h1 : p.a = q.a <;> by_cases h2 : p.b = q.b <;> simp [h1, h2, p1, e0]
theorem q_p2E {e : TypeId} {p q : P2} (ht : X.P.underlying t = some (.array 2 e)) (he : X.P.underlying e = some (.int .i64)) (hk : cellK X.P e = some (false, 1)) (hg : X.P.eqGuardType X.P.depth t = false) (hx : Env.ev E x = some (.agg p.cells.toArray)) (hy : Env.ev E y = some (.agg q.cells.toArray)) : OpQ X ⟨d, .binOp .eql t x y u, ty, pos, af, gd⟩ E L (.bool (decide (p = q))) := fun _ w hk' _ => by
  simp only [execOp, hk'.ev hx, hk'.ev hy, Sem.run_bind, run_eqGuard_agg (P := X.P) w .eql t x y p.cells.toArray q.cells.toArray hg, Result.andThen_ok]
  simp [run_eql_struct (P := X.P) w t p.cells.toArray q.cells.toArray, run_p2 (w := w) ht he hk]
theorem q_p2N {e : TypeId} {p q : P2} (ht : X.P.underlying t = some (.array 2 e)) (he : X.P.underlying e = some (.int .i64)) (hk : cellK X.P e = some (false, 1)) (hg : X.P.eqGuardType X.P.depth t = false) (hx : Env.ev E x = some (.agg p.cells.toArray)) (hy : Env.ev E y = some (.agg q.cells.toArray)) : OpQ X ⟨d, .binOp .neq t x y u, ty, pos, af, gd⟩ E L (.bool (decide (¬ p = q))) := fun _ w hk' _ => by
  simp only [execOp, hk'.ev hx, hk'.ev hy, Sem.run_bind, run_eqGuard_agg (P := X.P) w .neq t x y p.cells.toArray q.cells.toArray hg, Result.andThen_ok]
  simp [run_neq_struct (P := X.P) w t p.cells.toArray q.cells.toArray, run_p2 (w := w) ht he hk]
def mkN (c : Nat) (a : Int) : Nat := (BitVec.ofInt 64 a &&& BitVec.ofInt 64 (c : Int)).toNat
theorem mkN_le (c : Nat) (hc : c < 1000000) (a : Int) : mkN c a ≤ c := by
  unfold mkN
  rw [BitVec.toNat_and]
  refine Nat.le_trans Nat.and_le_right ?_
  rw [BitVec.ofInt_natCast, BitVec.toNat_ofNat]
  exact Nat.mod_le _ _
theorem q_mask {a : Int} (c : Nat) (hc : c < 1000000) (hx : Env.ev E x = some (.int .i64 a)) (hy : Env.ev E y = some (.int .i64 (c : Int))) : OpQ X ⟨d, .binOp .and t x y u, ty, pos, af, gd⟩ E L (.int .i64 (mkN c a : Nat)) := by
  have h := q_and (X := X) (L := L) (d := d) (ty := ty) (pos := pos) (af := af) (gd := gd) (t := t) (u := u) hx hy
  have h2 : IntKind.i64.wrap (((BitVec.ofInt IntKind.i64.bits a &&& BitVec.ofInt IntKind.i64.bits (c : Int)).toNat : Nat) : Int) = ((mkN c a : Nat) : Int) := by
    have := mkN_le c hc a
    show IntKind.i64.wrap ((mkN c a : Nat) : Int) = _
    exact wrap_i64 (by omega) (by omega)
  rwa [h2] at h
theorem q_ixAE {n e m sz j : Nat} {p : Option Addr} {k : IntKind} (c : Nat) (hs : arElem X.P t = some (n, e, 1)) (hx : Env.ev E x = some (.pointer (some (elA p m sz j)))) (hi : Env.ev E ix = some (.int k (c : Int))) (h1 : c < n) : OpQ X ⟨d, .indexAddr t x ix, ty, pos, af, gd⟩ E L (.pointer (some (elA p m sz (j + c)))) := by
  have h := q_ixA (X := X) (L := L) (d := d) (ty := ty) (pos := pos) (af := af) (gd := gd) hs hx hi (Int.natCast_nonneg c) (by omega)
  have h2 : (elA p m sz j).add ((c : Int).toNat * 1) = elA p m sz (j + c) := by
    rw [Int.toNat_natCast, Nat.mul_one]
    unfold elA Addr.add
    split
    · rename_i h0
      rw [h0]; rfl
    · show Addr.mk (rowB p) (rowS p + m * sz + j + c) none = Addr.mk (rowB p) (rowS p + m * sz + (j + c)) none
      rw [Nat.add_assoc]
  rwa [h2] at h
end
end Go.Proofs.Ythnmoiilaaoooaa.L
