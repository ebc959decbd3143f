/- The operations, continued: numbers, texts, slices, blocks. -/
import Derived.Test.YtlellgnklohclaaOps
import Derived.Lib.Strings
namespace Go.Proofs.Ytlellgnklohclaa.L
open Go Go.RowKit

theorem wrap_i64 {n : Int} (h0 : -9223372036854775808 ≤ n) (h1 : n ≤ 9223372036854775807) : IntKind.i64.wrap n = n := by
  rw [IntKind.wrap_i64]; omega
theorem wrap_u64 {n : Int} (h0 : 0 ≤ n) (h1 : n ≤ 18446744073709551615) : IntKind.u64.wrap n = n := by
  unfold IntKind.wrap
  simp only [IntKind.bits, IntKind.signed, Bool.false_and, Bool.false_eq_true, if_false]
  exact Int.emod_eq_of_lt h0 (by omega)
theorem wrap_u8 {n : Int} (h0 : 0 ≤ n) (h1 : n ≤ 255) : IntKind.u8.wrap n = n := by
  unfold IntKind.wrap
  simp only [IntKind.bits, IntKind.signed, Bool.false_and, Bool.false_eq_true, if_false]
  exact Int.emod_eq_of_lt h0 (by omega)

section
variable {X : Fx} {E : Env} {L : List HP} {d : Option Tmp} {ty : TypeId} {pos : String} {af : Array Edge} {gd : Option (Nat × Bool)} {t u : TypeId} {x y : Operand}

/-! numbers -/
theorem q_addw {k : IntKind} {a b : Int} (hx : Env.ev E x = some (.int k a)) (hy : Env.ev E y = some (.int k b)) : OpQ X ⟨d, .binOp .add t x y u, ty, pos, af, gd⟩ E L (.int k (k.wrap (a + b))) := fun _ w hk _ => by
  simp [execOp, hk.ev hx, hk.ev hy, eqGuard, binOp, Op.intArith]
theorem q_subw {k : IntKind} {a b : Int} (hx : Env.ev E x = some (.int k a)) (hy : Env.ev E y = some (.int k b)) : OpQ X ⟨d, .binOp .sub t x y u, ty, pos, af, gd⟩ E L (.int k (k.wrap (a - b))) := fun _ w hk _ => by
  simp [execOp, hk.ev hx, hk.ev hy, eqGuard, binOp, Op.intArith]
theorem q_mulw {k : IntKind} {a b : Int} (hx : Env.ev E x = some (.int k a)) (hy : Env.ev E y = some (.int k b)) : OpQ X ⟨d, .binOp .mul t x y u, ty, pos, af, gd⟩ E L (.int k (k.wrap (a * b))) := fun _ w hk _ => by
  simp [execOp, hk.ev hx, hk.ev hy, eqGuard, binOp, Op.intArith]
theorem q_add {a b : Int} (hx : Env.ev E x = some (.int .i64 a)) (hy : Env.ev E y = some (.int .i64 b)) (h0 : -9223372036854775808 ≤ a + b) (h1 : a + b ≤ 9223372036854775807) : OpQ X ⟨d, .binOp .add t x y u, ty, pos, af, gd⟩ E L (.int .i64 (a + b)) := by
  have := q_addw (X := X) (L := L) (d := d) (ty := ty) (pos := pos) (af := af) (gd := gd) (t := t) (u := u) hx hy
  rwa [wrap_i64 h0 h1] at this
theorem q_sub {a b : Int} (hx : Env.ev E x = some (.int .i64 a)) (hy : Env.ev E y = some (.int .i64 b)) (h0 : -9223372036854775808 ≤ a - b) (h1 : a - b ≤ 9223372036854775807) : OpQ X ⟨d, .binOp .sub t x y u, ty, pos, af, gd⟩ E L (.int .i64 (a - b)) := by
  have := q_subw (X := X) (L := L) (d := d) (ty := ty) (pos := pos) (af := af) (gd := gd) (t := t) (u := u) hx hy
  rwa [wrap_i64 h0 h1] at this
theorem q_mul {a b : Int} (hx : Env.ev E x = some (.int .i64 a)) (hy : Env.ev E y = some (.int .i64 b)) (h0 : -9223372036854775808 ≤ a * b) (h1 : a * b ≤ 9223372036854775807) : OpQ X ⟨d, .binOp .mul t x y u, ty, pos, af, gd⟩ E L (.int .i64 (a * b)) := by
  have := q_mulw (X := X) (L := L) (d := d) (ty := ty) (pos := pos) (af := af) (gd := gd) (t := t) (u := u) hx hy
  rwa [wrap_i64 h0 h1] at this
theorem q_div {k : IntKind} {a b : Int} (hx : Env.ev E x = some (.int k a)) (hy : Env.ev E y = some (.int k b)) (hb : b ≠ 0) : OpQ X ⟨d, .binOp .quo t x y u, ty, pos, af, gd⟩ E L (.int k (k.wrap (a.tdiv b))) := fun _ w hk _ => by
  simp [execOp, hk.ev hx, hk.ev hy, eqGuard, binOp, Op.intDiv, hb]
theorem q_rem {k : IntKind} {a b : Int} (hx : Env.ev E x = some (.int k a)) (hy : Env.ev E y = some (.int k b)) (hb : b ≠ 0) : OpQ X ⟨d, .binOp .rem t x y u, ty, pos, af, gd⟩ E L (.int k (a.tmod b)) := fun _ w hk _ => by
  simp [execOp, hk.ev hx, hk.ev hy, eqGuard, binOp, Op.intDiv, hb]
theorem q_and {k : IntKind} {a b : Int} (hx : Env.ev E x = some (.int k a)) (hy : Env.ev E y = some (.int k b)) : OpQ X ⟨d, .binOp .and t x y u, ty, pos, af, gd⟩ E L (.int k (k.wrap ((BitVec.ofInt k.bits a &&& BitVec.ofInt k.bits b).toNat))) := fun _ w hk _ => by
  simp [execOp, hk.ev hx, hk.ev hy, eqGuard, binOp, Op.intBits]
theorem q_or {k : IntKind} {a b : Int} (hx : Env.ev E x = some (.int k a)) (hy : Env.ev E y = some (.int k b)) : OpQ X ⟨d, .binOp .or t x y u, ty, pos, af, gd⟩ E L (.int k (k.wrap ((BitVec.ofInt k.bits a ||| BitVec.ofInt k.bits b).toNat))) := fun _ w hk _ => by
  simp [execOp, hk.ev hx, hk.ev hy, eqGuard, binOp, Op.intBits]
theorem q_shl {k j : IntKind} {a b : Int} (hx : Env.ev E x = some (.int k a)) (hy : Env.ev E y = some (.int j b)) (hb : 0 ≤ b) : OpQ X ⟨d, .binOp .shl t x y u, ty, pos, af, gd⟩ E L (.int k (k.wrap (a * 2 ^ (min b.toNat k.bits)))) := fun _ w hk _ => by
  have : ¬ b < 0 := by omega
  simp [execOp, hk.ev hx, hk.ev hy, eqGuard, binOp, Op.shift, this]
theorem q_shr {k j : IntKind} {a b : Int} (hx : Env.ev E x = some (.int k a)) (hy : Env.ev E y = some (.int j b)) (hb : 0 ≤ b) : OpQ X ⟨d, .binOp .shr t x y u, ty, pos, af, gd⟩ E L (.int k (a.fdiv (2 ^ (min b.toNat k.bits)))) := fun _ w hk _ => by
  have : ¬ b < 0 := by omega
  simp [execOp, hk.ev hx, hk.ev hy, eqGuard, binOp, Op.shift, this]
theorem beq_dec (a b : Int) : (a == b) = decide (a = b) := by
  by_cases h : a = b <;> simp [h]
theorem bne_dec (a b : Int) : (a != b) = decide (¬ a = b) := by
  by_cases h : a = b <;> simp [h]
theorem q_lt {k : IntKind} {a b : Int} (hx : Env.ev E x = some (.int k a)) (hy : Env.ev E y = some (.int k b)) : OpQ X ⟨d, .binOp .lss t x y u, ty, pos, af, gd⟩ E L (.bool (decide (a < b))) := fun _ w hk _ => by
  simp [execOp, hk.ev hx, hk.ev hy, eqGuard, binOp, Op.intCmp]
theorem q_le {k : IntKind} {a b : Int} (hx : Env.ev E x = some (.int k a)) (hy : Env.ev E y = some (.int k b)) : OpQ X ⟨d, .binOp .leq t x y u, ty, pos, af, gd⟩ E L (.bool (decide (a ≤ b))) := fun _ w hk _ => by
  simp [execOp, hk.ev hx, hk.ev hy, eqGuard, binOp, Op.intCmp]
theorem q_gt {k : IntKind} {a b : Int} (hx : Env.ev E x = some (.int k a)) (hy : Env.ev E y = some (.int k b)) : OpQ X ⟨d, .binOp .gtr t x y u, ty, pos, af, gd⟩ E L (.bool (decide (b < a))) := fun _ w hk _ => by
  simp [execOp, hk.ev hx, hk.ev hy, eqGuard, binOp, Op.intCmp]
theorem q_ge {k : IntKind} {a b : Int} (hx : Env.ev E x = some (.int k a)) (hy : Env.ev E y = some (.int k b)) : OpQ X ⟨d, .binOp .geq t x y u, ty, pos, af, gd⟩ E L (.bool (decide (b ≤ a))) := fun _ w hk _ => by
  simp [execOp, hk.ev hx, hk.ev hy, eqGuard, binOp, Op.intCmp]
theorem q_eq {k : IntKind} {a b : Int} (hx : Env.ev E x = some (.int k a)) (hy : Env.ev E y = some (.int k b)) : OpQ X ⟨d, .binOp .eql t x y u, ty, pos, af, gd⟩ E L (.bool (decide (a = b))) := fun _ w hk _ => by
  simp [execOp, hk.ev hx, hk.ev hy, eqGuard, binOp, Op.intCmp, beq_dec]
theorem q_ne {k : IntKind} {a b : Int} (hx : Env.ev E x = some (.int k a)) (hy : Env.ev E y = some (.int k b)) : OpQ X ⟨d, .binOp .neq t x y u, ty, pos, af, gd⟩ E L (.bool (decide (¬ a = b))) := fun _ w hk _ => by
  simp [execOp, hk.ev hx, hk.ev hy, eqGuard, binOp, Op.intCmp, bne_dec]
theorem q_neg {a : Int} (hx : Env.ev E x = some (.int .i64 a)) (h0 : -9223372036854775808 ≤ -a) (h1 : -a ≤ 9223372036854775807) : OpQ X ⟨d, .unOp .neg t x, ty, pos, af, gd⟩ E L (.int .i64 (-a)) := fun _ w hk _ => by
  have : IntKind.i64.wrap (-a) = -a := wrap_i64 h0 h1
  simp [execOp, hk.ev hx, Op.unary, Op.intArith, this]
theorem q_not {b : Bool} (hx : Env.ev E x = some (.bool b)) : OpQ X ⟨d, .unOp .not t x, ty, pos, af, gd⟩ E L (.bool (!b)) := fun _ w hk _ => by
  simp [execOp, hk.ev hx, Op.unary]
theorem q_convw {k j : IntKind} {a : Int} (hu : X.P.underlying u = some (.int k)) (ht : (X.P.underlying t).isSome = true) (hx : Env.ev E x = some (.int j a)) : OpQ X ⟨d, .convert t u x, ty, pos, af, gd⟩ E L (.int k (k.wrap a)) := fun _ w hk _ => by
  obtain ⟨ds, hds⟩ := Option.isSome_iff_exists.1 ht
  simp [execOp, hk.ev hx, convert, underlying, hu, hds, Conv.intToInt]
theorem q_conv {k j : IntKind} {a : Int} (hu : X.P.underlying u = some (.int k)) (ht : (X.P.underlying t).isSome = true) (hx : Env.ev E x = some (.int j a)) (hw : k.wrap a = a) : OpQ X ⟨d, .convert t u x, ty, pos, af, gd⟩ E L (.int k a) := by
  have := q_convw (X := X) (L := L) (d := d) (ty := ty) (pos := pos) (af := af) (gd := gd) hu ht hx
  rwa [hw] at this
/-! bools, texts -/
theorem run_eql {P : Program} {w : World} {t : TypeId} {a b : Value} {r : Bool} (hb : binOp .eql t a b = (do pure (.bool (← Op.equal t a b)))) (h : (Op.equalIn (9999 + 1) t a b).run P w = .ok r w) : (binOp .eql t a b).run P w = .ok (.bool r) w := by
  rw [hb]
  have h : (Op.equal t a b).run P w = .ok r w := h
  simp [h]
theorem run_neq {P : Program} {w : World} {t : TypeId} {a b : Value} {r : Bool} (hb : binOp .neq t a b = (do pure (.bool (!(← Op.equal t a b))))) (h : (Op.equalIn (9999 + 1) t a b).run P w = .ok r w) : (binOp .neq t a b).run P w = .ok (.bool (!r)) w := by
  rw [hb]
  have h : (Op.equal t a b).run P w = .ok r w := h
  simp [h]
theorem run_und {P : Program} {t : TypeId} {ds : TypeDesc} (h : P.underlying t = some ds) (w : World) : (underlying t).run P w = .ok ds w := by
  simp [underlying, h]
theorem eq_bool {P : Program} {w : World} {t : TypeId} {a b : Bool} (n : Nat) (ht : P.underlying t = some .bool) : (Op.equalIn (n + 1) t (.bool a) (.bool b)).run P w = .ok (a == b) w := by
  simp [Op.equalIn, run_und ht]
theorem eq_int {P : Program} {w : World} {t : TypeId} {k : IntKind} {a b : Int} (n : Nat) (ht : P.underlying t = some (.int k)) : (Op.equalIn (n + 1) t (.int k a) (.int k b)).run P w = .ok (a == b) w := by
  simp [Op.equalIn, run_und ht]
theorem eq_str {P : Program} {w : World} {t : TypeId} {a b : ByteArray} (n : Nat) (ht : P.underlying t = some .string) : (Op.equalIn (n + 1) t (.string a) (.string b)).run P w = .ok (a == b) w := by
  simp [Op.equalIn, run_und ht]
theorem eq_ptr {P : Program} {w : World} {t e : TypeId} {p : Option Addr} (n : Nat) (ht : P.underlying t = some (.pointer e)) : (Op.equalIn (n + 1) t (.pointer p) (.pointer none)).run P w = .ok p.isNone w := by
  cases p <;> simp [Op.equalIn, run_und ht]
theorem eq_sl {P : Program} {w : World} {t e : TypeId} {p : Option Addr} {l c : Nat} (n : Nat) (ht : P.underlying t = some (.slice e)) : (Op.equalIn (n + 1) t (.slice p l c) (.slice none 0 0)).run P w = .ok p.isNone w := by
  cases p <;> simp [Op.equalIn, run_und ht]
theorem q_beq {a b : Bool} (ht : X.P.underlying t = some .bool) (hx : Env.ev E x = some (.bool a)) (hy : Env.ev E y = some (.bool b)) : OpQ X ⟨d, .binOp .eql t x y u, ty, pos, af, gd⟩ E L (.bool (a == b)) := fun _ w hk _ => by
  simp only [execOp, hk.ev hx, hk.ev hy, eqGuard, Sem.run_bind, Sem.run_pure]
  simp [run_eql (P := X.P) (w := w) rfl (eq_bool 9999 ht)]
theorem q_bne {a b : Bool} (ht : X.P.underlying t = some .bool) (hx : Env.ev E x = some (.bool a)) (hy : Env.ev E y = some (.bool b)) : OpQ X ⟨d, .binOp .neq t x y u, ty, pos, af, gd⟩ E L (.bool (a != b)) := fun _ w hk _ => by
  simp only [execOp, hk.ev hx, hk.ev hy, eqGuard, Sem.run_bind, Sem.run_pure]
  simp [run_neq (P := X.P) (w := w) rfl (eq_bool 9999 ht), bne]
theorem toList_inj {a b : ByteArray} : a.toList = b.toList ↔ a = b := by
  constructor
  · intro h
    have : a.data.toList = b.data.toList := by simpa [Go.Lib.toList_data] using h
    cases a; cases b; simp_all
  · intro h; rw [h]
theorem sbeq_dec (a b : ByteArray) : (a.toList == b.toList) = decide (a = b) := by
  by_cases h : a = b
  · simp [h]
  · simp [h, toList_inj]
theorem q_seq {a b : ByteArray} (hx : Env.ev E x = some (.string a)) (hy : Env.ev E y = some (.string b)) : OpQ X ⟨d, .binOp .eql t x y u, ty, pos, af, gd⟩ E L (.bool (decide (a = b))) := fun _ w hk _ => by
  simp [execOp, hk.ev hx, hk.ev hy, eqGuard, binOp, Op.stringOp, sbeq_dec]
theorem q_sne {a b : ByteArray} (hx : Env.ev E x = some (.string a)) (hy : Env.ev E y = some (.string b)) : OpQ X ⟨d, .binOp .neq t x y u, ty, pos, af, gd⟩ E L (.bool (decide (¬ a = b))) := fun _ w hk _ => by
  simp [execOp, hk.ev hx, hk.ev hy, eqGuard, binOp, Op.stringOp, sbeq_dec]
theorem q_slt {a b : ByteArray} (hx : Env.ev E x = some (.string a)) (hy : Env.ev E y = some (.string b)) : OpQ X ⟨d, .binOp .lss t x y u, ty, pos, af, gd⟩ E L (.bool (Op.bytesLess a.toList b.toList)) := fun _ w hk _ => by
  simp [execOp, hk.ev hx, hk.ev hy, eqGuard, binOp, Op.stringOp]
theorem q_sgt {a b : ByteArray} (hx : Env.ev E x = some (.string a)) (hy : Env.ev E y = some (.string b)) : OpQ X ⟨d, .binOp .gtr t x y u, ty, pos, af, gd⟩ E L (.bool (!(Op.bytesLess a.toList b.toList || decide (a = b)))) := fun _ w hk _ => by
  simp [execOp, hk.ev hx, hk.ev hy, eqGuard, binOp, Op.stringOp, ← sbeq_dec]
theorem q_sge {a b : ByteArray} (hx : Env.ev E x = some (.string a)) (hy : Env.ev E y = some (.string b)) : OpQ X ⟨d, .binOp .geq t x y u, ty, pos, af, gd⟩ E L (.bool (!(Op.bytesLess a.toList b.toList))) := fun _ w hk _ => by
  simp [execOp, hk.ev hx, hk.ev hy, eqGuard, binOp, Op.stringOp]
theorem q_cat {a b : ByteArray} (hx : Env.ev E x = some (.string a)) (hy : Env.ev E y = some (.string b)) (h : a.size + b.size ≤ 9223372036854775807) : OpQ X ⟨d, .binOp .add t x y u, ty, pos, af, gd⟩ E L (.string (a ++ b)) := fun _ w hk _ => by
  have hm : IntKind.i64.max = 9223372036854775807 := by decide
  have h9 : ¬ (((a.size + b.size : Nat) : Int) > IntKind.i64.max) := by rw [hm]; omega
  simp only [execOp, hk.ev hx, hk.ev hy, eqGuard, Sem.run_bind, Sem.run_pure]
  have : binOp .add t (.string a) (.string b) = Op.stringOp .add a b := rfl
  simp only [this, Op.stringOp, h9, if_false]
  simp
theorem q_sindex {s : ByteArray} {k : IntKind} {i : Int} (ht : X.P.underlying t = some .string) (hx : Env.ev E x = some (.string s)) (hy : Env.ev E y = some (.int k i)) (h0 : 0 ≤ i) (h1 : i.toNat < s.size) :
    OpQ X ⟨d, .index t x y, ty, pos, af, gd⟩ E L (.int .u8 (s[i.toNat]).toNat) := fun _ w hk _ => by
  simp [execOp, hk.ev hx, hk.ev hy, Instr.index, asIntOf, underlying, ht, h0, h1]
/-! nil -/
theorem q_pnil {p : Option Addr} {e : TypeId} (ht : X.P.underlying t = some (.pointer e)) (hx : Env.ev E x = some (.pointer p)) (hy : Env.ev E y = some (.pointer none)) : OpQ X ⟨d, .binOp .eql t x y u, ty, pos, af, gd⟩ E L (.bool p.isNone) := fun _ w hk _ => by
  simp only [execOp, hk.ev hx, hk.ev hy, eqGuard, Sem.run_bind, Sem.run_pure]
  simp [run_eql (P := X.P) (w := w) rfl (eq_ptr (p := p) 9999 ht)]
theorem q_pnn {p : Option Addr} {e : TypeId} (ht : X.P.underlying t = some (.pointer e)) (hx : Env.ev E x = some (.pointer p)) (hy : Env.ev E y = some (.pointer none)) : OpQ X ⟨d, .binOp .neq t x y u, ty, pos, af, gd⟩ E L (.bool p.isSome) := fun _ w hk _ => by
  simp only [execOp, hk.ev hx, hk.ev hy, eqGuard, Sem.run_bind, Sem.run_pure]
  cases p with
  | none => simp [run_neq (P := X.P) (w := w) rfl (eq_ptr (p := none) 9999 ht)]
  | some q => simp [run_neq (P := X.P) (w := w) rfl (eq_ptr (p := some q) 9999 ht)]
theorem q_slnil {p : Option Addr} {n c : Nat} {e : TypeId} (ht : X.P.underlying t = some (.slice e)) (hx : Env.ev E x = some (.slice p n c)) (hy : Env.ev E y = some (.slice none 0 0)) : OpQ X ⟨d, .binOp .eql t x y u, ty, pos, af, gd⟩ E L (.bool p.isNone) := fun _ w hk _ => by
  simp only [execOp, hk.ev hx, hk.ev hy, eqGuard, Sem.run_bind, Sem.run_pure]
  simp [run_eql (P := X.P) (w := w) rfl (eq_sl (p := p) (l := n) (c := c) 9999 ht)]
/-! tuples, functions -/
theorem q_extract {vs : List Value} {i : Nat} {v : Value} (hx : Env.ev E x = some (.tuple vs.toArray)) (hi : vs[i]? = some v) : OpQ X ⟨d, .extract x i, ty, pos, af, gd⟩ E L v := fun _ w hk _ => by
  simp [execOp, hk.ev hx, Instr.extract, hi]
theorem q_func {f : FuncId} {first captured : List Operand} {vs us : List Value} (h1 : Env.evs E first = some vs) (h2 : Env.evs E captured = some us) :
    OpQ X ⟨d, .makeFunc (.func f) first.toArray captured.toArray, ty, pos, af, gd⟩ E L (.func (.func f) vs.toArray us.toArray) := fun _ w hk _ => by
  simp [execOp, Instr.makeFunc, hk.evs h1, hk.evs h2]
/-! builtins that only look -/
theorem q_lenS {s : ByteArray} {a : TypeId} (ht : X.P.underlying a = some .string) (hx : Env.ev E x = some (.string s)) : OpQ X ⟨d, .call ⟨.builtin .len, [x].toArray, [a].toArray⟩, ty, pos, af, gd⟩ E L (.int .i64 s.size) := fun _ w hk _ => by
  simp [execOp, hk.ev hx, resolve, invoke, builtin, Builtin.len_, underlying, ht, goInt]
theorem q_len {p : Option Addr} {n c : Nat} {a e : TypeId} (ht : X.P.underlying a = some (.slice e)) (hx : Env.ev E x = some (.slice p n c)) : OpQ X ⟨d, .call ⟨.builtin .len, [x].toArray, [a].toArray⟩, ty, pos, af, gd⟩ E L (.int .i64 n) := fun _ w hk _ => by
  simp [execOp, hk.ev hx, resolve, invoke, builtin, Builtin.len_, underlying, ht, goInt]
theorem q_min {k : IntKind} {a b : Int} {ats : Array TypeId} (hx : Env.ev E x = some (.int k a)) (hy : Env.ev E y = some (.int k b)) : OpQ X ⟨d, .call ⟨.builtin .min, [x, y].toArray, ats⟩, ty, pos, af, gd⟩ E L (.int k (if b < a then b else a)) := fun _ w hk _ => by
  simp [execOp, hk.ev hx, hk.ev hy, resolve, invoke, builtin, Builtin.min_, Builtin.min2]
/-! cuts -/
theorem q_scut {s : ByteArray} {lo hi : Option Operand} {l h : Nat} (ht : X.P.underlying t = some .string) (hx : Env.ev E x = some (.string s))
    (hl : match lo with | none => l = 0 | some z => Env.ev E z = some (.int .i64 l)) (hh : match hi with | none => h = s.size | some z => Env.ev E z = some (.int .i64 h)) (h1 : l ≤ h) (h2 : h ≤ s.size) :
    OpQ X ⟨d, .slice t x lo hi none, ty, pos, af, gd⟩ E L (.string (s.extract l h)) := fun _ w hk _ => by
  cases lo <;> cases hi <;> simp only at hl hh
  · subst hl hh; simp [execOp, hk.ev hx, Instr.sliceAt, underlying, ht, Instr.slice, Instr.sliceBounds]
  · subst hl; simp [execOp, hk.ev hx, hk.ev hh, Instr.sliceAt, underlying, ht, Instr.slice, Instr.sliceBounds, Instr.sliceBound, asIntOf, h2]
  · subst hh; simp [execOp, hk.ev hx, hk.ev hl, Instr.sliceAt, underlying, ht, Instr.slice, Instr.sliceBounds, Instr.sliceBound, asIntOf, h1]
  · simp [execOp, hk.ev hx, hk.ev hl, hk.ev hh, Instr.sliceAt, underlying, ht, Instr.slice, Instr.sliceBounds, Instr.sliceBound, asIntOf, h1, h2]
/-- The address of what a cut leaves: at its capacity's end the model keeps the old one. -/
def cutAddr (p : Option Addr) (cap l sz : Nat) : Option Addr := if cap = l then p else p.map fun a => a.add (l * sz)
theorem q_cut {p : Option Addr} {n cap e sz bytes : Nat} {lo hi : Option Operand} {l h : Nat} (ht : slElem X.P t = some (e, sz, bytes)) (hx : Env.ev E x = some (.slice p n cap))
    (hl : match lo with | none => l = 0 | some z => Env.ev E z = some (.int .i64 l)) (hh : match hi with | none => h = n | some z => Env.ev E z = some (.int .i64 h)) (h1 : l ≤ h) (h2 : h ≤ cap) :
    OpQ X ⟨d, .slice t x lo hi none, ty, pos, af, gd⟩ E L (.slice (cutAddr p cap l sz) (h - l) (cap - l)) := fun _ w hk _ => by
  unfold slElem at ht
  cases hu : X.P.underlying t with
  | none => rw [hu] at ht; simp at ht
  | some ds =>
    cases ds <;> rw [hu] at ht <;> simp only [reduceCtorEq] at ht
    rename_i e'
    cases hi' : X.P.info? e' with
    | none => rw [hi'] at ht; simp at ht
    | some inf =>
      rw [hi'] at ht
      simp only [Option.some.injEq, Prod.mk.injEq] at ht
      obtain ⟨rfl, rfl, rfl⟩ := ht
      cases lo <;> cases hi <;> simp only at hl hh
      · subst hl hh; simp [execOp, hk.ev hx, Instr.sliceAt, underlying, hu, Instr.slice, Instr.sliceBounds, sizeOf, typeInfo, hi', cutAddr]
      · subst hl; simp [execOp, hk.ev hx, hk.ev hh, Instr.sliceAt, underlying, hu, Instr.slice, Instr.sliceBounds, Instr.sliceBound, asIntOf, h2, sizeOf, typeInfo, hi', cutAddr]
      · subst hh; simp [execOp, hk.ev hx, hk.ev hl, Instr.sliceAt, underlying, hu, Instr.slice, Instr.sliceBounds, Instr.sliceBound, asIntOf, h1, sizeOf, typeInfo, hi', cutAddr]
      · simp [execOp, hk.ev hx, hk.ev hl, hk.ev hh, Instr.sliceAt, underlying, hu, Instr.slice, Instr.sliceBounds, Instr.sliceBound, asIntOf, h1, h2, sizeOf, typeInfo, hi', cutAddr]
end
end Go.Proofs.Ytlellgnklohclaa.L
