/- Laws that were found lacking later: a block of several elements as a frozen row, a result that lies in a cell, equality of structs. -/
import Derived.Test.YtlellgnklohclaaOps6
namespace Go.Proofs.Ytlellgnklohclaa.L
open Go Go.RowKit

/-- A block of cells, frozen, is a frozen row. -/
theorem pv_rowFg {α : Type} {k : Kd α} {ρ : World} {L : List HP} {w : World} {b e : Nat} {cs : List Value} (xs : List α) (hr : ∀ g, rowAt k g cs.toArray 0 xs) (h : St ρ (pv b e cs :: L) w) : St ρ (RowF k (some ⟨b, 0, none⟩) xs :: L) w := by
  have h2 : St ρ (fv b e cs :: L) w := h.fzv
  unfold fv at h2
  have h1 : St ρ (rowP k cs.toArray 0 xs :: fz b (.cells cs.toArray e (0, 0)) :: L) w := by
    obtain ⟨g, q, a, b', c, d⟩ := h2.body
    exact ⟨h2.os, h2.tape, h2.output, g, q, a, b', c, sepAll_cons_per (A := rowP k cs.toArray 0 xs) rfl (h1 := fun _ => none) (hr g) d⟩
  have h3 : St ρ (RowF k (some ⟨b, 0, none⟩) xs :: rowP k cs.toArray 0 xs :: fz b (.cells cs.toArray e (0, 0)) :: L) w := rowF_shut (List.Mem.tail _ (List.Mem.head _)) (List.Mem.head _) h1
  exact (h3.pick (.there .here)).tail |>.pick (.there .here) |>.tail
theorem pv_rowU {ρ : World} {L : List HP} {w : World} {b e : Nat} {cs : List Value} (xs : List UInt8) (hr : cs = xs.map fun b => .int .u8 b.toNat) (h : St ρ (pv b e cs :: L) w) : St ρ (RowF Kd.u8 (some ⟨b, 0, none⟩) xs :: L) w :=
  pv_rowFg xs (fun g i x hx => ⟨_, rfl, fun j v hv => by
    subst hr
    cases j with
    | zero =>
      have e1 : 0 + i * Kd.u8.sz + 0 = i := by show 0 + i * 1 + 0 = i; omega
      rw [e1]
      obtain rfl : Value.int .u8 x.toNat = v := by simpa using hv
      simp [hx]
    | succ j => simp at hv⟩) h
section
variable {X : Fx} {E : Env} {L : List HP} {d : Option Tmp} {t u ty : TypeId} {x y : Operand} {pos : String} {af : Array Edge} {gd : Option (Nat × Bool)}
theorem q_eqT {k : IntKind} {a b : Int} (hx : Env.ev E x = some (.int k a)) (hy : Env.ev E y = some (.int k b)) (h : a = b) : OpQ X ⟨d, .binOp .eql t x y u, ty, pos, af, gd⟩ E L (.bool true) := decide_eq_true h ▸ q_eq hx hy
theorem q_eqF {k : IntKind} {a b : Int} (hx : Env.ev E x = some (.int k a)) (hy : Env.ev E y = some (.int k b)) (h : ¬ a = b) : OpQ X ⟨d, .binOp .eql t x y u, ty, pos, af, gd⟩ E L (.bool false) := decide_eq_false h ▸ q_eq hx hy
theorem q_neF {k : IntKind} {a b : Int} (hx : Env.ev E x = some (.int k a)) (hy : Env.ev E y = some (.int k b)) (h : a = b) : OpQ X ⟨d, .binOp .neq t x y u, ty, pos, af, gd⟩ E L (.bool false) := decide_eq_false (not_not_intro h) ▸ q_ne hx hy
theorem q_neT {k : IntKind} {a b : Int} (hx : Env.ev E x = some (.int k a)) (hy : Env.ev E y = some (.int k b)) (h : ¬ a = b) : OpQ X ⟨d, .binOp .neq t x y u, ty, pos, af, gd⟩ E L (.bool true) := decide_eq_true h ▸ q_ne hx hy
theorem q_seqT {a b : ByteArray} (hx : Env.ev E x = some (.string a)) (hy : Env.ev E y = some (.string b)) (h : a = b) : OpQ X ⟨d, .binOp .eql t x y u, ty, pos, af, gd⟩ E L (.bool true) := decide_eq_true h ▸ q_seq hx hy
theorem q_sneF {a b : ByteArray} (hx : Env.ev E x = some (.string a)) (hy : Env.ev E y = some (.string b)) (h : a = b) : OpQ X ⟨d, .binOp .neq t x y u, ty, pos, af, gd⟩ E L (.bool false) := decide_eq_false (not_not_intro h) ▸ q_sne hx hy
theorem q_bneF {a b : Bool} (ht : X.P.underlying t = some .bool) (hx : Env.ev E x = some (.bool a)) (hy : Env.ev E y = some (.bool b)) (h : a = b) : OpQ X ⟨d, .binOp .neq t x y u, ty, pos, af, gd⟩ E L (.bool false) := by
  have h1 := q_bne (X := X) (E := E) (L := L) (d := d) (u := u) (ty := ty) (pos := pos) (af := af) (gd := gd) ht hx hy
  rwa [h, bne_self_eq_false] at h1
theorem q_beqT {a b : Bool} (ht : X.P.underlying t = some .bool) (hx : Env.ev E x = some (.bool a)) (hy : Env.ev E y = some (.bool b)) (h : a = b) : OpQ X ⟨d, .binOp .eql t x y u, ty, pos, af, gd⟩ E L (.bool true) := by
  have h1 := q_beq (X := X) (E := E) (L := L) (d := d) (u := u) (ty := ty) (pos := pos) (af := af) (gd := gd) ht hx hy
  rwa [h, beq_self_eq_true] at h1
end
end Go.Proofs.Ytlellgnklohclaa.L
