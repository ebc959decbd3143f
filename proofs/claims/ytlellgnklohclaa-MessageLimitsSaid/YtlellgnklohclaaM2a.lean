/- Plain: the messages of MessageLimits, and which of them may be. -/
import Derived.Test.YtlellgnklohclaaM1
namespace Go.Proofs.Ytlellgnklohclaa.L
open Go Go.Proofs
attribute [local irreducible] pv fv pt fz RowF RowO rowP old pure_
set_option maxRecDepth 100000
set_option linter.unusedSimpArgs false
set_option linter.unusedVariables false

def zeros (n : Nat) : ByteArray := ⟨(List.replicate n (0 : UInt8)).toArray⟩
def lims (n : Int) (y z : ByteArray) : List Msg :=
  [⟨1099511627776 + n, 0, 0, false, ⟨#[]⟩, ⟨#[]⟩⟩, ⟨1 - n, 0, 0, false, ⟨#[]⟩, ⟨#[]⟩⟩, ⟨1, 1000 + n, 0, false, ⟨#[]⟩, ⟨#[]⟩⟩, ⟨1, -1000 - n, 0, false, ⟨#[]⟩, ⟨#[]⟩⟩, ⟨1, 0, 1000 + n, false, ⟨#[]⟩, ⟨#[]⟩⟩, ⟨1, 0, 0, false, y, ⟨#[]⟩⟩, ⟨1, 0, 0, false, ⟨#[]⟩, z⟩]
theorem lims_right0 (k : Nat) (x : Msg) (h : (lims 0 (zeros 40) (zeros 100))[k]? = some x) : (x.right == true) = true := by
  match k, h with
  | 0, h => cases h; rfl
  | 1, h => cases h; rfl
  | 2, h => cases h; rfl
  | 3, h => cases h; rfl
  | 4, h => cases h; rfl
  | 5, h => cases h; rfl
  | 6, h => cases h; rfl
theorem lims_right1 (k : Nat) (x : Msg) (h : (lims 1 (zeros 41) (zeros 101))[k]? = some x) : (x.right == false) = true := by
  match k, h with
  | 0, h => cases h; rfl
  | 1, h => cases h; rfl
  | 2, h => cases h; rfl
  | 3, h => cases h; rfl
  | 4, h => cases h; rfl
  | 5, h => cases h; rfl
  | 6, h => cases h; rfl
theorem pv_lims {ρ : World} {L : List HP} {w : World} {b e : Nat} (n : Int) (y z : ByteArray) (h : St ρ (pv b e [.int .i64 (1099511627776 + n), .int .i64 0, .int .i64 0, .bool false, .string ⟨#[]⟩, .string ⟨#[]⟩, .int .i64 (1 - n), .int .i64 0, .int .i64 0, .bool false, .string ⟨#[]⟩, .string ⟨#[]⟩, .int .i64 1, .int .i64 (1000 + n), .int .i64 0, .bool false, .string ⟨#[]⟩, .string ⟨#[]⟩, .int .i64 1, .int .i64 (-1000 - n), .int .i64 0, .bool false, .string ⟨#[]⟩, .string ⟨#[]⟩, .int .i64 1, .int .i64 0, .int .i64 (1000 + n), .bool false, .string ⟨#[]⟩, .string ⟨#[]⟩, .int .i64 1, .int .i64 0, .int .i64 0, .bool false, .string y, .string ⟨#[]⟩, .int .i64 1, .int .i64 0, .int .i64 0, .bool false, .string ⟨#[]⟩, .string z] :: L) w) : St ρ (RowF Kd.msg (some ⟨b, 0, none⟩) (lims n y z) :: L) w :=
  pv_flat (enc := Msg.cells) (lims n y z) rfl h
section
variable {X : Fx} {E : Env} {L : List HP} {d : Option Tmp} {ty : TypeId} {pos : String} {af : Array Edge} {gd : Option (Nat × Bool)} {x : Operand}
/-- A text of zeros, from a slice that was made. -/
theorem q_zeros {src dst e n c e2 : Nat} {p : Option Addr} (h1 : X.P.underlying src = some (.slice e)) (h2 : X.P.underlying e = some (.int .u8)) (h3 : X.P.underlying dst = some .string)
    (hx : Env.ev E x = some (.slice p n c)) (m : RowO Kd.u8 e2 p c (List.replicate n 0) ∈ L) : OpQ X ⟨d, .convert src dst x, ty, pos, af, gd⟩ E L (.string (zeros n)) :=
  q_bstr h1 h2 h3 hx isO m (by simp)
end
end Go.Proofs.Ytlellgnklohclaa.L
