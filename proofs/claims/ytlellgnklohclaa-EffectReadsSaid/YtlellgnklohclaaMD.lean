/- Messages and rows as records: equality is decided. -/
import Derived.Test.YtlellgnklohclaaM4R
import Derived.Test.YtlellgnklohclaaOps11
namespace Go.Proofs.Ytlellgnklohclaa.L
open Go Go.Proofs
attribute [local irreducible] pv fv pt fz RowF RowO rowP old pure_ elA
set_option maxRecDepth 100000
set_option linter.unusedSimpArgs false
set_option linter.unusedVariables false
open Go.RowKit Go.ChangeShapes

--%rec api.Msg Msg
theorem msg_sz (x : Msg) : x.cells.length = 6 := rfl
theorem q_as_msg {X : Fx} {o : Oper} {E : Env} {L : List HP} {cs : List Value} {id_ : Int} {pri_ : Int} {retry_ : Int} {claimed_ : Bool} {corr_ : ByteArray} {body_ : ByteArray} (h : OpQ X o E L (.agg cs.toArray)) (e : cs = [.int .i64 id_, .int .i64 pri_, .int .i64 retry_, .bool claimed_, .string corr_, .string body_]) : OpQ X o E L (.agg (Msg.cells ⟨id_, pri_, retry_, claimed_, corr_, body_⟩).toArray) := q_as h e
theorem msg_ext {a b : Msg} : a = b ↔ a.id = b.id ∧ a.pri = b.pri ∧ a.retry = b.retry ∧ a.claimed = b.claimed ∧ a.corr = b.corr ∧ a.body = b.body := by cases a; cases b; simp
instance : DecidableEq Msg := fun _ _ => decidable_of_iff _ msg_ext.symm
theorem msg_beqD (a b : Msg) : a.beq b = decide (a = b) := by rw [Bool.eq_iff_iff, decide_eq_true_iff, msg_ext]; simp [Msg.beq, bbeq]
theorem msg_eqD (a b : Msg) {fs : Array Field} (h : Try.prog.underlying 24 = some (.struct fs)) : EqG Try.prog a.cells b.cells fs.toList (decide (a = b)) := by
  rw [Try.underlying24] at h
  cases h
  have e : ((a.id == b.id) && ((a.pri == b.pri) && ((a.retry == b.retry) && ((a.claimed == b.claimed) && ((a.corr == b.corr) && ((a.body == b.body) && true)))))) = decide (a = b) := by rw [Bool.eq_iff_iff, decide_eq_true_iff, msg_ext]; simp [bbeq]
  rw [← e]
  exact (.cons rfl ck_3 rfl rfl (.int Try.underlying3) (.cons rfl ck_3 rfl rfl (.int Try.underlying3) (.cons rfl ck_3 rfl rfl (.int Try.underlying3) (.cons rfl ck_4 rfl rfl (.bool Try.underlying4) (.cons rfl ck_9 rfl rfl (.str Try.underlying9) (.cons rfl ck_9 rfl rfl (.str Try.underlying9) .nil))))))
/-- A row of a table. -/
--%rec api.Row Rw
structure Rw where
  key : ByteArray
  value : ByteArray
def Rw.cells (x : Rw) : List Value := [.string x.key, .string x.value]
theorem rw_sz (x : Rw) : x.cells.length = 2 := rfl
theorem rw_one (x : Rw) : ∀ v ∈ x.cells, v.oneCell' = true := fun v h => by simp [Rw.cells] at h; rcases h with rfl | rfl <;> rfl
def Kd.rw : Kd Rw := Kd.flat 2 Rw.cells rw_sz rw_one
theorem q_as_rw {X : Fx} {o : Oper} {E : Env} {L : List HP} {cs : List Value} {key_ : ByteArray} {value_ : ByteArray} (h : OpQ X o E L (.agg cs.toArray)) (e : cs = [.string key_, .string value_]) : OpQ X o E L (.agg (Rw.cells ⟨key_, value_⟩).toArray) := q_as h e
theorem rw_ext {a b : Rw} : a = b ↔ a.key = b.key ∧ a.value = b.value := by cases a; cases b; simp
instance : DecidableEq Rw := fun _ _ => decidable_of_iff _ rw_ext.symm
theorem rw_hp : Try.prog.stoodInHeld 103 = false := by kernel_rfl
theorem rw_hg : Try.prog.eqGuardType Try.prog.depth 103 = false := by kernel_rfl
theorem rw_eqD (a b : Rw) {fs : Array Field} (h : Try.prog.underlying 103 = some (.struct fs)) : EqG Try.prog a.cells b.cells fs.toList (decide (a = b)) := by
  rw [Try.underlying103] at h
  cases h
  have e : ((a.key == b.key) && ((a.value == b.value) && true)) = decide (a = b) := by rw [Bool.eq_iff_iff, decide_eq_true_iff, rw_ext]; simp [bbeq]
  rw [← e]
  exact (.cons rfl ck_9 rfl rfl (.str Try.underlying9) (.cons rfl ck_9 rfl rfl (.str Try.underlying9) .nil))
def Rw.beq (a b : Rw) : Bool := (a.key == b.key) && ((a.value == b.value) && true)
theorem rw_beqD (a b : Rw) : a.beq b = decide (a = b) := by rw [Bool.eq_iff_iff, decide_eq_true_iff, rw_ext]; simp [Rw.beq, bbeq]
theorem rw_eqF (a b : Rw) {fs : Array Field} (h : Try.prog.underlying 103 = some (.struct fs)) : EqF Try.prog a.cells b.cells fs.toList (a.beq b) := by
  rw [Try.underlying103] at h
  cases h
  exact (.cons rfl ck_9 rfl rfl (.str Try.underlying9) (.cons rfl ck_9 rfl rfl (.str Try.underlying9) .nil))
def Rw.fits (x : Rw) : Prop := (x.key.size : Int) ≤ 9223372036854775807 ∧ (x.value.size : Int) ≤ 9223372036854775807
theorem rw_len (cs : List Value) (h : cs.length = 2) : ∃ v0 v1, cs = [v0, v1] := by
  match cs, h with
  | [v0, v1], _ => exact ⟨v0, v1, rfl⟩
theorem opens_rw {H : Type} {enc : TypeId × Value → H} {W : World} : Opens enc Try.prog W Kd.rw 103 Rw.fits := fun fuel cs y h => by
  obtain ⟨hl, n, hf⟩ := opens_fields Try.underlying103 h
  have hl2 : cs.length = 2 := hl.trans (by kernel_rfl)
  obtain ⟨v0, v1, rfl⟩ := rw_len cs hl2
  have cstring : Try.prog.cellsOf 9 = 1 := by kernel_rfl
  obtain ⟨y0, h0⟩ := hf 0 _ rfl
  replace h0 : DataW.trod enc Try.prog W 0 (fun _ => true) true n 9 (([v0, v1].drop 0).take (Try.prog.cellsOf 9)) = some y0 := h0
  rw [cstring] at h0
  obtain ⟨x0, e0, b0⟩ := opens_str Try.underlying9 _ _ _ h0
  have u0 : v0 = Value.string x0 := (List.cons.inj (show [v0] = [Value.string x0] from e0)).1
  obtain ⟨y1, h1⟩ := hf 1 _ rfl
  replace h1 : DataW.trod enc Try.prog W 0 (fun _ => true) true n 9 (([v0, v1].drop 1).take (Try.prog.cellsOf 9)) = some y1 := h1
  rw [cstring] at h1
  obtain ⟨x1, e1, b1⟩ := opens_str Try.underlying9 _ _ _ h1
  have u1 : v1 = Value.string x1 := (List.cons.inj (show [v1] = [Value.string x1] from e1)).1
  refine ⟨⟨x0, x1⟩, ?_, b0, b1⟩
  show [v0, v1] = Rw.cells _
  simp only [Rw.cells]
  subst u0 u1
  rfl
end Go.Proofs.Ytlellgnklohclaa.L
