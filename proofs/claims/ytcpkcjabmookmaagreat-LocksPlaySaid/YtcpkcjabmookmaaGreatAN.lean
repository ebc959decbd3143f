/- The record of an act upon the locks' table. -/
import Derived.Test.YtcpkcjabmookmaaGreatJ1
namespace Go.Proofs.YtcpkcjabmookmaaGreat.L
open Go Go.Proofs
attribute [local irreducible] pv fv pt fz RowF RowO rowP old pure_ elA
set_option maxRecDepth 100000
set_option linter.unusedSimpArgs false
set_option linter.unusedVariables false

--%rec postelaw13.Act Act3
--%kd postelaw13.Act Kd.act3
--%sub postelaw13.Act api.Name 3 sub_act3_name nm_sz
structure Act3 where
  way : Int
  who : Int
  mode : Int
  name : Nm
def Act3.cells (x : Act3) : List Value := [.int .i64 x.way, .int .i64 x.who, .int .i64 x.mode, .int .i64 x.name.deep, .string x.name.object, .string x.name.row]
theorem act3_sz (x : Act3) : x.cells.length = 6 := rfl
theorem act3_one (x : Act3) : ∀ v ∈ x.cells, v.oneCell' = true := fun v h => by simp [Act3.cells] at h; rcases h with rfl | rfl | rfl | rfl | rfl | rfl <;> rfl
def Kd.act3 : Kd Act3 := Kd.flat 6 Act3.cells act3_sz act3_one
theorem q_as_act3 {X : Fx} {o : Oper} {E : Env} {L : List HP} {cs : List Value} {way_ : Int} {who_ : Int} {mode_ : Int} {name_deep : Int} {name_object : ByteArray} {name_row : ByteArray} (h : OpQ X o E L (.agg cs.toArray)) (e : cs = [.int .i64 way_, .int .i64 who_, .int .i64 mode_, .int .i64 name_deep, .string name_object, .string name_row]) : OpQ X o E L (.agg (Act3.cells ⟨way_, who_, mode_, ⟨name_deep, name_object, name_row⟩⟩).toArray) := q_as h e
theorem sub_act3_name : SubAt Act3.cells 3 Act3.name Nm.cells := fun x => ⟨(x.cells.drop 6), rfl⟩
theorem act3_ext {a b : Act3} : a = b ↔ a.way = b.way ∧ a.who = b.who ∧ a.mode = b.mode ∧ a.name = b.name := by cases a; cases b; simp
instance : DecidableEq Act3 := fun _ _ => decidable_of_iff _ act3_ext.symm
theorem act3_hp : Tryz.prog.stoodInHeld 33 = false := by kernel_rfl
theorem act3_hg : Tryz.prog.eqGuardType Tryz.prog.depth 33 = false := by kernel_rfl
theorem act3_eqD (a b : Act3) {fs : Array Field} (h : Tryz.prog.underlying 33 = some (.struct fs)) : EqG Tryz.prog a.cells b.cells fs.toList (decide (a = b)) := by
  rw [Tryz.underlying33] at h
  cases h
  have e : ((a.way == b.way) && ((a.who == b.who) && ((a.mode == b.mode) && (a.name.beq b.name && true)))) = decide (a = b) := by rw [Bool.eq_iff_iff, decide_eq_true_iff, act3_ext]; simp [bbeq, nm_beqD]
  rw [← e]
  exact (.cons rfl ck_3 rfl rfl (.int Tryz.underlying3) (.cons rfl ck_3 rfl rfl (.int Tryz.underlying3) (.cons rfl ck_3 rfl rfl (.int Tryz.underlying3) (.sub rfl ck_31 rfl rfl Tryz.underlying31 nm_hp (nm_eqF a.name b.name Tryz.underlying31) .nil))))
def Act3.fits (x : Act3) : Prop := (-9223372036854775808 ≤ x.way ∧ x.way ≤ 9223372036854775807) ∧ (-9223372036854775808 ≤ x.who ∧ x.who ≤ 9223372036854775807) ∧ (-9223372036854775808 ≤ x.mode ∧ x.mode ≤ 9223372036854775807) ∧ x.name.fits
theorem act3_len (cs : List Value) (h : cs.length = 6) : ∃ v0 v1 v2 v3 v4 v5, cs = [v0, v1, v2, v3, v4, v5] := by
  match cs, h with
  | [v0, v1, v2, v3, v4, v5], _ => exact ⟨v0, v1, v2, v3, v4, v5, rfl⟩
theorem opens_act3 {H : Type} {enc : TypeId × Value → H} {W : World} : Opens enc Tryz.prog W Kd.act3 33 Act3.fits := fun fuel cs y h => by
  obtain ⟨hl, n, hf⟩ := opens_fields Tryz.underlying33 h
  have hl2 : cs.length = 6 := hl.trans (by kernel_rfl)
  obtain ⟨v0, v1, v2, v3, v4, v5, rfl⟩ := act3_len cs hl2
  have capi_Name : Tryz.prog.cellsOf 31 = 3 := by kernel_rfl
  have cint : Tryz.prog.cellsOf 3 = 1 := by kernel_rfl
  obtain ⟨y0, h0⟩ := hf 0 _ rfl
  replace h0 : DataW.trod enc Tryz.prog W 0 (fun _ => true) true n 3 (([v0, v1, v2, v3, v4, v5].drop 0).take (Tryz.prog.cellsOf 3)) = some y0 := h0
  rw [cint] at h0
  obtain ⟨x0, e0, b0⟩ := opens_int Tryz.underlying3 _ _ _ h0
  have u0 : v0 = Value.int .i64 x0 := (List.cons.inj (show [v0] = [Value.int .i64 x0] from e0)).1
  obtain ⟨y1, h1⟩ := hf 1 _ rfl
  replace h1 : DataW.trod enc Tryz.prog W 0 (fun _ => true) true n 3 (([v0, v1, v2, v3, v4, v5].drop 1).take (Tryz.prog.cellsOf 3)) = some y1 := h1
  rw [cint] at h1
  obtain ⟨x1, e1, b1⟩ := opens_int Tryz.underlying3 _ _ _ h1
  have u1 : v1 = Value.int .i64 x1 := (List.cons.inj (show [v1] = [Value.int .i64 x1] from e1)).1
  obtain ⟨y2, h2⟩ := hf 2 _ rfl
  replace h2 : DataW.trod enc Tryz.prog W 0 (fun _ => true) true n 3 (([v0, v1, v2, v3, v4, v5].drop 2).take (Tryz.prog.cellsOf 3)) = some y2 := h2
  rw [cint] at h2
  obtain ⟨x2, e2, b2⟩ := opens_int Tryz.underlying3 _ _ _ h2
  have u2 : v2 = Value.int .i64 x2 := (List.cons.inj (show [v2] = [Value.int .i64 x2] from e2)).1
  obtain ⟨y3, h3⟩ := hf 3 _ rfl
  replace h3 : DataW.trod enc Tryz.prog W 0 (fun _ => true) true n 31 (([v0, v1, v2, v3, v4, v5].drop 3).take (Tryz.prog.cellsOf 31)) = some y3 := h3
  rw [capi_Name] at h3
  obtain ⟨x3, e3, b3⟩ := opens_nm _ _ _ h3
  have u3 : [v3, v4, v5] = x3.cells := e3
  refine ⟨⟨x0, x1, x2, x3⟩, ?_, b0, b1, b2, b3⟩
  show [v0, v1, v2, v3, v4, v5] = Act3.cells _
  simp only [Act3.cells]
  simp only [Nm.cells, List.cons.injEq, and_true] at u3
  obtain ⟨w3_0, w3_1, w3_2⟩ := u3
  subst w3_0 w3_1 w3_2
  subst u0 u1 u2
  rfl
end Go.Proofs.YtcpkcjabmookmaaGreat.L
