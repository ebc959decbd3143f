/- Changes (effects) as records. -/
import Derived.Test.YtlellgnklohclaaMD
namespace Go.Proofs.Ytlellgnklohclaa.L
open Go Go.Proofs
attribute [local irreducible] pv fv pt fz RowF RowO rowP old pure_ elA
set_option maxRecDepth 100000
set_option linter.unusedSimpArgs false
set_option linter.unusedVariables false
open Go.RowKit Go.ChangeShapes

/-- A change. -/
--%rec api.Effect Eff
--%kd api.Effect Kd.eff
--%sub api.Effect api.Msg 7 sub_eff_msg msg_sz
structure Eff where
  kind : Int
  object : ByteArray
  key : ByteArray
  value : ByteArray
  n : Int
  limit : Int
  tried : Bool
  msg : Msg
def Eff.cells (x : Eff) : List Value := [.int .i64 x.kind, .string x.object, .string x.key, .string x.value, .int .i64 x.n, .int .i64 x.limit, .bool x.tried, .int .i64 x.msg.id, .int .i64 x.msg.pri, .int .i64 x.msg.retry, .bool x.msg.claimed, .string x.msg.corr, .string x.msg.body]
theorem eff_sz (x : Eff) : x.cells.length = 13 := rfl
theorem eff_one (x : Eff) : ∀ v ∈ x.cells, v.oneCell' = true := fun v h => by simp [Eff.cells] at h; rcases h with rfl | rfl | rfl | rfl | rfl | rfl | rfl | rfl | rfl | rfl | rfl | rfl | rfl <;> rfl
def Kd.eff : Kd Eff := Kd.flat 13 Eff.cells eff_sz eff_one
theorem q_as_eff {X : Fx} {o : Oper} {E : Env} {L : List HP} {cs : List Value} {kind_ : Int} {object_ : ByteArray} {key_ : ByteArray} {value_ : ByteArray} {n_ : Int} {limit_ : Int} {tried_ : Bool} {msg_id : Int} {msg_pri : Int} {msg_retry : Int} {msg_claimed : Bool} {msg_corr : ByteArray} {msg_body : ByteArray} (h : OpQ X o E L (.agg cs.toArray)) (e : cs = [.int .i64 kind_, .string object_, .string key_, .string value_, .int .i64 n_, .int .i64 limit_, .bool tried_, .int .i64 msg_id, .int .i64 msg_pri, .int .i64 msg_retry, .bool msg_claimed, .string msg_corr, .string msg_body]) : OpQ X o E L (.agg (Eff.cells ⟨kind_, object_, key_, value_, n_, limit_, tried_, ⟨msg_id, msg_pri, msg_retry, msg_claimed, msg_corr, msg_body⟩⟩).toArray) := q_as h e
theorem sub_eff_msg : SubAt Eff.cells 7 Eff.msg Msg.cells := fun x => ⟨(x.cells.drop 13), rfl⟩
theorem eff_ext {a b : Eff} : a = b ↔ a.kind = b.kind ∧ a.object = b.object ∧ a.key = b.key ∧ a.value = b.value ∧ a.n = b.n ∧ a.limit = b.limit ∧ a.tried = b.tried ∧ a.msg = b.msg := by cases a; cases b; simp
instance : DecidableEq Eff := fun _ _ => decidable_of_iff _ eff_ext.symm
theorem eff_hp : Try.prog.stoodInHeld 63 = false := by kernel_rfl
theorem eff_hg : Try.prog.eqGuardType Try.prog.depth 63 = false := by kernel_rfl
theorem eff_eqD (a b : Eff) {fs : Array Field} (h : Try.prog.underlying 63 = some (.struct fs)) : EqG Try.prog a.cells b.cells fs.toList (decide (a = b)) := by
  rw [Try.underlying63] at h
  cases h
  have e : ((a.kind == b.kind) && ((a.object == b.object) && ((a.key == b.key) && ((a.value == b.value) && ((a.n == b.n) && ((a.limit == b.limit) && ((a.tried == b.tried) && (a.msg.beq b.msg && true)))))))) = decide (a = b) := by rw [Bool.eq_iff_iff, decide_eq_true_iff, eff_ext]; simp [bbeq, msg_beqD]
  rw [← e]
  exact (.cons rfl ck_3 rfl rfl (.int Try.underlying3) (.cons rfl ck_9 rfl rfl (.str Try.underlying9) (.cons rfl ck_9 rfl rfl (.str Try.underlying9) (.cons rfl ck_9 rfl rfl (.str Try.underlying9) (.cons rfl ck_3 rfl rfl (.int Try.underlying3) (.cons rfl ck_3 rfl rfl (.int Try.underlying3) (.cons rfl ck_4 rfl rfl (.bool Try.underlying4) (.sub rfl ck_24 rfl rfl Try.underlying24 msg_hp (msg_eqF a.msg b.msg Try.underlying24) .nil))))))))
def Eff.fits (x : Eff) : Prop := (-9223372036854775808 ≤ x.kind ∧ x.kind ≤ 9223372036854775807) ∧ (x.object.size : Int) ≤ 9223372036854775807 ∧ (x.key.size : Int) ≤ 9223372036854775807 ∧ (x.value.size : Int) ≤ 9223372036854775807 ∧ (-9223372036854775808 ≤ x.n ∧ x.n ≤ 9223372036854775807) ∧ (-9223372036854775808 ≤ x.limit ∧ x.limit ≤ 9223372036854775807) ∧ True ∧ x.msg.fits
theorem eff_len (cs : List Value) (h : cs.length = 13) : ∃ v0 v1 v2 v3 v4 v5 v6 v7 v8 v9 v10 v11 v12, cs = [v0, v1, v2, v3, v4, v5, v6, v7, v8, v9, v10, v11, v12] := by
  match cs, h with
  | [v0, v1, v2, v3, v4, v5, v6, v7, v8, v9, v10, v11, v12], _ => exact ⟨v0, v1, v2, v3, v4, v5, v6, v7, v8, v9, v10, v11, v12, rfl⟩
theorem opens_eff {H : Type} {enc : TypeId × Value → H} {W : World} : Opens enc Try.prog W Kd.eff 63 Eff.fits := fun fuel cs y h => by
  obtain ⟨hl, n, hf⟩ := opens_fields Try.underlying63 h
  have hl2 : cs.length = 13 := hl.trans (by kernel_rfl)
  obtain ⟨v0, v1, v2, v3, v4, v5, v6, v7, v8, v9, v10, v11, v12, rfl⟩ := eff_len cs hl2
  have capi_Msg : Try.prog.cellsOf 24 = 6 := by kernel_rfl
  have cbool : Try.prog.cellsOf 4 = 1 := by kernel_rfl
  have cint : Try.prog.cellsOf 3 = 1 := by kernel_rfl
  have cstring : Try.prog.cellsOf 9 = 1 := by kernel_rfl
  obtain ⟨y0, h0⟩ := hf 0 _ rfl
  replace h0 : DataW.trod enc Try.prog W 0 (fun _ => true) true n 3 (([v0, v1, v2, v3, v4, v5, v6, v7, v8, v9, v10, v11, v12].drop 0).take (Try.prog.cellsOf 3)) = some y0 := h0
  rw [cint] at h0
  obtain ⟨x0, e0, b0⟩ := opens_int Try.underlying3 _ _ _ h0
  have u0 : v0 = Value.int .i64 x0 := (List.cons.inj (show [v0] = [Value.int .i64 x0] from e0)).1
  obtain ⟨y1, h1⟩ := hf 1 _ rfl
  replace h1 : DataW.trod enc Try.prog W 0 (fun _ => true) true n 9 (([v0, v1, v2, v3, v4, v5, v6, v7, v8, v9, v10, v11, v12].drop 1).take (Try.prog.cellsOf 9)) = some y1 := h1
  rw [cstring] at h1
  obtain ⟨x1, e1, b1⟩ := opens_str Try.underlying9 _ _ _ h1
  have u1 : v1 = Value.string x1 := (List.cons.inj (show [v1] = [Value.string x1] from e1)).1
  obtain ⟨y2, h2⟩ := hf 2 _ rfl
  replace h2 : DataW.trod enc Try.prog W 0 (fun _ => true) true n 9 (([v0, v1, v2, v3, v4, v5, v6, v7, v8, v9, v10, v11, v12].drop 2).take (Try.prog.cellsOf 9)) = some y2 := h2
  rw [cstring] at h2
  obtain ⟨x2, e2, b2⟩ := opens_str Try.underlying9 _ _ _ h2
  have u2 : v2 = Value.string x2 := (List.cons.inj (show [v2] = [Value.string x2] from e2)).1
  obtain ⟨y3, h3⟩ := hf 3 _ rfl
  replace h3 : DataW.trod enc Try.prog W 0 (fun _ => true) true n 9 (([v0, v1, v2, v3, v4, v5, v6, v7, v8, v9, v10, v11, v12].drop 3).take (Try.prog.cellsOf 9)) = some y3 := h3
  rw [cstring] at h3
  obtain ⟨x3, e3, b3⟩ := opens_str Try.underlying9 _ _ _ h3
  have u3 : v3 = Value.string x3 := (List.cons.inj (show [v3] = [Value.string x3] from e3)).1
  obtain ⟨y4, h4⟩ := hf 4 _ rfl
  replace h4 : DataW.trod enc Try.prog W 0 (fun _ => true) true n 3 (([v0, v1, v2, v3, v4, v5, v6, v7, v8, v9, v10, v11, v12].drop 4).take (Try.prog.cellsOf 3)) = some y4 := h4
  rw [cint] at h4
  obtain ⟨x4, e4, b4⟩ := opens_int Try.underlying3 _ _ _ h4
  have u4 : v4 = Value.int .i64 x4 := (List.cons.inj (show [v4] = [Value.int .i64 x4] from e4)).1
  obtain ⟨y5, h5⟩ := hf 5 _ rfl
  replace h5 : DataW.trod enc Try.prog W 0 (fun _ => true) true n 3 (([v0, v1, v2, v3, v4, v5, v6, v7, v8, v9, v10, v11, v12].drop 5).take (Try.prog.cellsOf 3)) = some y5 := h5
  rw [cint] at h5
  obtain ⟨x5, e5, b5⟩ := opens_int Try.underlying3 _ _ _ h5
  have u5 : v5 = Value.int .i64 x5 := (List.cons.inj (show [v5] = [Value.int .i64 x5] from e5)).1
  obtain ⟨y6, h6⟩ := hf 6 _ rfl
  replace h6 : DataW.trod enc Try.prog W 0 (fun _ => true) true n 4 (([v0, v1, v2, v3, v4, v5, v6, v7, v8, v9, v10, v11, v12].drop 6).take (Try.prog.cellsOf 4)) = some y6 := h6
  rw [cbool] at h6
  obtain ⟨x6, e6, b6⟩ := opens_bool Try.underlying4 _ _ _ h6
  have u6 : v6 = Value.bool x6 := (List.cons.inj (show [v6] = [Value.bool x6] from e6)).1
  obtain ⟨y7, h7⟩ := hf 7 _ rfl
  replace h7 : DataW.trod enc Try.prog W 0 (fun _ => true) true n 24 (([v0, v1, v2, v3, v4, v5, v6, v7, v8, v9, v10, v11, v12].drop 7).take (Try.prog.cellsOf 24)) = some y7 := h7
  rw [capi_Msg] at h7
  obtain ⟨x7, e7, b7⟩ := opens_msg _ _ _ h7
  have u7 : [v7, v8, v9, v10, v11, v12] = x7.cells := e7
  refine ⟨⟨x0, x1, x2, x3, x4, x5, x6, x7⟩, ?_, b0, b1, b2, b3, b4, b5, b6, b7⟩
  show [v0, v1, v2, v3, v4, v5, v6, v7, v8, v9, v10, v11, v12] = Eff.cells _
  simp only [Eff.cells]
  simp only [Msg.cells, List.cons.injEq, and_true] at u7
  obtain ⟨w7_0, w7_1, w7_2, w7_3, w7_4, w7_5⟩ := u7
  subst w7_0 w7_1 w7_2 w7_3 w7_4 w7_5
  subst u0 u1 u2 u3 u4 u5 u6
  rfl
end Go.Proofs.Ytlellgnklohclaa.L
