/- Changes (effects) as records. Walks: which changes may be: small predicates, the change that a kind names, and both answers. Walks: which changes may be, the program's answer and the document's. Walks: which changes may be, the document's answer. -/
import Derived.Test.YthnmoiilaaoooaaGreatWM
import Derived.Test.YthnmoiilaaoooaaGreatLC
/-! Changes (effects) as records. -/
namespace Go.Proofs.YthnmoiilaaoooaaGreat.L
open Go Go.Proofs
attribute [local irreducible] pv fv pt fz RowF RowO rowP old pure_ elA
set_option maxRecDepth 100000
set_option linter.unusedSimpArgs false
set_option linter.unusedVariables false
open Go.RowKit Go.ChangeShapes

/-- A change. -/
--%rec api.Effect Eff
--%kd api.Effect Kd.eff
--%sub api.Effect api.Msg 7 sub_eff_msg msg_sz
structure Eff where
  kind : Int
  object : ByteArray
  key : ByteArray
  value : ByteArray
  n : Int
  limit : Int
  tried : Bool
  msg : Msg
def Eff.cells (x : Eff) : List Value := [.int .i64 x.kind, .string x.object, .string x.key, .string x.value, .int .i64 x.n, .int .i64 x.limit, .bool x.tried, .int .i64 x.msg.id, .int .i64 x.msg.pri, .int .i64 x.msg.retry, .bool x.msg.claimed, .string x.msg.corr, .string x.msg.body]
theorem eff_sz (x : Eff) : x.cells.length = 13 := rfl
theorem eff_one (x : Eff) : ∀ v ∈ x.cells, v.oneCell' = true := fun v h => by simp [Eff.cells] at h; rcases h with rfl | rfl | rfl | rfl | rfl | rfl | rfl | rfl | rfl | rfl | rfl | rfl | rfl <;> rfl
def Kd.eff : Kd Eff := Kd.flat 13 Eff.cells eff_sz eff_one
theorem q_as_eff {X : Fx} {o : Oper} {E : Env} {L : List HP} {cs : List Value} {kind_ : Int} {object_ : ByteArray} {key_ : ByteArray} {value_ : ByteArray} {n_ : Int} {limit_ : Int} {tried_ : Bool} {msg_id : Int} {msg_pri : Int} {msg_retry : Int} {msg_claimed : Bool} {msg_corr : ByteArray} {msg_body : ByteArray} (h : OpQ X o E L (.agg cs.toArray)) (e : cs = [.int .i64 kind_, .string object_, .string key_, .string value_, .int .i64 n_, .int .i64 limit_, .bool tried_, .int .i64 msg_id, .int .i64 msg_pri, .int .i64 msg_retry, .bool msg_claimed, .string msg_corr, .string msg_body]) : OpQ X o E L (.agg (Eff.cells ⟨kind_, object_, key_, value_, n_, limit_, tried_, ⟨msg_id, msg_pri, msg_retry, msg_claimed, msg_corr, msg_body⟩⟩).toArray) := q_as h e
theorem sub_eff_msg : SubAt Eff.cells 7 Eff.msg Msg.cells := fun x => ⟨(x.cells.drop 13), rfl⟩
theorem eff_ext {a b : Eff} : a = b ↔ a.kind = b.kind ∧ a.object = b.object ∧ a.key = b.key ∧ a.value = b.value ∧ a.n = b.n ∧ a.limit = b.limit ∧ a.tried = b.tried ∧ a.msg = b.msg := by cases a; cases b; simp
instance : DecidableEq Eff := fun _ _ => decidable_of_iff _ eff_ext.symm
theorem eff_hp : Tryz.prog.stoodInHeld 80 = false := by kernel_rfl
theorem eff_hg : Tryz.prog.eqGuardType Tryz.prog.depth 80 = false := by kernel_rfl
theorem eff_eqD (a b : Eff) {fs : Array Field} (h : Tryz.prog.underlying 80 = some (.struct fs)) : EqG Tryz.prog a.cells b.cells fs.toList (decide (a = b)) := by
  rw [Tryz.underlying80] at h
  cases h
  have e : ((a.kind == b.kind) && ((a.object == b.object) && ((a.key == b.key) && ((a.value == b.value) && ((a.n == b.n) && ((a.limit == b.limit) && ((a.tried == b.tried) && (a.msg.beq b.msg && true)))))))) = decide (a = b) := by rw [Bool.eq_iff_iff, decide_eq_true_iff, eff_ext]; simp [bbeq, msg_beqD]
  rw [← e]
  exact (.cons rfl ck_3 rfl rfl (.int Tryz.underlying3) (.cons rfl ck_9 rfl rfl (.str Tryz.underlying9) (.cons rfl ck_9 rfl rfl (.str Tryz.underlying9) (.cons rfl ck_9 rfl rfl (.str Tryz.underlying9) (.cons rfl ck_3 rfl rfl (.int Tryz.underlying3) (.cons rfl ck_3 rfl rfl (.int Tryz.underlying3) (.cons rfl ck_4 rfl rfl (.bool Tryz.underlying4) (.sub rfl ck_39 rfl rfl Tryz.underlying39 msg_hp (msg_eqF a.msg b.msg Tryz.underlying39) .nil))))))))
def Eff.fits (x : Eff) : Prop := (-9223372036854775808 ≤ x.kind ∧ x.kind ≤ 9223372036854775807) ∧ (x.object.size : Int) ≤ 9223372036854775807 ∧ (x.key.size : Int) ≤ 9223372036854775807 ∧ (x.value.size : Int) ≤ 9223372036854775807 ∧ (-9223372036854775808 ≤ x.n ∧ x.n ≤ 9223372036854775807) ∧ (-9223372036854775808 ≤ x.limit ∧ x.limit ≤ 9223372036854775807) ∧ True ∧ x.msg.fits
theorem eff_len (cs : List Value) (h : cs.length = 13) : ∃ v0 v1 v2 v3 v4 v5 v6 v7 v8 v9 v10 v11 v12, cs = [v0, v1, v2, v3, v4, v5, v6, v7, v8, v9, v10, v11, v12] := by
  match cs, h with
  | [v0, v1, v2, v3, v4, v5, v6, v7, v8, v9, v10, v11, v12], _ => exact ⟨v0, v1, v2, v3, v4, v5, v6, v7, v8, v9, v10, v11, v12, rfl⟩
theorem opens_eff {H : Type} {enc : TypeId × Value → H} {W : World} : Opens enc Tryz.prog W Kd.eff 80 Eff.fits := fun fuel cs y h => by
  obtain ⟨hl, n, hf⟩ := opens_fields Tryz.underlying80 h
  have hl2 : cs.length = 13 := hl.trans (by kernel_rfl)
  obtain ⟨v0, v1, v2, v3, v4, v5, v6, v7, v8, v9, v10, v11, v12, rfl⟩ := eff_len cs hl2
  have capi_Msg : Tryz.prog.cellsOf 39 = 6 := by kernel_rfl
  have cbool : Tryz.prog.cellsOf 4 = 1 := by kernel_rfl
  have cint : Tryz.prog.cellsOf 3 = 1 := by kernel_rfl
  have cstring : Tryz.prog.cellsOf 9 = 1 := by kernel_rfl
  obtain ⟨y0, h0⟩ := hf 0 _ rfl
  replace h0 : DataW.trod enc Tryz.prog W 0 (fun _ => true) true n 3 (([v0, v1, v2, v3, v4, v5, v6, v7, v8, v9, v10, v11, v12].drop 0).take (Tryz.prog.cellsOf 3)) = some y0 := h0
  rw [cint] at h0
  obtain ⟨x0, e0, b0⟩ := opens_int Tryz.underlying3 _ _ _ h0
  have u0 : v0 = Value.int .i64 x0 := (List.cons.inj (show [v0] = [Value.int .i64 x0] from e0)).1
  obtain ⟨y1, h1⟩ := hf 1 _ rfl
  replace h1 : DataW.trod enc Tryz.prog W 0 (fun _ => true) true n 9 (([v0, v1, v2, v3, v4, v5, v6, v7, v8, v9, v10, v11, v12].drop 1).take (Tryz.prog.cellsOf 9)) = some y1 := h1
  rw [cstring] at h1
  obtain ⟨x1, e1, b1⟩ := opens_str Tryz.underlying9 _ _ _ h1
  have u1 : v1 = Value.string x1 := (List.cons.inj (show [v1] = [Value.string x1] from e1)).1
  obtain ⟨y2, h2⟩ := hf 2 _ rfl
  replace h2 : DataW.trod enc Tryz.prog W 0 (fun _ => true) true n 9 (([v0, v1, v2, v3, v4, v5, v6, v7, v8, v9, v10, v11, v12].drop 2).take (Tryz.prog.cellsOf 9)) = some y2 := h2
  rw [cstring] at h2
  obtain ⟨x2, e2, b2⟩ := opens_str Tryz.underlying9 _ _ _ h2
  have u2 : v2 = Value.string x2 := (List.cons.inj (show [v2] = [Value.string x2] from e2)).1
  obtain ⟨y3, h3⟩ := hf 3 _ rfl
  replace h3 : DataW.trod enc Tryz.prog W 0 (fun _ => true) true n 9 (([v0, v1, v2, v3, v4, v5, v6, v7, v8, v9, v10, v11, v12].drop 3).take (Tryz.prog.cellsOf 9)) = some y3 := h3
  rw [cstring] at h3
  obtain ⟨x3, e3, b3⟩ := opens_str Tryz.underlying9 _ _ _ h3
  have u3 : v3 = Value.string x3 := (List.cons.inj (show [v3] = [Value.string x3] from e3)).1
  obtain ⟨y4, h4⟩ := hf 4 _ rfl
  replace h4 : DataW.trod enc Tryz.prog W 0 (fun _ => true) true n 3 (([v0, v1, v2, v3, v4, v5, v6, v7, v8, v9, v10, v11, v12].drop 4).take (Tryz.prog.cellsOf 3)) = some y4 := h4
  rw [cint] at h4
  obtain ⟨x4, e4, b4⟩ := opens_int Tryz.underlying3 _ _ _ h4
  have u4 : v4 = Value.int .i64 x4 := (List.cons.inj (show [v4] = [Value.int .i64 x4] from e4)).1
  obtain ⟨y5, h5⟩ := hf 5 _ rfl
  replace h5 : DataW.trod enc Tryz.prog W 0 (fun _ => true) true n 3 (([v0, v1, v2, v3, v4, v5, v6, v7, v8, v9, v10, v11, v12].drop 5).take (Tryz.prog.cellsOf 3)) = some y5 := h5
  rw [cint] at h5
  obtain ⟨x5, e5, b5⟩ := opens_int Tryz.underlying3 _ _ _ h5
  have u5 : v5 = Value.int .i64 x5 := (List.cons.inj (show [v5] = [Value.int .i64 x5] from e5)).1
  obtain ⟨y6, h6⟩ := hf 6 _ rfl
  replace h6 : DataW.trod enc Tryz.prog W 0 (fun _ => true) true n 4 (([v0, v1, v2, v3, v4, v5, v6, v7, v8, v9, v10, v11, v12].drop 6).take (Tryz.prog.cellsOf 4)) = some y6 := h6
  rw [cbool] at h6
  obtain ⟨x6, e6, b6⟩ := opens_bool Tryz.underlying4 _ _ _ h6
  have u6 : v6 = Value.bool x6 := (List.cons.inj (show [v6] = [Value.bool x6] from e6)).1
  obtain ⟨y7, h7⟩ := hf 7 _ rfl
  replace h7 : DataW.trod enc Tryz.prog W 0 (fun _ => true) true n 39 (([v0, v1, v2, v3, v4, v5, v6, v7, v8, v9, v10, v11, v12].drop 7).take (Tryz.prog.cellsOf 39)) = some y7 := h7
  rw [capi_Msg] at h7
  obtain ⟨x7, e7, b7⟩ := opens_msg _ _ _ h7
  have u7 : [v7, v8, v9, v10, v11, v12] = x7.cells := e7
  refine ⟨⟨x0, x1, x2, x3, x4, x5, x6, x7⟩, ?_, b0, b1, b2, b3, b4, b5, b6, b7⟩
  show [v0, v1, v2, v3, v4, v5, v6, v7, v8, v9, v10, v11, v12] = Eff.cells _
  simp only [Eff.cells]
  simp only [Msg.cells, List.cons.injEq, and_true] at u7
  obtain ⟨w7_0, w7_1, w7_2, w7_3, w7_4, w7_5⟩ := u7
  subst w7_0 w7_1 w7_2 w7_3 w7_4 w7_5
  subst u0 u1 u2 u3 u4 u5 u6
  rfl
end Go.Proofs.YthnmoiilaaoooaaGreat.L
/-! Walks: which changes may be: small predicates, the change that a kind names, and both answers. -/
namespace Go.Proofs.YthnmoiilaaoooaaGreat.L
open Go Go.Proofs
attribute [local irreducible] pv fv pt fz RowF RowO rowP old pure_ elA
set_option maxRecDepth 100000
set_option linter.unusedSimpArgs false
set_option linter.unusedVariables false

def effName (s : ByteArray) : Bool := decide (1 ≤ (s.size : Int)) && decide ((s.size : Int) ≤ 16)
def effKind (k l : Int) : Bool := if k = 1 then decide (l = 0) else if k = 2 then decide (1 ≤ l) && decide (l ≤ 1000) else false
def effId (n : Int) : Bool := decide (1 ≤ n) && decide (n ≤ 1099511627776)
def rwKey (k : ByteArray) : Bool := decide (1 ≤ (k.size : Int)) && decide ((k.size : Int) ≤ 40)
def Rw.right (r : Rw) : Bool := rwKey r.key && decide ((r.value.size : Int) ≤ 100)
def Eff.named (e : Eff) : Eff :=
  let z : Eff := ⟨e.kind, e.object, ⟨#[]⟩, ⟨#[]⟩, 0, 0, false, ⟨0, 0, 0, false, ⟨#[]⟩, ⟨#[]⟩⟩⟩
  if e.kind = 1 then { z with n := e.n, limit := e.limit }
  else if e.kind = 2 then { z with key := e.key, value := e.value }
  else if e.kind = 3 then { z with key := e.key }
  else if e.kind = 4 then { z with msg := e.msg }
  else if e.kind = 5 ∨ e.kind = 6 then { z with n := e.n }
  else if e.kind = 7 then { z with n := e.n, tried := e.tried }
  else if e.kind = 8 then { z with object := ⟨#[]⟩, n := e.n }
  else z
def Eff.rightK (e : Eff) : Bool :=
  if e.kind = 1 then effName e.object && effKind e.n e.limit
  else if e.kind = 2 then effName e.object && Rw.right ⟨e.key, e.value⟩
  else if e.kind = 3 then effName e.object && rwKey e.key
  else if e.kind = 4 then effName e.object && e.msg.right
  else if e.kind = 5 ∨ e.kind = 6 ∨ e.kind = 7 then effName e.object && effId e.n
  else if e.kind = 8 then effId e.n
  else false
def Eff.right (e : Eff) : Bool := decide (e = e.named) && e.rightK
--%call poste/message.Right := msg_Right _
--%call poste/posteref14.RightMsg := ref_Right _
--%call poste/effect.Name := eff_Name _
theorem eff_Name (s : ByteArray) : Fn Tryz.prog 73 [.string s].toArray [] (fun v post => v = .bool (effName s) ∧ post = []) := by
  refine Fn.enter (N := 11) Tryz.func73 rfl Tryz.ntmps73 (by kernel_rfl) rfl (fun ρ L => ?_)
  refine K.seq ?_
  refine K.region ?_
  refine KO.q rfl (q_assign rfl) ?_
  refine KO.done ?_
  refine K.seq ?_
  refine K.region ?_
  refine KO.q rfl (q_move rfl) ?_
  refine KO.q rfl (q_lenS Tryz.underlying9 rfl) ?_
  refine KO.q rfl (q_ge rfl rfl) ?_
  refine KO.q rfl (q_move rfl) ?_
  refine KO.dsplit 6 rfl (fun g6 => ?_) (fun g6 => ?_)
  · refine KO.q rfl (q_move rfl) ?_
    refine KO.q rfl (q_lenS Tryz.underlying9 rfl) ?_
    refine KO.q rfl (q_le rfl rfl) ?_
    refine KO.q rfl (q_pickT rfl rfl) ?_
    refine KO.q rfl (q_assign rfl) ?_
    refine KO.done ?_
    refine K.ret (fn := Tryz.f73) Tryz.func73 (fun a w hk hs => res1 Tryz.results73 hk rfl) (fun w hs => ?_)
    exact ⟨_, [], rfl, ⟨by simp [effName, *], rfl⟩, hs⟩
  · refine KO.skip rfl ?_
    refine KO.skip rfl ?_
    refine KO.skip rfl ?_
    refine KO.q rfl (q_pickF rfl rfl) ?_
    refine KO.q rfl (q_assign rfl) ?_
    refine KO.done ?_
    refine K.ret (fn := Tryz.f73) Tryz.func73 (fun a w hk hs => res1 Tryz.results73 hk rfl) (fun w hs => ?_)
    exact ⟨_, [], rfl, ⟨by simp [effName, *], rfl⟩, hs⟩
--%call poste/posteref14.name := ref_name _
theorem ref_name (s : ByteArray) : Fn Tryz.prog 12 [.string s].toArray [] (fun v post => v = .bool (effName s) ∧ post = []) := by
  refine Fn.enter (N := 11) Tryz.func12 rfl Tryz.ntmps12 (by kernel_rfl) rfl (fun ρ L => ?_)
  refine K.seq ?_
  refine K.region ?_
  refine KO.q rfl (q_assign rfl) ?_
  refine KO.done ?_
  refine K.seq ?_
  refine K.region ?_
  refine KO.q rfl (q_move rfl) ?_
  refine KO.q rfl (q_lenS Tryz.underlying9 rfl) ?_
  refine KO.q rfl (q_ge rfl rfl) ?_
  refine KO.q rfl (q_move rfl) ?_
  refine KO.dsplit 6 rfl (fun g6 => ?_) (fun g6 => ?_)
  · refine KO.q rfl (q_move rfl) ?_
    refine KO.q rfl (q_lenS Tryz.underlying9 rfl) ?_
    refine KO.q rfl (q_le rfl rfl) ?_
    refine KO.q rfl (q_pickT rfl rfl) ?_
    refine KO.q rfl (q_assign rfl) ?_
    refine KO.done ?_
    refine K.ret (fn := Tryz.f12) Tryz.func12 (fun a w hk hs => res1 Tryz.results12 hk rfl) (fun w hs => ?_)
    exact ⟨_, [], rfl, ⟨by simp [effName, *], rfl⟩, hs⟩
  · refine KO.skip rfl ?_
    refine KO.skip rfl ?_
    refine KO.skip rfl ?_
    refine KO.q rfl (q_pickF rfl rfl) ?_
    refine KO.q rfl (q_assign rfl) ?_
    refine KO.done ?_
    refine K.ret (fn := Tryz.f12) Tryz.func12 (fun a w hk hs => res1 Tryz.results12 hk rfl) (fun w hs => ?_)
    exact ⟨_, [], rfl, ⟨by simp [effName, *], rfl⟩, hs⟩
--%call poste/effect.id := eff_id _
theorem eff_id (n : Int) : Fn Tryz.prog 75 [.int .i64 n].toArray [] (fun v post => v = .bool (effId n) ∧ post = []) := by
  refine Fn.enter (N := 9) Tryz.func75 rfl Tryz.ntmps75 (by kernel_rfl) rfl (fun ρ L => ?_)
  refine K.seq ?_
  refine K.region ?_
  refine KO.q rfl (q_assign rfl) ?_
  refine KO.done ?_
  refine K.seq ?_
  refine K.region ?_
  refine KO.q rfl (q_move rfl) ?_
  refine KO.q rfl (q_ge rfl rfl) ?_
  refine KO.q rfl (q_move rfl) ?_
  refine KO.dsplit 5 rfl (fun g5 => ?_) (fun g5 => ?_)
  · refine KO.q rfl (q_move rfl) ?_
    refine KO.q rfl (q_le rfl rfl) ?_
    refine KO.q rfl (q_pickT rfl rfl) ?_
    refine KO.q rfl (q_assign rfl) ?_
    refine KO.done ?_
    refine K.ret (fn := Tryz.f75) Tryz.func75 (fun a w hk hs => res1 Tryz.results75 hk rfl) (fun w hs => ?_)
    exact ⟨_, [], rfl, ⟨by simp [effId, *], rfl⟩, hs⟩
  · refine KO.skip rfl ?_
    refine KO.skip rfl ?_
    refine KO.q rfl (q_pickF rfl rfl) ?_
    refine KO.q rfl (q_assign rfl) ?_
    refine KO.done ?_
    refine K.ret (fn := Tryz.f75) Tryz.func75 (fun a w hk hs => res1 Tryz.results75 hk rfl) (fun w hs => ?_)
    exact ⟨_, [], rfl, ⟨by simp [effId, *], rfl⟩, hs⟩
--%call poste/effect.Object := eff_Object _ _ _
theorem eff_Object (s : ByteArray) (k l : Int) : Fn Tryz.prog 61 [.string s, .int .i64 k, .int .i64 l].toArray [] (fun v post => v = .bool (effName s && effKind k l) ∧ post = []) := by
  refine Fn.enter (N := 23) Tryz.func61 rfl Tryz.ntmps61 (by kernel_rfl) rfl (fun ρ L => ?_)
  refine K.seq ?_
  refine K.region ?_
  refine KO.q rfl (q_assign rfl) ?_
  refine KO.done ?_
  refine K.seq <| K.seq ?_
  refine K.region ?_
  refine KO.q rfl (q_move rfl) ?_
  refine KO.loud rfl (OpL.callD rfl (h := eff_Name _)) ?_
  rintro _ _ ⟨_, ⟨rfl, rfl⟩, rfl⟩
  refine KO.q rfl (q_not rfl) ?_
  refine KO.done ?_
  refine K.bcond (s := 9) rfl (fun g9 => ?_) (fun g9 => ?_)
  · refine K.seq ?_
    refine K.region ?_
    refine KO.q rfl (q_assign rfl) ?_
    refine KO.done ?_
    refine K.ret (fn := Tryz.f61) Tryz.func61 (fun a w hk hs => res1 Tryz.results61 hk rfl) (fun w hs => ?_)
    exact ⟨_, [], rfl, ⟨by simp_all [effKind] <;> omega, rfl⟩, hs⟩
  · refine K.skip <| K.seq <| K.seq ?_
    refine K.region ?_
    refine KO.q rfl (q_move rfl) ?_
    refine KO.done ?_
    refine K.block <| K.seq ?_
    refine K.region ?_
    refine KO.q rfl (q_eq rfl rfl) ?_
    refine KO.q rfl (q_assign rfl) ?_
    refine KO.done ?_
    refine K.dcond (s := 11) rfl (fun g11 => ?_) (fun g11 => ?_)
    · refine K.seq ?_
      refine K.region ?_
      refine KO.q rfl (q_move rfl) ?_
      refine KO.q rfl (q_eq rfl rfl) ?_
      refine KO.q rfl (q_assign rfl) ?_
      refine KO.done ?_
      refine K.ret (fn := Tryz.f61) Tryz.func61 (fun a w hk hs => res1 Tryz.results61 hk rfl) (fun w hs => ?_)
      exact ⟨_, [], rfl, ⟨by simp_all [effKind] <;> omega, rfl⟩, hs⟩
    · refine K.seq ?_
      refine K.region ?_
      refine KO.q rfl (q_eq rfl rfl) ?_
      refine KO.q rfl (q_assign rfl) ?_
      refine KO.done ?_
      refine K.dcond (s := 15) rfl (fun g15 => ?_) (fun g15 => ?_)
      · refine K.seq ?_
        refine K.region ?_
        refine KO.q rfl (q_move rfl) ?_
        refine KO.q rfl (q_ge rfl rfl) ?_
        refine KO.q rfl (q_move rfl) ?_
        refine KO.dsplit 19 rfl (fun g19 => ?_) (fun g19 => ?_)
        · refine KO.q rfl (q_move rfl) ?_
          refine KO.q rfl (q_le rfl rfl) ?_
          refine KO.q rfl (q_pickT rfl rfl) ?_
          refine KO.q rfl (q_assign rfl) ?_
          refine KO.done ?_
          refine K.ret (fn := Tryz.f61) Tryz.func61 (fun a w hk hs => res1 Tryz.results61 hk rfl) (fun w hs => ?_)
          exact ⟨_, [], rfl, ⟨by simp_all [effKind] <;> omega, rfl⟩, hs⟩
        · refine KO.skip rfl ?_
          refine KO.skip rfl ?_
          refine KO.q rfl (q_pickF rfl rfl) ?_
          refine KO.q rfl (q_assign rfl) ?_
          refine KO.done ?_
          refine K.ret (fn := Tryz.f61) Tryz.func61 (fun a w hk hs => res1 Tryz.results61 hk rfl) (fun w hs => ?_)
          exact ⟨_, [], rfl, ⟨by simp_all [effKind] <;> omega, rfl⟩, hs⟩
      · refine K.skip <| K.inBlock <| K.seq ?_
        refine K.region ?_
        refine KO.q rfl (q_assign rfl) ?_
        refine KO.done ?_
        refine K.ret (fn := Tryz.f61) Tryz.func61 (fun a w hk hs => res1 Tryz.results61 hk rfl) (fun w hs => ?_)
        exact ⟨_, [], rfl, ⟨by simp_all [effKind] <;> omega, rfl⟩, hs⟩
--%call poste/posteref14.kind := ref_kind _ _
theorem ref_kind (k l : Int) : Fn Tryz.prog 13 [.int .i64 k, .int .i64 l].toArray [] (fun v post => v = .bool (effKind k l) ∧ post = []) := by
  refine Fn.enter (N := 23) Tryz.func13 rfl Tryz.ntmps13 (by kernel_rfl) rfl (fun ρ L => ?_)
  refine K.seq ?_
  refine K.region ?_
  refine KO.q rfl (q_assign rfl) ?_
  refine KO.done ?_
  refine K.seq ?_
  refine K.region ?_
  refine KO.q rfl (q_move rfl) ?_
  refine KO.q rfl (q_eq rfl rfl) ?_
  refine KO.q rfl (q_move rfl) ?_
  refine KO.dsplit 7 rfl (fun g7 => ?_) (fun g7 => ?_)
  · refine KO.q rfl (q_move rfl) ?_
    refine KO.q rfl (q_eq rfl rfl) ?_
    refine KO.q rfl (q_pickT rfl rfl) ?_
    refine KO.q rfl (q_move rfl) ?_
    refine KO.dsplit 11 rfl (fun g11 => ?_) (fun g11 => ?_)
    · refine KO.skip rfl ?_
      refine KO.skip rfl ?_
      refine KO.skip rfl ?_
      refine KO.gone rfl ?_
      refine KO.gone rfl ?_
      refine KO.skip rfl ?_
      refine KO.skip rfl ?_
      refine KO.gone rfl ?_
      refine KO.gone rfl ?_
      refine KO.skip rfl ?_
      refine KO.q rfl (q_pickT rfl rfl) ?_
      refine KO.q rfl (q_assign rfl) ?_
      refine KO.done ?_
      refine K.ret (fn := Tryz.f13) Tryz.func13 (fun a w hk hs => res1 Tryz.results13 hk rfl) (fun w hs => ?_)
      exact ⟨_, [], rfl, ⟨by simp [effKind] <;> first | (simp_all; done) | (split <;> simp_all <;> omega) | omega, rfl⟩, hs⟩
    · refine KO.q rfl (q_move rfl) ?_
      refine KO.q rfl (q_eq rfl rfl) ?_
      refine KO.q rfl (q_move rfl) ?_
      refine KO.dsplit 14 rfl (fun g14 => ?_) (fun g14 => ?_)
      · refine KO.q rfl (q_move rfl) ?_
        refine KO.q rfl (q_ge rfl rfl) ?_
        refine KO.q rfl (q_pickT rfl rfl) ?_
        refine KO.q rfl (q_move rfl) ?_
        refine KO.dsplit 18 rfl (fun g18 => ?_) (fun g18 => ?_)
        · refine KO.q rfl (q_move rfl) ?_
          refine KO.q rfl (q_le rfl rfl) ?_
          refine KO.q rfl (q_pickT rfl rfl) ?_
          refine KO.q rfl (q_pickF rfl rfl) ?_
          refine KO.q rfl (q_assign rfl) ?_
          refine KO.done ?_
          refine K.ret (fn := Tryz.f13) Tryz.func13 (fun a w hk hs => res1 Tryz.results13 hk rfl) (fun w hs => ?_)
          exact ⟨_, [], rfl, ⟨by simp [effKind] <;> first | (simp_all; done) | (split <;> simp_all <;> omega) | omega, rfl⟩, hs⟩
        · refine KO.skip rfl ?_
          refine KO.skip rfl ?_
          refine KO.q rfl (q_pickF rfl rfl) ?_
          refine KO.q rfl (q_pickF rfl rfl) ?_
          refine KO.q rfl (q_assign rfl) ?_
          refine KO.done ?_
          refine K.ret (fn := Tryz.f13) Tryz.func13 (fun a w hk hs => res1 Tryz.results13 hk rfl) (fun w hs => ?_)
          exact ⟨_, [], rfl, ⟨by simp [effKind] <;> first | (simp_all; done) | (split <;> simp_all <;> omega) | omega, rfl⟩, hs⟩
      · refine KO.skip rfl ?_
        refine KO.skip rfl ?_
        refine KO.q rfl (q_pickF rfl rfl) ?_
        refine KO.q rfl (q_move rfl) ?_
        refine KO.skip rfl ?_
        refine KO.skip rfl ?_
        refine KO.q rfl (q_pickF rfl rfl) ?_
        refine KO.q rfl (q_pickF rfl rfl) ?_
        refine KO.q rfl (q_assign rfl) ?_
        refine KO.done ?_
        refine K.ret (fn := Tryz.f13) Tryz.func13 (fun a w hk hs => res1 Tryz.results13 hk rfl) (fun w hs => ?_)
        exact ⟨_, [], rfl, ⟨by simp [effKind] <;> first | (simp_all; done) | (split <;> simp_all <;> omega) | omega, rfl⟩, hs⟩
  · refine KO.skip rfl ?_
    refine KO.skip rfl ?_
    refine KO.q rfl (q_pickF rfl rfl) ?_
    refine KO.q rfl (q_move rfl) ?_
    refine KO.q rfl (q_move rfl) ?_
    refine KO.q rfl (q_eq rfl rfl) ?_
    refine KO.q rfl (q_move rfl) ?_
    refine KO.dsplit 14 rfl (fun g14 => ?_) (fun g14 => ?_)
    · refine KO.q rfl (q_move rfl) ?_
      refine KO.q rfl (q_ge rfl rfl) ?_
      refine KO.q rfl (q_pickT rfl rfl) ?_
      refine KO.q rfl (q_move rfl) ?_
      refine KO.dsplit 18 rfl (fun g18 => ?_) (fun g18 => ?_)
      · refine KO.q rfl (q_move rfl) ?_
        refine KO.q rfl (q_le rfl rfl) ?_
        refine KO.q rfl (q_pickT rfl rfl) ?_
        refine KO.q rfl (q_pickF rfl rfl) ?_
        refine KO.q rfl (q_assign rfl) ?_
        refine KO.done ?_
        refine K.ret (fn := Tryz.f13) Tryz.func13 (fun a w hk hs => res1 Tryz.results13 hk rfl) (fun w hs => ?_)
        exact ⟨_, [], rfl, ⟨by simp [effKind] <;> first | (simp_all; done) | (split <;> simp_all <;> omega) | omega, rfl⟩, hs⟩
      · refine KO.skip rfl ?_
        refine KO.skip rfl ?_
        refine KO.q rfl (q_pickF rfl rfl) ?_
        refine KO.q rfl (q_pickF rfl rfl) ?_
        refine KO.q rfl (q_assign rfl) ?_
        refine KO.done ?_
        refine K.ret (fn := Tryz.f13) Tryz.func13 (fun a w hk hs => res1 Tryz.results13 hk rfl) (fun w hs => ?_)
        exact ⟨_, [], rfl, ⟨by simp [effKind] <;> first | (simp_all; done) | (split <;> simp_all <;> omega) | omega, rfl⟩, hs⟩
    · refine KO.skip rfl ?_
      refine KO.skip rfl ?_
      refine KO.q rfl (q_pickF rfl rfl) ?_
      refine KO.q rfl (q_move rfl) ?_
      refine KO.skip rfl ?_
      refine KO.skip rfl ?_
      refine KO.q rfl (q_pickF rfl rfl) ?_
      refine KO.q rfl (q_pickF rfl rfl) ?_
      refine KO.q rfl (q_assign rfl) ?_
      refine KO.done ?_
      refine K.ret (fn := Tryz.f13) Tryz.func13 (fun a w hk hs => res1 Tryz.results13 hk rfl) (fun w hs => ?_)
      exact ⟨_, [], rfl, ⟨by simp [effKind] <;> first | (simp_all; done) | (split <;> simp_all <;> omega) | omega, rfl⟩, hs⟩
--%call poste/rows.Key := rw_Key _
theorem rw_Key (s : ByteArray) : Fn Tryz.prog 74 [.string s].toArray [] (fun v post => v = .bool (rwKey s) ∧ post = []) := by
  refine Fn.enter (N := 11) Tryz.func74 rfl Tryz.ntmps74 (by kernel_rfl) rfl (fun ρ L => ?_)
  refine K.seq ?_
  refine K.region ?_
  refine KO.q rfl (q_assign rfl) ?_
  refine KO.done ?_
  refine K.seq ?_
  refine K.region ?_
  refine KO.q rfl (q_move rfl) ?_
  refine KO.q rfl (q_lenS Tryz.underlying9 rfl) ?_
  refine KO.q rfl (q_ge rfl rfl) ?_
  refine KO.q rfl (q_move rfl) ?_
  refine KO.dsplit 6 rfl (fun g6 => ?_) (fun g6 => ?_)
  · refine KO.q rfl (q_move rfl) ?_
    refine KO.q rfl (q_lenS Tryz.underlying9 rfl) ?_
    refine KO.q rfl (q_le rfl rfl) ?_
    refine KO.q rfl (q_pickT rfl rfl) ?_
    refine KO.q rfl (q_assign rfl) ?_
    refine KO.done ?_
    refine K.ret (fn := Tryz.f74) Tryz.func74 (fun a w hk hs => res1 Tryz.results74 hk rfl) (fun w hs => ?_)
    exact ⟨_, [], rfl, ⟨by simp [rwKey, *], rfl⟩, hs⟩
  · refine KO.skip rfl ?_
    refine KO.skip rfl ?_
    refine KO.skip rfl ?_
    refine KO.q rfl (q_pickF rfl rfl) ?_
    refine KO.q rfl (q_assign rfl) ?_
    refine KO.done ?_
    refine K.ret (fn := Tryz.f74) Tryz.func74 (fun a w hk hs => res1 Tryz.results74 hk rfl) (fun w hs => ?_)
    exact ⟨_, [], rfl, ⟨by simp [rwKey, *], rfl⟩, hs⟩
--%call poste/rows.Right := rw_Right _
theorem rw_Right (r : Rw) : Fn Tryz.prog 65 [.agg r.cells.toArray].toArray [] (fun v post => v = .bool r.right ∧ post = []) := by
  refine Fn.enter (N := 12) Tryz.func65 rfl Tryz.ntmps65 (by kernel_rfl) rfl (fun ρ L => ?_)
  refine K.seq ?_
  refine K.region ?_
  refine KO.loud rfl (l_box rfl rfl) ?_
  rintro _ _ ⟨b1, rfl, rfl⟩
  refine KO.q rfl (q_assign rfl) ?_
  refine KO.done ?_
  refine K.seq ?_
  refine K.region ?_
  refine KO.q rfl (q_field fo_29_0 rfl) ?_
  refine KO.q rfl (q_load1D ck_9 rfl) ?_
  refine KO.loud rfl (OpL.callD rfl (h := rw_Key _)) ?_
  rintro _ _ ⟨_, ⟨rfl, rfl⟩, rfl⟩
  refine KO.q rfl (q_move rfl) ?_
  refine KO.split 6 rfl (fun g6 => ?_) (fun g6 => ?_)
  · refine KO.q rfl (q_field fo_29_1 rfl) ?_
    refine KO.q rfl (q_load1D ck_9 rfl) ?_
    refine KO.q rfl (q_lenS Tryz.underlying9 rfl) ?_
    refine KO.q rfl (q_le rfl rfl) ?_
    refine KO.q rfl (q_pickT rfl rfl) ?_
    refine KO.q rfl (q_assign rfl) ?_
    refine KO.done ?_
    refine K.ret (fn := Tryz.f65) Tryz.func65 (fun a w hk hs => res1 Tryz.results65 hk rfl) (fun w hs => ?_)
    exact ⟨_, [], rfl, ⟨by simp [Rw.right, *], rfl⟩, hs.fitD⟩
  · refine KO.skip rfl ?_
    refine KO.skip rfl ?_
    refine KO.skip rfl ?_
    refine KO.skip rfl ?_
    refine KO.q rfl (q_pickF rfl rfl) ?_
    refine KO.q rfl (q_assign rfl) ?_
    refine KO.done ?_
    refine K.ret (fn := Tryz.f65) Tryz.func65 (fun a w hk hs => res1 Tryz.results65 hk rfl) (fun w hs => ?_)
    exact ⟨_, [], rfl, ⟨by simp [Rw.right, *], rfl⟩, hs.fitD⟩
--%call poste/posteref14.RightRow := ref_RightRow _
theorem ref_RightRow (r : Rw) : Fn Tryz.prog 9 [.agg r.cells.toArray].toArray [] (fun v post => v = .bool r.right ∧ post = []) := by
  refine Fn.enter (N := 19) Tryz.func9 rfl Tryz.ntmps9 (by kernel_rfl) rfl (fun ρ L => ?_)
  refine K.seq ?_
  refine K.region ?_
  refine KO.loud rfl (l_box rfl rfl) ?_
  rintro _ _ ⟨b1, rfl, rfl⟩
  refine KO.q rfl (q_assign rfl) ?_
  refine KO.done ?_
  refine K.seq ?_
  refine K.region ?_
  refine KO.q rfl (q_field fo_29_0 rfl) ?_
  refine KO.q rfl (q_load1D ck_9 rfl) ?_
  refine KO.q rfl (q_lenS Tryz.underlying9 rfl) ?_
  refine KO.q rfl (q_ge rfl rfl) ?_
  refine KO.q rfl (q_move rfl) ?_
  refine KO.dsplit 7 rfl (fun g7 => ?_) (fun g7 => ?_)
  · refine KO.q rfl (q_field fo_29_0 rfl) ?_
    refine KO.q rfl (q_load1D ck_9 rfl) ?_
    refine KO.q rfl (q_lenS Tryz.underlying9 rfl) ?_
    refine KO.q rfl (q_le rfl rfl) ?_
    refine KO.q rfl (q_pickT rfl rfl) ?_
    refine KO.q rfl (q_move rfl) ?_
    refine KO.dsplit 13 rfl (fun g13 => ?_) (fun g13 => ?_)
    · refine KO.q rfl (q_field fo_29_1 rfl) ?_
      refine KO.q rfl (q_load1D ck_9 rfl) ?_
      refine KO.q rfl (q_lenS Tryz.underlying9 rfl) ?_
      refine KO.q rfl (q_le rfl rfl) ?_
      refine KO.q rfl (q_pickT rfl rfl) ?_
      refine KO.q rfl (q_assign rfl) ?_
      refine KO.done ?_
      refine K.ret (fn := Tryz.f9) Tryz.func9 (fun a w hk hs => res1 Tryz.results9 hk rfl) (fun w hs => ?_)
      exact ⟨_, [], rfl, ⟨by simp [Rw.right, rwKey, *], rfl⟩, hs.fitD⟩
    · refine KO.skip rfl ?_
      refine KO.skip rfl ?_
      refine KO.skip rfl ?_
      refine KO.skip rfl ?_
      refine KO.q rfl (q_pickF rfl rfl) ?_
      refine KO.q rfl (q_assign rfl) ?_
      refine KO.done ?_
      refine K.ret (fn := Tryz.f9) Tryz.func9 (fun a w hk hs => res1 Tryz.results9 hk rfl) (fun w hs => ?_)
      exact ⟨_, [], rfl, ⟨by simp [Rw.right, rwKey, *], rfl⟩, hs.fitD⟩
  · refine KO.skip rfl ?_
    refine KO.skip rfl ?_
    refine KO.skip rfl ?_
    refine KO.skip rfl ?_
    refine KO.q rfl (q_pickF rfl rfl) ?_
    refine KO.q rfl (q_move rfl) ?_
    refine KO.skip rfl ?_
    refine KO.skip rfl ?_
    refine KO.skip rfl ?_
    refine KO.skip rfl ?_
    refine KO.q rfl (q_pickF rfl rfl) ?_
    refine KO.q rfl (q_assign rfl) ?_
    refine KO.done ?_
    refine K.ret (fn := Tryz.f9) Tryz.func9 (fun a w hk hs => res1 Tryz.results9 hk rfl) (fun w hs => ?_)
    exact ⟨_, [], rfl, ⟨by simp [Rw.right, rwKey, *], rfl⟩, hs.fitD⟩
--%call poste/effect.named := eff_named _
theorem eff_named (e : Eff) : Fn Tryz.prog 72 [.agg e.cells.toArray].toArray [] (fun v post => v = .agg e.named.cells.toArray ∧ post = []) := by
  refine Fn.enter (N := 58) Tryz.func72 rfl Tryz.ntmps72 (by kernel_rfl) rfl (fun ρ L => ?_)
  refine K.seq ?_
  refine K.region ?_
  refine KO.loud rfl (l_box rfl rfl) ?_
  rintro _ _ ⟨b1, rfl, rfl⟩
  refine KO.loud rfl (l_alloc zo_80) ?_
  rintro _ _ ⟨b2, rfl, rfl⟩
  refine KO.done ?_
  refine K.seq ?_
  refine K.region ?_
  refine KO.q rfl (q_field fo_80_0 rfl) ?_
  refine KO.q rfl (q_load1D ck_3 rfl) ?_
  refine KO.q rfl (q_field fo_80_1 rfl) ?_
  refine KO.q rfl (q_load1D ck_9 rfl) ?_
  refine KO.q rfl (q_as_eff (q_build st_80 rfl (by repeat (first | exact Fill.nil | (apply Fill.cons; rfl; rfl; rfl) | exact SetN.nil | apply SetN.cons | exact SetAt.here | apply SetAt.there))) (by rfl)) ?_
  refine KO.loud rfl (l_alloc zo_80) ?_
  rintro _ _ ⟨b3, rfl, rfl⟩
  refine KO.loudN rfl (l_storeAll ck_80 rfl rfl ⟨rfl, rfl⟩ (eff_one _) (by repeat (first | exact Pick.here | apply Pick.there))) ?_
  rintro _ _ ⟨rfl, rfl⟩
  refine KO.done ?_
  refine K.seq <| K.seq ?_
  refine K.region ?_
  refine KO.q rfl (q_field fo_80_0 rfl) ?_
  refine KO.q rfl (q_load1D ck_3 rfl) ?_
  refine KO.done ?_
  refine K.block <| K.seq ?_
  refine K.region ?_
  refine KO.q rfl (q_eq rfl rfl) ?_
  refine KO.q rfl (q_assign rfl) ?_
  refine KO.done ?_
  refine K.dcond (s := 11) rfl (fun g11 => ?_) (fun g11 => ?_)
  · refine K.drawU (by repeat (first | apply SubL.pers | apply SubL.own (b := b1) | apply SubL.drop | exact SubL.none)) mixed ?_
    refine D.q 0 rfl (by kernel_rfl) (by kernel_rfl) (q_field fo_80_4 rfl) (fun _ h => h.subD) ?_
    refine D.q 1 rfl (by kernel_rfl) (by kernel_rfl) (q_load1D ck_3 rfl) (fun _ h => h.subD) ?_
    refine D.q 2 rfl (by kernel_rfl) (by kernel_rfl) (q_field fo_80_5 rfl) (fun _ h => h.subD) ?_
    refine D.q 3 rfl (by kernel_rfl) (by kernel_rfl) (q_load1D ck_3 rfl) (fun _ h => h.subD) ?_
    refine D.q 4 rfl (by kernel_rfl) (by kernel_rfl) (q_field fo_80_4 rfl) (fun _ h => h.subD) ?_
    refine D.all (rs := [5]) (by kernel_rfl) rfl (DAll.consN rfl (by kernel_rfl) (l_store1 ck_3 rfl rfl rfl (by repeat (first | exact Pick.here | apply Pick.there)) (by repeat (first | exact SetAt.here | apply SetAt.there))) (.inr (by rintro _ _ ⟨rfl, rfl⟩ w h; exact h.subD)) rfl ?_ DAll.nil)
    rintro _ _ ⟨rfl, rfl⟩
    refine D.q 6 rfl (by kernel_rfl) (by kernel_rfl) (q_field fo_80_5 rfl) (fun _ h => h.subD) ?_
    refine D.all (rs := [7]) (by kernel_rfl) rfl (DAll.consN rfl (by kernel_rfl) (l_store1 ck_3 rfl rfl rfl (by repeat (first | exact Pick.here | apply Pick.there)) (by repeat (first | exact SetAt.here | apply SetAt.there))) (.inl (by kernel_rfl)) rfl ?_ DAll.nil)
    rintro _ _ ⟨rfl, rfl⟩
    refine D.done (by kernel_rfl) ?_
    refine K.inBlock <| K.seq ?_
    refine K.region ?_
    refine KO.q rfl (q_as_eff (q_loadN ck_80 rfl rfl (by first | (apply cells_pv; (repeat (first | exact List.Mem.head _ | apply List.Mem.tail))) | (apply cells_fv; (repeat (first | exact List.Mem.head _ | apply List.Mem.tail))))) (by rfl)) ?_
    refine KO.loudN rfl (l_storeAll ck_80 rfl rfl ⟨rfl, rfl⟩ (eff_one _) (by repeat (first | exact Pick.here | apply Pick.there))) ?_
    rintro _ _ ⟨rfl, rfl⟩
    refine KO.done ?_
    refine K.ret (fn := Tryz.f72) Tryz.func72 (fun a w hk hs => resC Tryz.results72 hk rfl ck_80 rfl (cells_pv (by repeat (first | exact List.Mem.head _ | apply List.Mem.tail)) w hs)) (fun w hs => ?_)
    exact ⟨_, [], rfl, ⟨by simp [Eff.named, Eff.cells, Msg.cells, *], rfl⟩, hs.fitD⟩
  · refine K.seq ?_
    refine K.region ?_
    refine KO.q rfl (q_eq rfl rfl) ?_
    refine KO.q rfl (q_assign rfl) ?_
    refine KO.done ?_
    refine K.dcond (s := 19) rfl (fun g19 => ?_) (fun g19 => ?_)
    · refine K.drawU (by repeat (first | apply SubL.pers | apply SubL.own (b := b1) | apply SubL.drop | exact SubL.none)) mixed ?_
      refine D.q 0 rfl (by kernel_rfl) (by kernel_rfl) (q_field fo_80_2 rfl) (fun _ h => h.subD) ?_
      refine D.q 1 rfl (by kernel_rfl) (by kernel_rfl) (q_load1D ck_9 rfl) (fun _ h => h.subD) ?_
      refine D.q 2 rfl (by kernel_rfl) (by kernel_rfl) (q_field fo_80_3 rfl) (fun _ h => h.subD) ?_
      refine D.q 3 rfl (by kernel_rfl) (by kernel_rfl) (q_load1D ck_9 rfl) (fun _ h => h.subD) ?_
      refine D.q 4 rfl (by kernel_rfl) (by kernel_rfl) (q_field fo_80_2 rfl) (fun _ h => h.subD) ?_
      refine D.all (rs := [5]) (by kernel_rfl) rfl (DAll.consN rfl (by kernel_rfl) (l_store1 ck_9 rfl rfl rfl (by repeat (first | exact Pick.here | apply Pick.there)) (by repeat (first | exact SetAt.here | apply SetAt.there))) (.inr (by rintro _ _ ⟨rfl, rfl⟩ w h; exact h.subD)) rfl ?_ DAll.nil)
      rintro _ _ ⟨rfl, rfl⟩
      refine D.q 6 rfl (by kernel_rfl) (by kernel_rfl) (q_field fo_80_3 rfl) (fun _ h => h.subD) ?_
      refine D.all (rs := [7]) (by kernel_rfl) rfl (DAll.consN rfl (by kernel_rfl) (l_store1 ck_9 rfl rfl rfl (by repeat (first | exact Pick.here | apply Pick.there)) (by repeat (first | exact SetAt.here | apply SetAt.there))) (.inl (by kernel_rfl)) rfl ?_ DAll.nil)
      rintro _ _ ⟨rfl, rfl⟩
      refine D.done (by kernel_rfl) ?_
      refine K.inBlock <| K.seq ?_
      refine K.region ?_
      refine KO.q rfl (q_as_eff (q_loadN ck_80 rfl rfl (by first | (apply cells_pv; (repeat (first | exact List.Mem.head _ | apply List.Mem.tail))) | (apply cells_fv; (repeat (first | exact List.Mem.head _ | apply List.Mem.tail))))) (by rfl)) ?_
      refine KO.loudN rfl (l_storeAll ck_80 rfl rfl ⟨rfl, rfl⟩ (eff_one _) (by repeat (first | exact Pick.here | apply Pick.there))) ?_
      rintro _ _ ⟨rfl, rfl⟩
      refine KO.done ?_
      refine K.ret (fn := Tryz.f72) Tryz.func72 (fun a w hk hs => resC Tryz.results72 hk rfl ck_80 rfl (cells_pv (by repeat (first | exact List.Mem.head _ | apply List.Mem.tail)) w hs)) (fun w hs => ?_)
      exact ⟨_, [], rfl, ⟨by simp [Eff.named, Eff.cells, Msg.cells, *], rfl⟩, hs.fitD⟩
    · refine K.seq ?_
      refine K.region ?_
      refine KO.q rfl (q_eq rfl rfl) ?_
      refine KO.q rfl (q_assign rfl) ?_
      refine KO.done ?_
      refine K.dcond (s := 27) rfl (fun g27 => ?_) (fun g27 => ?_)
      · refine K.region ?_
        refine KO.q rfl (q_field fo_80_2 rfl) ?_
        refine KO.q rfl (q_load1D ck_9 rfl) ?_
        refine KO.q rfl (q_field fo_80_2 rfl) ?_
        refine KO.loudN rfl (l_store1 ck_9 rfl rfl rfl (by repeat (first | exact Pick.here | apply Pick.there)) (by repeat (first | exact SetAt.here | apply SetAt.there))) ?_
        rintro _ _ ⟨rfl, rfl⟩
        refine KO.done ?_
        refine K.inBlock <| K.seq ?_
        refine K.region ?_
        refine KO.q rfl (q_as_eff (q_loadN ck_80 rfl rfl (by first | (apply cells_pv; (repeat (first | exact List.Mem.head _ | apply List.Mem.tail))) | (apply cells_fv; (repeat (first | exact List.Mem.head _ | apply List.Mem.tail))))) (by rfl)) ?_
        refine KO.loudN rfl (l_storeAll ck_80 rfl rfl ⟨rfl, rfl⟩ (eff_one _) (by repeat (first | exact Pick.here | apply Pick.there))) ?_
        rintro _ _ ⟨rfl, rfl⟩
        refine KO.done ?_
        refine K.ret (fn := Tryz.f72) Tryz.func72 (fun a w hk hs => resC Tryz.results72 hk rfl ck_80 rfl (cells_pv (by repeat (first | exact List.Mem.head _ | apply List.Mem.tail)) w hs)) (fun w hs => ?_)
        exact ⟨_, [], rfl, ⟨by simp [Eff.named, Eff.cells, Msg.cells, *], rfl⟩, hs.fitD⟩
      · refine K.seq ?_
        refine K.region ?_
        refine KO.q rfl (q_eq rfl rfl) ?_
        refine KO.q rfl (q_assign rfl) ?_
        refine KO.done ?_
        refine K.dcond (s := 32) rfl (fun g32 => ?_) (fun g32 => ?_)
        · refine K.region ?_
          refine KO.q rfl (q_field fo_80_7 rfl) ?_
          refine KO.q rfl (q_ldPS sub_eff_msg msg_sz ck_39 rfl (by repeat (first | exact List.Mem.head _ | apply List.Mem.tail))) ?_
          refine KO.q rfl (q_field fo_80_7 rfl) ?_
          refine KO.loudN rfl (l_storeN ck_39 rfl rfl rfl (msg_one _) (by repeat (first | exact Pick.here | apply Pick.there)) (by repeat (first | exact SetN.nil | apply SetN.cons | exact SetAt.here | apply SetAt.there))) ?_
          rintro _ _ ⟨rfl, rfl⟩
          refine KO.done ?_
          refine K.inBlock <| K.seq ?_
          refine K.region ?_
          refine KO.q rfl (q_as_eff (q_loadN ck_80 rfl rfl (by first | (apply cells_pv; (repeat (first | exact List.Mem.head _ | apply List.Mem.tail))) | (apply cells_fv; (repeat (first | exact List.Mem.head _ | apply List.Mem.tail))))) (by rfl)) ?_
          refine KO.loudN rfl (l_storeAll ck_80 rfl rfl ⟨rfl, rfl⟩ (eff_one _) (by repeat (first | exact Pick.here | apply Pick.there))) ?_
          rintro _ _ ⟨rfl, rfl⟩
          refine KO.done ?_
          refine K.ret (fn := Tryz.f72) Tryz.func72 (fun a w hk hs => resC Tryz.results72 hk rfl ck_80 rfl (cells_pv (by repeat (first | exact List.Mem.head _ | apply List.Mem.tail)) w hs)) (fun w hs => ?_)
          exact ⟨_, [], rfl, ⟨by simp [Eff.named, Eff.cells, Msg.cells, *], rfl⟩, hs.fitD⟩
        · refine K.seq <| K.seq ?_
          refine K.region ?_
          refine KO.q rfl (q_eq rfl rfl) ?_
          refine KO.q rfl (q_assign rfl) ?_
          refine KO.done ?_
          refine K.dcond (s := 37) rfl (fun g37 => ?_) (fun g37 => ?_)
          · refine K.skip ?_
            refine K.yes rfl ?_
            refine K.region ?_
            refine KO.q rfl (q_field fo_80_4 rfl) ?_
            refine KO.q rfl (q_load1D ck_3 rfl) ?_
            refine KO.q rfl (q_field fo_80_4 rfl) ?_
            refine KO.loudN rfl (l_store1 ck_3 rfl rfl rfl (by repeat (first | exact Pick.here | apply Pick.there)) (by repeat (first | exact SetAt.here | apply SetAt.there))) ?_
            rintro _ _ ⟨rfl, rfl⟩
            refine KO.done ?_
            refine K.inBlock <| K.seq ?_
            refine K.region ?_
            refine KO.q rfl (q_as_eff (q_loadN ck_80 rfl rfl (by first | (apply cells_pv; (repeat (first | exact List.Mem.head _ | apply List.Mem.tail))) | (apply cells_fv; (repeat (first | exact List.Mem.head _ | apply List.Mem.tail))))) (by rfl)) ?_
            refine KO.loudN rfl (l_storeAll ck_80 rfl rfl ⟨rfl, rfl⟩ (eff_one _) (by repeat (first | exact Pick.here | apply Pick.there))) ?_
            rintro _ _ ⟨rfl, rfl⟩
            refine KO.done ?_
            refine K.ret (fn := Tryz.f72) Tryz.func72 (fun a w hk hs => resC Tryz.results72 hk rfl ck_80 rfl (cells_pv (by repeat (first | exact List.Mem.head _ | apply List.Mem.tail)) w hs)) (fun w hs => ?_)
            exact ⟨_, [], rfl, ⟨by simp [Eff.named, Eff.cells, Msg.cells, *], rfl⟩, hs.fitD⟩
          · refine K.region ?_
            refine KO.q rfl (q_eq rfl rfl) ?_
            refine KO.q rfl (q_assign rfl) ?_
            refine KO.done ?_
            refine K.dcond (s := 37) rfl (fun g37 => ?_) (fun g37 => ?_)
            · refine K.region ?_
              refine KO.q rfl (q_field fo_80_4 rfl) ?_
              refine KO.q rfl (q_load1D ck_3 rfl) ?_
              refine KO.q rfl (q_field fo_80_4 rfl) ?_
              refine KO.loudN rfl (l_store1 ck_3 rfl rfl rfl (by repeat (first | exact Pick.here | apply Pick.there)) (by repeat (first | exact SetAt.here | apply SetAt.there))) ?_
              rintro _ _ ⟨rfl, rfl⟩
              refine KO.done ?_
              refine K.inBlock <| K.seq ?_
              refine K.region ?_
              refine KO.q rfl (q_as_eff (q_loadN ck_80 rfl rfl (by first | (apply cells_pv; (repeat (first | exact List.Mem.head _ | apply List.Mem.tail))) | (apply cells_fv; (repeat (first | exact List.Mem.head _ | apply List.Mem.tail))))) (by rfl)) ?_
              refine KO.loudN rfl (l_storeAll ck_80 rfl rfl ⟨rfl, rfl⟩ (eff_one _) (by repeat (first | exact Pick.here | apply Pick.there))) ?_
              rintro _ _ ⟨rfl, rfl⟩
              refine KO.done ?_
              refine K.ret (fn := Tryz.f72) Tryz.func72 (fun a w hk hs => resC Tryz.results72 hk rfl ck_80 rfl (cells_pv (by repeat (first | exact List.Mem.head _ | apply List.Mem.tail)) w hs)) (fun w hs => ?_)
              exact ⟨_, [], rfl, ⟨by simp [Eff.named, Eff.cells, Msg.cells, *], rfl⟩, hs.fitD⟩
            · refine K.seq ?_
              refine K.region ?_
              refine KO.q rfl (q_eq rfl rfl) ?_
              refine KO.q rfl (q_assign rfl) ?_
              refine KO.done ?_
              refine K.dcond (s := 43) rfl (fun g43 => ?_) (fun g43 => ?_)
              · refine K.drawU (by repeat (first | apply SubL.pers | apply SubL.own (b := b1) | apply SubL.drop | exact SubL.none)) mixed ?_
                refine D.q 0 rfl (by kernel_rfl) (by kernel_rfl) (q_field fo_80_4 rfl) (fun _ h => h.subD) ?_
                refine D.q 1 rfl (by kernel_rfl) (by kernel_rfl) (q_load1D ck_3 rfl) (fun _ h => h.subD) ?_
                refine D.q 2 rfl (by kernel_rfl) (by kernel_rfl) (q_field fo_80_6 rfl) (fun _ h => h.subD) ?_
                refine D.q 3 rfl (by kernel_rfl) (by kernel_rfl) (q_load1D ck_4 rfl) (fun _ h => h.subD) ?_
                refine D.q 4 rfl (by kernel_rfl) (by kernel_rfl) (q_field fo_80_4 rfl) (fun _ h => h.subD) ?_
                refine D.all (rs := [5]) (by kernel_rfl) rfl (DAll.consN rfl (by kernel_rfl) (l_store1 ck_3 rfl rfl rfl (by repeat (first | exact Pick.here | apply Pick.there)) (by repeat (first | exact SetAt.here | apply SetAt.there))) (.inr (by rintro _ _ ⟨rfl, rfl⟩ w h; exact h.subD)) rfl ?_ DAll.nil)
                rintro _ _ ⟨rfl, rfl⟩
                refine D.q 6 rfl (by kernel_rfl) (by kernel_rfl) (q_field fo_80_6 rfl) (fun _ h => h.subD) ?_
                refine D.all (rs := [7]) (by kernel_rfl) rfl (DAll.consN rfl (by kernel_rfl) (l_store1 ck_4 rfl rfl rfl (by repeat (first | exact Pick.here | apply Pick.there)) (by repeat (first | exact SetAt.here | apply SetAt.there))) (.inl (by kernel_rfl)) rfl ?_ DAll.nil)
                rintro _ _ ⟨rfl, rfl⟩
                refine D.done (by kernel_rfl) ?_
                refine K.inBlock <| K.seq ?_
                refine K.region ?_
                refine KO.q rfl (q_as_eff (q_loadN ck_80 rfl rfl (by first | (apply cells_pv; (repeat (first | exact List.Mem.head _ | apply List.Mem.tail))) | (apply cells_fv; (repeat (first | exact List.Mem.head _ | apply List.Mem.tail))))) (by rfl)) ?_
                refine KO.loudN rfl (l_storeAll ck_80 rfl rfl ⟨rfl, rfl⟩ (eff_one _) (by repeat (first | exact Pick.here | apply Pick.there))) ?_
                rintro _ _ ⟨rfl, rfl⟩
                refine KO.done ?_
                refine K.ret (fn := Tryz.f72) Tryz.func72 (fun a w hk hs => resC Tryz.results72 hk rfl ck_80 rfl (cells_pv (by repeat (first | exact List.Mem.head _ | apply List.Mem.tail)) w hs)) (fun w hs => ?_)
                exact ⟨_, [], rfl, ⟨by simp [Eff.named, Eff.cells, Msg.cells, *], rfl⟩, hs.fitD⟩
              · refine K.seq ?_
                refine K.region ?_
                refine KO.q rfl (q_eq rfl rfl) ?_
                refine KO.q rfl (q_assign rfl) ?_
                refine KO.done ?_
                refine K.dcond (s := 51) rfl (fun g51 => ?_) (fun g51 => ?_)
                · refine K.drawU (by repeat (first | apply SubL.pers | apply SubL.own (b := b1) | apply SubL.drop | exact SubL.none)) mixed ?_
                  refine D.q 0 rfl (by kernel_rfl) (by kernel_rfl) (q_field fo_80_4 rfl) (fun _ h => h.subD) ?_
                  refine D.q 1 rfl (by kernel_rfl) (by kernel_rfl) (q_load1D ck_3 rfl) (fun _ h => h.subD) ?_
                  refine D.q 2 rfl (by kernel_rfl) (by kernel_rfl) (q_field fo_80_1 rfl) (fun _ h => h.subD) ?_
                  refine D.all (rs := [3]) (by kernel_rfl) rfl (DAll.consN rfl (by kernel_rfl) (l_store1 ck_9 rfl rfl rfl (by repeat (first | exact Pick.here | apply Pick.there)) (by repeat (first | exact SetAt.here | apply SetAt.there))) (.inr (by rintro _ _ ⟨rfl, rfl⟩ w h; exact h.subD)) rfl ?_ DAll.nil)
                  rintro _ _ ⟨rfl, rfl⟩
                  refine D.q 4 rfl (by kernel_rfl) (by kernel_rfl) (q_field fo_80_4 rfl) (fun _ h => h.subD) ?_
                  refine D.all (rs := [5]) (by kernel_rfl) rfl (DAll.consN rfl (by kernel_rfl) (l_store1 ck_3 rfl rfl rfl (by repeat (first | exact Pick.here | apply Pick.there)) (by repeat (first | exact SetAt.here | apply SetAt.there))) (.inl (by kernel_rfl)) rfl ?_ DAll.nil)
                  rintro _ _ ⟨rfl, rfl⟩
                  refine D.done (by kernel_rfl) ?_
                  refine K.inBlock <| K.seq ?_
                  refine K.region ?_
                  refine KO.q rfl (q_as_eff (q_loadN ck_80 rfl rfl (by first | (apply cells_pv; (repeat (first | exact List.Mem.head _ | apply List.Mem.tail))) | (apply cells_fv; (repeat (first | exact List.Mem.head _ | apply List.Mem.tail))))) (by rfl)) ?_
                  refine KO.loudN rfl (l_storeAll ck_80 rfl rfl ⟨rfl, rfl⟩ (eff_one _) (by repeat (first | exact Pick.here | apply Pick.there))) ?_
                  rintro _ _ ⟨rfl, rfl⟩
                  refine KO.done ?_
                  refine K.ret (fn := Tryz.f72) Tryz.func72 (fun a w hk hs => resC Tryz.results72 hk rfl ck_80 rfl (cells_pv (by repeat (first | exact List.Mem.head _ | apply List.Mem.tail)) w hs)) (fun w hs => ?_)
                  exact ⟨_, [], rfl, ⟨by simp [Eff.named, Eff.cells, Msg.cells, *], rfl⟩, hs.fitD⟩
                · refine K.skip <| K.inBlock <| K.seq ?_
                  refine K.region ?_
                  refine KO.q rfl (q_loadN ck_80 rfl rfl (by first | (apply cells_pv; (repeat (first | exact List.Mem.head _ | apply List.Mem.tail))) | (apply cells_fv; (repeat (first | exact List.Mem.head _ | apply List.Mem.tail))))) ?_
                  refine KO.loudN rfl (l_storeAll ck_80 rfl rfl ⟨rfl, rfl⟩ (eff_one _) (by repeat (first | exact Pick.here | apply Pick.there))) ?_
                  rintro _ _ ⟨rfl, rfl⟩
                  refine KO.done ?_
                  refine K.ret (fn := Tryz.f72) Tryz.func72 (fun a w hk hs => resC Tryz.results72 hk rfl ck_80 rfl (cells_pv (by repeat (first | exact List.Mem.head _ | apply List.Mem.tail)) w hs)) (fun w hs => ?_)
                  exact ⟨_, [], rfl, ⟨by simp [Eff.named, Eff.cells, Msg.cells, *], rfl⟩, hs.fitD⟩
end Go.Proofs.YthnmoiilaaoooaaGreat.L
/-! Walks: which changes may be, the program's answer and the document's. -/
namespace Go.Proofs.YthnmoiilaaoooaaGreat.L
open Go Go.Proofs
attribute [local irreducible] pv fv pt fz RowF RowO rowP old pure_ elA
set_option maxRecDepth 100000
set_option linter.unusedSimpArgs false
set_option linter.unusedVariables false

--%call poste/effect.Right := eff_Right _
set_option maxHeartbeats 1600000 in
theorem eff_Right (e : Eff) : Fn Tryz.prog 50 [.agg e.cells.toArray].toArray [] (fun v post => v = .bool e.right ∧ post = []) := by
  refine Fn.enter (N := 68) Tryz.func50 rfl Tryz.ntmps50 (by kernel_rfl) rfl (fun ρ L => ?_)
  refine K.seq ?_
  refine K.region ?_
  refine KO.loud rfl (l_box rfl rfl) ?_
  rintro _ _ ⟨b1, rfl, rfl⟩
  refine KO.q rfl (q_assign rfl) ?_
  refine KO.done ?_
  refine K.seq <| K.seq ?_
  refine K.drawU (by repeat (first | apply SubL.pers | apply SubL.own (b := b1) | apply SubL.drop | exact SubL.none)) mixed ?_
  refine D.q 0 rfl (by kernel_rfl) (by kernel_rfl) (q_loadN ck_80 rfl rfl (by first | (apply cells_pv; (repeat (first | exact List.Mem.head _ | apply List.Mem.tail))) | (apply cells_fv; (repeat (first | exact List.Mem.head _ | apply List.Mem.tail))))) (fun _ h => h.subD) ?_
  refine D.q 1 rfl (by kernel_rfl) (by kernel_rfl) (q_loadN ck_80 rfl rfl (by first | (apply cells_pv; (repeat (first | exact List.Mem.head _ | apply List.Mem.tail))) | (apply cells_fv; (repeat (first | exact List.Mem.head _ | apply List.Mem.tail))))) (fun _ h => h.subD) ?_
  refine D.all (rs := [2]) (by kernel_rfl) rfl (DAll.cons rfl (by kernel_rfl) (OpL.callD rfl (h := eff_named _)) (.inr (by rintro _ _ ⟨_, ⟨rfl, rfl⟩, rfl⟩ w h; exact h.subD)) rfl ?_ DAll.nil)
  rintro _ _ ⟨_, ⟨rfl, rfl⟩, rfl⟩
  refine D.q 3 rfl (by kernel_rfl) (by kernel_rfl) (q_recNG Tryz.underlying80 eff_hp eff_hg rfl rfl (eff_eqD _ _ Tryz.underlying80)) (fun _ h => h.subD) ?_
  refine D.done (by kernel_rfl) ?_
  refine K.dcond (s := 6) rfl (fun g6 => ?_) (fun g6 => ?_)
  · have hr : e.right = false := by simp [Eff.right, g6]
    refine K.seq ?_
    refine K.region ?_
    refine KO.q rfl (q_assign rfl) ?_
    refine KO.done ?_
    refine K.ret (fn := Tryz.f50) Tryz.func50 (fun a w hk hs => res1 Tryz.results50 hk rfl) (fun w hs => ?_)
    exact ⟨_, [], rfl, ⟨by rw [hr] <;> simp [Eff.rightK, *], rfl⟩, hs.fitD⟩
  · have hr : e.right = e.rightK := by rw [Eff.right, decide_eq_true (Decidable.not_not.1 g6), Bool.true_and]
    clear g6
    refine K.skip <| K.seq <| K.seq ?_
    refine K.region ?_
    refine KO.q rfl (q_field fo_80_0 rfl) ?_
    refine KO.q rfl (q_load1D ck_3 rfl) ?_
    refine KO.done ?_
    refine K.block <| K.seq ?_
    refine K.region ?_
    refine KO.q rfl (q_eq rfl rfl) ?_
    refine KO.q rfl (q_assign rfl) ?_
    refine KO.done ?_
    refine K.dcond (s := 9) rfl (fun g9 => ?_) (fun g9 => ?_)
    · refine K.seq ?_
      refine K.region ?_
      refine KO.q rfl (q_field fo_80_1 rfl) ?_
      refine KO.q rfl (q_load1D ck_9 rfl) ?_
      refine KO.q rfl (q_field fo_80_4 rfl) ?_
      refine KO.q rfl (q_load1D ck_3 rfl) ?_
      refine KO.q rfl (q_field fo_80_5 rfl) ?_
      refine KO.q rfl (q_load1D ck_3 rfl) ?_
      refine KO.loud rfl (OpL.callD rfl (h := eff_Object _ _ _)) ?_
      rintro _ _ ⟨_, ⟨rfl, rfl⟩, rfl⟩
      refine KO.q rfl (q_assign rfl) ?_
      refine KO.done ?_
      refine K.ret (fn := Tryz.f50) Tryz.func50 (fun a w hk hs => res1 Tryz.results50 hk rfl) (fun w hs => ?_)
      exact ⟨_, [], rfl, ⟨by rw [hr] <;> simp [Eff.rightK, *], rfl⟩, hs.fitD⟩
    · refine K.seq ?_
      refine K.region ?_
      refine KO.q rfl (q_eq rfl rfl) ?_
      refine KO.q rfl (q_assign rfl) ?_
      refine KO.done ?_
      refine K.dcond (s := 18) rfl (fun g18 => ?_) (fun g18 => ?_)
      · refine K.seq ?_
        refine K.region ?_
        refine KO.q rfl (q_field fo_80_1 rfl) ?_
        refine KO.q rfl (q_load1D ck_9 rfl) ?_
        refine KO.loud rfl (OpL.callD rfl (h := eff_Name _)) ?_
        rintro _ _ ⟨_, ⟨rfl, rfl⟩, rfl⟩
        refine KO.q rfl (q_move rfl) ?_
        refine KO.split 23 rfl (fun g23 => ?_) (fun g23 => ?_)
        · refine KO.q rfl (q_field fo_80_2 rfl) ?_
          refine KO.q rfl (q_load1D ck_9 rfl) ?_
          refine KO.q rfl (q_field fo_80_3 rfl) ?_
          refine KO.q rfl (q_load1D ck_9 rfl) ?_
          refine KO.q rfl (q_as_rw (q_build st_29 rfl (by repeat (first | exact Fill.nil | (apply Fill.cons; rfl; rfl; rfl) | exact SetN.nil | apply SetN.cons | exact SetAt.here | apply SetAt.there))) (by rfl)) ?_
          refine KO.loud rfl (OpL.callD rfl (h := rw_Right _)) ?_
          rintro _ _ ⟨_, ⟨rfl, rfl⟩, rfl⟩
          refine KO.q rfl (q_pickT rfl rfl) ?_
          refine KO.q rfl (q_assign rfl) ?_
          refine KO.done ?_
          refine K.ret (fn := Tryz.f50) Tryz.func50 (fun a w hk hs => res1 Tryz.results50 hk rfl) (fun w hs => ?_)
          exact ⟨_, [], rfl, ⟨by rw [hr] <;> simp [Eff.rightK, *], rfl⟩, hs.fitD⟩
        · refine KO.skip rfl ?_
          refine KO.skip rfl ?_
          refine KO.skip rfl ?_
          refine KO.skip rfl ?_
          refine KO.skip rfl ?_
          refine KO.skip rfl ?_
          refine KO.q rfl (q_pickF rfl rfl) ?_
          refine KO.q rfl (q_assign rfl) ?_
          refine KO.done ?_
          refine K.ret (fn := Tryz.f50) Tryz.func50 (fun a w hk hs => res1 Tryz.results50 hk rfl) (fun w hs => ?_)
          exact ⟨_, [], rfl, ⟨by rw [hr] <;> simp [Eff.rightK, *], rfl⟩, hs.fitD⟩
      · refine K.seq ?_
        refine K.region ?_
        refine KO.q rfl (q_eq rfl rfl) ?_
        refine KO.q rfl (q_assign rfl) ?_
        refine KO.done ?_
        refine K.dcond (s := 31) rfl (fun g31 => ?_) (fun g31 => ?_)
        · refine K.seq ?_
          refine K.region ?_
          refine KO.q rfl (q_field fo_80_1 rfl) ?_
          refine KO.q rfl (q_load1D ck_9 rfl) ?_
          refine KO.loud rfl (OpL.callD rfl (h := eff_Name _)) ?_
          rintro _ _ ⟨_, ⟨rfl, rfl⟩, rfl⟩
          refine KO.q rfl (q_move rfl) ?_
          refine KO.split 36 rfl (fun g36 => ?_) (fun g36 => ?_)
          · refine KO.q rfl (q_field fo_80_2 rfl) ?_
            refine KO.q rfl (q_load1D ck_9 rfl) ?_
            refine KO.loud rfl (OpL.callD rfl (h := rw_Key _)) ?_
            rintro _ _ ⟨_, ⟨rfl, rfl⟩, rfl⟩
            refine KO.q rfl (q_pickT rfl rfl) ?_
            refine KO.q rfl (q_assign rfl) ?_
            refine KO.done ?_
            refine K.ret (fn := Tryz.f50) Tryz.func50 (fun a w hk hs => res1 Tryz.results50 hk rfl) (fun w hs => ?_)
            exact ⟨_, [], rfl, ⟨by rw [hr] <;> simp [Eff.rightK, *], rfl⟩, hs.fitD⟩
          · refine KO.skip rfl ?_
            refine KO.skip rfl ?_
            refine KO.skip rfl ?_
            refine KO.q rfl (q_pickF rfl rfl) ?_
            refine KO.q rfl (q_assign rfl) ?_
            refine KO.done ?_
            refine K.ret (fn := Tryz.f50) Tryz.func50 (fun a w hk hs => res1 Tryz.results50 hk rfl) (fun w hs => ?_)
            exact ⟨_, [], rfl, ⟨by rw [hr] <;> simp [Eff.rightK, *], rfl⟩, hs.fitD⟩
        · refine K.seq ?_
          refine K.region ?_
          refine KO.q rfl (q_eq rfl rfl) ?_
          refine KO.q rfl (q_assign rfl) ?_
          refine KO.done ?_
          refine K.dcond (s := 41) rfl (fun g41 => ?_) (fun g41 => ?_)
          · refine K.seq ?_
            refine K.region ?_
            refine KO.q rfl (q_field fo_80_1 rfl) ?_
            refine KO.q rfl (q_load1D ck_9 rfl) ?_
            refine KO.loud rfl (OpL.callD rfl (h := eff_Name _)) ?_
            rintro _ _ ⟨_, ⟨rfl, rfl⟩, rfl⟩
            refine KO.q rfl (q_move rfl) ?_
            refine KO.split 46 rfl (fun g46 => ?_) (fun g46 => ?_)
            · refine KO.q rfl (q_field fo_80_7 rfl) ?_
              refine KO.q rfl (q_ldPS sub_eff_msg msg_sz ck_39 rfl (by repeat (first | exact List.Mem.head _ | apply List.Mem.tail))) ?_
              refine KO.loud rfl (OpL.callD rfl (h := msg_Right _)) ?_
              rintro _ _ ⟨_, ⟨rfl, rfl⟩, rfl⟩
              refine KO.q rfl (q_pickT rfl rfl) ?_
              refine KO.q rfl (q_assign rfl) ?_
              refine KO.done ?_
              refine K.ret (fn := Tryz.f50) Tryz.func50 (fun a w hk hs => res1 Tryz.results50 hk rfl) (fun w hs => ?_)
              exact ⟨_, [], rfl, ⟨by rw [hr] <;> simp [Eff.rightK, *], rfl⟩, hs.fitD⟩
            · refine KO.skip rfl ?_
              refine KO.skip rfl ?_
              refine KO.skip rfl ?_
              refine KO.q rfl (q_pickF rfl rfl) ?_
              refine KO.q rfl (q_assign rfl) ?_
              refine KO.done ?_
              refine K.ret (fn := Tryz.f50) Tryz.func50 (fun a w hk hs => res1 Tryz.results50 hk rfl) (fun w hs => ?_)
              exact ⟨_, [], rfl, ⟨by rw [hr] <;> simp [Eff.rightK, *], rfl⟩, hs.fitD⟩
          · refine K.seq <| K.seq ?_
            refine K.region ?_
            refine KO.q rfl (q_eq rfl rfl) ?_
            refine KO.q rfl (q_assign rfl) ?_
            refine KO.done ?_
            refine K.dcond (s := 51) rfl (fun g51 => ?_) (fun g51 => ?_)
            · refine K.skip ?_
              refine K.yes rfl ?_
              refine K.seq ?_
              refine K.region ?_
              refine KO.q rfl (q_field fo_80_1 rfl) ?_
              refine KO.q rfl (q_load1D ck_9 rfl) ?_
              refine KO.loud rfl (OpL.callD rfl (h := eff_Name _)) ?_
              rintro _ _ ⟨_, ⟨rfl, rfl⟩, rfl⟩
              refine KO.q rfl (q_move rfl) ?_
              refine KO.split 58 rfl (fun g58 => ?_) (fun g58 => ?_)
              · refine KO.q rfl (q_field fo_80_4 rfl) ?_
                refine KO.q rfl (q_load1D ck_3 rfl) ?_
                refine KO.loud rfl (OpL.callD rfl (h := eff_id _)) ?_
                rintro _ _ ⟨_, ⟨rfl, rfl⟩, rfl⟩
                refine KO.q rfl (q_pickT rfl rfl) ?_
                refine KO.q rfl (q_assign rfl) ?_
                refine KO.done ?_
                refine K.ret (fn := Tryz.f50) Tryz.func50 (fun a w hk hs => res1 Tryz.results50 hk rfl) (fun w hs => ?_)
                exact ⟨_, [], rfl, ⟨by rw [hr] <;> simp [Eff.rightK, *], rfl⟩, hs.fitD⟩
              · refine KO.skip rfl ?_
                refine KO.skip rfl ?_
                refine KO.skip rfl ?_
                refine KO.q rfl (q_pickF rfl rfl) ?_
                refine KO.q rfl (q_assign rfl) ?_
                refine KO.done ?_
                refine K.ret (fn := Tryz.f50) Tryz.func50 (fun a w hk hs => res1 Tryz.results50 hk rfl) (fun w hs => ?_)
                exact ⟨_, [], rfl, ⟨by rw [hr] <;> simp [Eff.rightK, *], rfl⟩, hs.fitD⟩
            · refine K.seq ?_
              refine K.region ?_
              refine KO.q rfl (q_eq rfl rfl) ?_
              refine KO.q rfl (q_assign rfl) ?_
              refine KO.done ?_
              refine K.dcond (s := 51) rfl (fun g51 => ?_) (fun g51 => ?_)
              · refine K.skip ?_
                refine K.yes rfl ?_
                refine K.seq ?_
                refine K.region ?_
                refine KO.q rfl (q_field fo_80_1 rfl) ?_
                refine KO.q rfl (q_load1D ck_9 rfl) ?_
                refine KO.loud rfl (OpL.callD rfl (h := eff_Name _)) ?_
                rintro _ _ ⟨_, ⟨rfl, rfl⟩, rfl⟩
                refine KO.q rfl (q_move rfl) ?_
                refine KO.split 58 rfl (fun g58 => ?_) (fun g58 => ?_)
                · refine KO.q rfl (q_field fo_80_4 rfl) ?_
                  refine KO.q rfl (q_load1D ck_3 rfl) ?_
                  refine KO.loud rfl (OpL.callD rfl (h := eff_id _)) ?_
                  rintro _ _ ⟨_, ⟨rfl, rfl⟩, rfl⟩
                  refine KO.q rfl (q_pickT rfl rfl) ?_
                  refine KO.q rfl (q_assign rfl) ?_
                  refine KO.done ?_
                  refine K.ret (fn := Tryz.f50) Tryz.func50 (fun a w hk hs => res1 Tryz.results50 hk rfl) (fun w hs => ?_)
                  exact ⟨_, [], rfl, ⟨by rw [hr] <;> simp [Eff.rightK, *], rfl⟩, hs.fitD⟩
                · refine KO.skip rfl ?_
                  refine KO.skip rfl ?_
                  refine KO.skip rfl ?_
                  refine KO.q rfl (q_pickF rfl rfl) ?_
                  refine KO.q rfl (q_assign rfl) ?_
                  refine KO.done ?_
                  refine K.ret (fn := Tryz.f50) Tryz.func50 (fun a w hk hs => res1 Tryz.results50 hk rfl) (fun w hs => ?_)
                  exact ⟨_, [], rfl, ⟨by rw [hr] <;> simp [Eff.rightK, *], rfl⟩, hs.fitD⟩
              · refine K.region ?_
                refine KO.q rfl (q_eq rfl rfl) ?_
                refine KO.q rfl (q_assign rfl) ?_
                refine KO.done ?_
                refine K.dcond (s := 51) rfl (fun g51 => ?_) (fun g51 => ?_)
                · refine K.seq ?_
                  refine K.region ?_
                  refine KO.q rfl (q_field fo_80_1 rfl) ?_
                  refine KO.q rfl (q_load1D ck_9 rfl) ?_
                  refine KO.loud rfl (OpL.callD rfl (h := eff_Name _)) ?_
                  rintro _ _ ⟨_, ⟨rfl, rfl⟩, rfl⟩
                  refine KO.q rfl (q_move rfl) ?_
                  refine KO.split 58 rfl (fun g58 => ?_) (fun g58 => ?_)
                  · refine KO.q rfl (q_field fo_80_4 rfl) ?_
                    refine KO.q rfl (q_load1D ck_3 rfl) ?_
                    refine KO.loud rfl (OpL.callD rfl (h := eff_id _)) ?_
                    rintro _ _ ⟨_, ⟨rfl, rfl⟩, rfl⟩
                    refine KO.q rfl (q_pickT rfl rfl) ?_
                    refine KO.q rfl (q_assign rfl) ?_
                    refine KO.done ?_
                    refine K.ret (fn := Tryz.f50) Tryz.func50 (fun a w hk hs => res1 Tryz.results50 hk rfl) (fun w hs => ?_)
                    exact ⟨_, [], rfl, ⟨by rw [hr] <;> simp [Eff.rightK, *], rfl⟩, hs.fitD⟩
                  · refine KO.skip rfl ?_
                    refine KO.skip rfl ?_
                    refine KO.skip rfl ?_
                    refine KO.q rfl (q_pickF rfl rfl) ?_
                    refine KO.q rfl (q_assign rfl) ?_
                    refine KO.done ?_
                    refine K.ret (fn := Tryz.f50) Tryz.func50 (fun a w hk hs => res1 Tryz.results50 hk rfl) (fun w hs => ?_)
                    exact ⟨_, [], rfl, ⟨by rw [hr] <;> simp [Eff.rightK, *], rfl⟩, hs.fitD⟩
                · refine K.seq ?_
                  refine K.region ?_
                  refine KO.q rfl (q_eq rfl rfl) ?_
                  refine KO.q rfl (q_assign rfl) ?_
                  refine KO.done ?_
                  refine K.dcond (s := 63) rfl (fun g63 => ?_) (fun g63 => ?_)
                  · refine K.seq ?_
                    refine K.region ?_
                    refine KO.q rfl (q_field fo_80_4 rfl) ?_
                    refine KO.q rfl (q_load1D ck_3 rfl) ?_
                    refine KO.loud rfl (OpL.callD rfl (h := eff_id _)) ?_
                    rintro _ _ ⟨_, ⟨rfl, rfl⟩, rfl⟩
                    refine KO.q rfl (q_assign rfl) ?_
                    refine KO.done ?_
                    refine K.ret (fn := Tryz.f50) Tryz.func50 (fun a w hk hs => res1 Tryz.results50 hk rfl) (fun w hs => ?_)
                    exact ⟨_, [], rfl, ⟨by rw [hr] <;> simp [Eff.rightK, *], rfl⟩, hs.fitD⟩
                  · refine K.skip <| K.inBlock <| K.seq ?_
                    refine K.region ?_
                    refine KO.q rfl (q_assign rfl) ?_
                    refine KO.done ?_
                    refine K.ret (fn := Tryz.f50) Tryz.func50 (fun a w hk hs => res1 Tryz.results50 hk rfl) (fun w hs => ?_)
                    exact ⟨_, [], rfl, ⟨by rw [hr] <;> simp [Eff.rightK, *], rfl⟩, hs.fitD⟩
end Go.Proofs.YthnmoiilaaoooaaGreat.L
