/- A store goes on over any number of changes, image by image, and is opened as it was; no condition. -/
import Derived.Lib.Overlaps
import Derived.Laws.Externs
import Derived.Test.YtkbhldicnamcdaaGreatKeepLongB
namespace Go.Proofs.YtkbhldicnamcdaaGreat.L
open Go Go.Proofs
attribute [local irreducible] pv fv pt fz RowF RowO rowP old pure_ elA
set_option maxRecDepth 100000
set_option linter.unusedSimpArgs false
set_option linter.unusedVariables false
open Go.RowKit Go.ChangeShapes
structure Eff where
  kind : Int
  object : ByteArray
  key : ByteArray
  value : ByteArray
  n : Int
  limit : Int
  tried : Bool
  msg : Msg
def Eff.cells (x : Eff) : List Value := [.int .i64 x.kind, .string x.object, .string x.key, .string x.value, .int .i64 x.n, .int .i64 x.limit, .bool x.tried, .int .i64 x.msg.id, .int .i64 x.msg.pri, .int .i64 x.msg.retry, .bool x.msg.claimed, .string x.msg.corr, .string x.msg.body]
theorem eff_sz (x : Eff) : x.cells.length = 13 := rfl
theorem eff_one (x : Eff) : ∀ v ∈ x.cells, v.oneCell' = true := fun v h => by simp [Eff.cells] at h; rcases h with rfl | rfl | rfl | rfl | rfl | rfl | rfl | rfl | rfl | rfl | rfl | rfl | rfl <;> rfl
def Kd.eff : Kd Eff := Kd.flat 13 Eff.cells eff_sz eff_one
theorem q_as_eff {X : Fx} {o : Oper} {E : Env} {L : List HP} {cs : List Value} {kind_ : Int} {object_ : ByteArray} {key_ : ByteArray} {value_ : ByteArray} {n_ : Int} {limit_ : Int} {tried_ : Bool} {msg_id : Int} {msg_pri : Int} {msg_retry : Int} {msg_claimed : Bool} {msg_corr : ByteArray} {msg_body : ByteArray} (h : OpQ X o E L (.agg cs.toArray)) (e : cs = [.int .i64 kind_, .string object_, .string key_, .string value_, .int .i64 n_, .int .i64 limit_, .bool tried_, .int .i64 msg_id, .int .i64 msg_pri, .int .i64 msg_retry, .bool msg_claimed, .string msg_corr, .string msg_body]) : OpQ X o E L (.agg (Eff.cells ⟨kind_, object_, key_, value_, n_, limit_, tried_, ⟨msg_id, msg_pri, msg_retry, msg_claimed, msg_corr, msg_body⟩⟩).toArray) := q_as h e
theorem sub_eff_msg : SubAt Eff.cells 7 Eff.msg Msg.cells := fun x => ⟨(x.cells.drop 13), rfl⟩
theorem eff_ext {a b : Eff} : a = b ↔ a.kind = b.kind ∧ a.object = b.object ∧ a.key = b.key ∧ a.value = b.value ∧ a.n = b.n ∧ a.limit = b.limit ∧ a.tried = b.tried ∧ a.msg = b.msg := by cases a; cases b; simp
instance : DecidableEq Eff := fun _ _ => decidable_of_iff _ eff_ext.symm
theorem eff_hp : Tryz.prog.stoodInHeld 58 = false := by kernel_rfl
theorem eff_hg : Tryz.prog.eqGuardType Tryz.prog.depth 58 = false := by kernel_rfl
theorem eff_eqD (a b : Eff) {fs : Array Field} (h : Tryz.prog.underlying 58 = some (.struct fs)) : EqG Tryz.prog a.cells b.cells fs.toList (decide (a = b)) := by
  rw [Tryz.underlying58] at h
  cases h
  have e : ((a.kind == b.kind) && ((a.object == b.object) && ((a.key == b.key) && ((a.value == b.value) && ((a.n == b.n) && ((a.limit == b.limit) && ((a.tried == b.tried) && (a.msg.beq b.msg && true)))))))) = decide (a = b) := by rw [Bool.eq_iff_iff, decide_eq_true_iff, eff_ext]; simp [bbeq, msg_beqD]
  rw [← e]
  exact (.cons rfl ck_3 rfl rfl (.int Tryz.underlying3) (.cons rfl ck_9 rfl rfl (.str Tryz.underlying9) (.cons rfl ck_9 rfl rfl (.str Tryz.underlying9) (.cons rfl ck_9 rfl rfl (.str Tryz.underlying9) (.cons rfl ck_3 rfl rfl (.int Tryz.underlying3) (.cons rfl ck_3 rfl rfl (.int Tryz.underlying3) (.cons rfl ck_4 rfl rfl (.bool Tryz.underlying4) (.sub rfl ck_56 rfl rfl Tryz.underlying56 msg_hp (msg_eqF a.msg b.msg Tryz.underlying56) .nil))))))))
def Eff.fits (x : Eff) : Prop := (-9223372036854775808 ≤ x.kind ∧ x.kind ≤ 9223372036854775807) ∧ (x.object.size : Int) ≤ 9223372036854775807 ∧ (x.key.size : Int) ≤ 9223372036854775807 ∧ (x.value.size : Int) ≤ 9223372036854775807 ∧ (-9223372036854775808 ≤ x.n ∧ x.n ≤ 9223372036854775807) ∧ (-9223372036854775808 ≤ x.limit ∧ x.limit ≤ 9223372036854775807) ∧ True ∧ x.msg.fits
end Go.Proofs.YtkbhldicnamcdaaGreat.L
namespace Go.Proofs.YtkbhldicnamcdaaGreat.L
open Go Go.Proofs
attribute [local irreducible] pv fv pt fz RowF RowO rowP old pure_ elA
set_option maxRecDepth 100000
set_option linter.unusedSimpArgs false
set_option linter.unusedVariables false
def effName (s : ByteArray) : Bool := decide (1 ≤ (s.size : Int)) && decide ((s.size : Int) ≤ 16)
def effKind (k l : Int) : Bool := if k = 1 then decide (l = 0) else if k = 2 then decide (1 ≤ l) && decide (l ≤ 1000) else false
def effId (n : Int) : Bool := decide (1 ≤ n) && decide (n ≤ 1099511627776)
def rwKey (k : ByteArray) : Bool := decide (1 ≤ (k.size : Int)) && decide ((k.size : Int) ≤ 40)
def Rw.right (r : Rw) : Bool := rwKey r.key && decide ((r.value.size : Int) ≤ 100)
def Eff.named (e : Eff) : Eff :=
  let z : Eff := ⟨e.kind, e.object, ⟨#[]⟩, ⟨#[]⟩, 0, 0, false, ⟨0, 0, 0, false, ⟨#[]⟩, ⟨#[]⟩⟩⟩
  if e.kind = 1 then { z with n := e.n, limit := e.limit }
  else if e.kind = 2 then { z with key := e.key, value := e.value }
  else if e.kind = 3 then { z with key := e.key }
  else if e.kind = 4 then { z with msg := e.msg }
  else if e.kind = 5 ∨ e.kind = 6 then { z with n := e.n }
  else if e.kind = 7 then { z with n := e.n, tried := e.tried }
  else if e.kind = 8 then { z with object := ⟨#[]⟩, n := e.n }
  else z
def Eff.rightK (e : Eff) : Bool :=
  if e.kind = 1 then effName e.object && effKind e.n e.limit
  else if e.kind = 2 then effName e.object && Rw.right ⟨e.key, e.value⟩
  else if e.kind = 3 then effName e.object && rwKey e.key
  else if e.kind = 4 then effName e.object && e.msg.right
  else if e.kind = 5 ∨ e.kind = 6 ∨ e.kind = 7 then effName e.object && effId e.n
  else if e.kind = 8 then effId e.n
  else false
def Eff.right (e : Eff) : Bool := decide (e = e.named) && e.rightK
theorem eff_Name (s : ByteArray) : Fn Tryz.prog 172 [.string s].toArray [] (fun v post => v = .bool (effName s) ∧ post = []) := by
  refine Fn.enter (N := 11) Tryz.func172 rfl Tryz.ntmps172 tK rfl (fun ρ L => ?_)
  refine K.seq <| K.region <| KO.q rfl (q_assign rfl) <| KO.done <| K.seq <| K.region <| KO.q rfl (q_move rfl) <| KO.q rfl (q_lenS Tryz.underlying9 rfl) <| KO.q rfl (q_ge rfl rfl) <| KO.q rfl (q_move rfl) ?_
  refine KO.dsplit 6 rfl (fun g6 => ?_) (fun g6 => ?_)
  · refine KO.q rfl (q_move rfl) <| KO.q rfl (q_lenS Tryz.underlying9 rfl) <| KO.q rfl (q_le rfl rfl) <| KO.q rfl (q_pickT rfl rfl) <| KO.q rfl (q_assign rfl) <| KO.done ?_
    refine kr1 Tryz.func172 Tryz.results172 rfl (fun w hs => ?_)
    exact ⟨_, [], rfl, ⟨by simp [effName, *], rfl⟩, hs⟩
  · refine KO.skip rfl <| KO.skip rfl <| KO.skip rfl <| KO.q rfl (q_pickF rfl rfl) <| KO.q rfl (q_assign rfl) <| KO.done ?_
    refine kr1 Tryz.func172 Tryz.results172 rfl (fun w hs => ?_)
    exact ⟨_, [], rfl, ⟨by simp [effName, *], rfl⟩, hs⟩
theorem eff_id (n : Int) : Fn Tryz.prog 176 [.int .i64 n].toArray [] (fun v post => v = .bool (effId n) ∧ post = []) := by
  refine Fn.enter (N := 9) Tryz.func176 rfl Tryz.ntmps176 tK rfl (fun ρ L => ?_)
  refine K.seq <| K.region <| KO.q rfl (q_assign rfl) <| KO.done <| K.seq <| K.region <| KO.q rfl (q_move rfl) <| KO.q rfl (q_ge rfl rfl) <| KO.q rfl (q_move rfl) ?_
  refine KO.dsplit 5 rfl (fun g5 => ?_) (fun g5 => ?_)
  · refine KO.q rfl (q_move rfl) <| KO.q rfl (q_le rfl rfl) <| KO.q rfl (q_pickT rfl rfl) <| KO.q rfl (q_assign rfl) <| KO.done ?_
    refine kr1 Tryz.func176 Tryz.results176 rfl (fun w hs => ?_)
    exact ⟨_, [], rfl, ⟨by simp [effId, *], rfl⟩, hs⟩
  · refine KO.skip rfl <| KO.skip rfl <| KO.q rfl (q_pickF rfl rfl) <| KO.q rfl (q_assign rfl) <| KO.done ?_
    refine kr1 Tryz.func176 Tryz.results176 rfl (fun w hs => ?_)
    exact ⟨_, [], rfl, ⟨by simp [effId, *], rfl⟩, hs⟩
theorem eff_Object (s : ByteArray) (k l : Int) : Fn Tryz.prog 171 [.string s, .int .i64 k, .int .i64 l].toArray [] (fun v post => v = .bool (effName s && effKind k l) ∧ post = []) := by
  refine Fn.enter (N := 23) Tryz.func171 rfl Tryz.ntmps171 tK rfl (fun ρ L => ?_)
  refine K.seq <| K.region <| KO.q rfl (q_assign rfl) <| KO.done <| K.seq <| K.seq <| K.region <| KO.q rfl (q_move rfl) <| KO.loud rfl (OpL.callD rfl (h := eff_Name _)) ?_
  rintro _ _ ⟨_, ⟨rfl, rfl⟩, rfl⟩
  refine KO.q rfl (q_not rfl) <| KO.done ?_
  refine K.bcond (s := 9) rfl (fun g9 => ?_) (fun g9 => ?_)
  · refine K.seq <| K.region <| KO.q rfl (q_assign rfl) <| KO.done ?_
    refine kr1 Tryz.func171 Tryz.results171 rfl (fun w hs => ?_)
    exact ⟨_, [], rfl, ⟨by simp_all [effKind] <;> omega, rfl⟩, hs⟩
  · refine K.skip <| K.seq <| K.seq <| K.region <| KO.q rfl (q_move rfl) <| KO.done <| K.block <| K.seq <| K.region <| KO.q rfl (q_eq rfl rfl) <| KO.q rfl (q_assign rfl) <| KO.done ?_
    refine K.dcond (s := 11) rfl (fun g11 => ?_) (fun g11 => ?_)
    · refine K.seq <| K.region <| KO.q rfl (q_move rfl) <| KO.q rfl (q_eq rfl rfl) <| KO.q rfl (q_assign rfl) <| KO.done ?_
      refine kr1 Tryz.func171 Tryz.results171 rfl (fun w hs => ?_)
      exact ⟨_, [], rfl, ⟨by simp_all [effKind] <;> omega, rfl⟩, hs⟩
    · refine K.seq <| K.region <| KO.q rfl (q_eq rfl rfl) <| KO.q rfl (q_assign rfl) <| KO.done ?_
      refine K.dcond (s := 15) rfl (fun g15 => ?_) (fun g15 => ?_)
      · refine K.seq <| K.region <| KO.q rfl (q_move rfl) <| KO.q rfl (q_ge rfl rfl) <| KO.q rfl (q_move rfl) ?_
        refine KO.dsplit 19 rfl (fun g19 => ?_) (fun g19 => ?_)
        · refine KO.q rfl (q_move rfl) <| KO.q rfl (q_le rfl rfl) <| KO.q rfl (q_pickT rfl rfl) <| KO.q rfl (q_assign rfl) <| KO.done ?_
          refine kr1 Tryz.func171 Tryz.results171 rfl (fun w hs => ?_)
          exact ⟨_, [], rfl, ⟨by simp_all [effKind] <;> omega, rfl⟩, hs⟩
        · refine KO.skip rfl <| KO.skip rfl <| KO.q rfl (q_pickF rfl rfl) <| KO.q rfl (q_assign rfl) <| KO.done ?_
          refine kr1 Tryz.func171 Tryz.results171 rfl (fun w hs => ?_)
          exact ⟨_, [], rfl, ⟨by simp_all [effKind] <;> omega, rfl⟩, hs⟩
      · refine K.skip <| K.inBlock <| K.seq <| K.region <| KO.q rfl (q_assign rfl) <| KO.done ?_
        refine kr1 Tryz.func171 Tryz.results171 rfl (fun w hs => ?_)
        exact ⟨_, [], rfl, ⟨by simp_all [effKind] <;> omega, rfl⟩, hs⟩
theorem rw_Key (s : ByteArray) : Fn Tryz.prog 174 [.string s].toArray [] (fun v post => v = .bool (rwKey s) ∧ post = []) := by
  refine Fn.enter (N := 11) Tryz.func174 rfl Tryz.ntmps174 tK rfl (fun ρ L => ?_)
  refine K.seq <| K.region <| KO.q rfl (q_assign rfl) <| KO.done <| K.seq <| K.region <| KO.q rfl (q_move rfl) <| KO.q rfl (q_lenS Tryz.underlying9 rfl) <| KO.q rfl (q_ge rfl rfl) <| KO.q rfl (q_move rfl) ?_
  refine KO.dsplit 6 rfl (fun g6 => ?_) (fun g6 => ?_)
  · refine KO.q rfl (q_move rfl) <| KO.q rfl (q_lenS Tryz.underlying9 rfl) <| KO.q rfl (q_le rfl rfl) <| KO.q rfl (q_pickT rfl rfl) <| KO.q rfl (q_assign rfl) <| KO.done ?_
    refine kr1 Tryz.func174 Tryz.results174 rfl (fun w hs => ?_)
    exact ⟨_, [], rfl, ⟨by simp [rwKey, *], rfl⟩, hs⟩
  · refine KO.skip rfl <| KO.skip rfl <| KO.skip rfl <| KO.q rfl (q_pickF rfl rfl) <| KO.q rfl (q_assign rfl) <| KO.done ?_
    refine kr1 Tryz.func174 Tryz.results174 rfl (fun w hs => ?_)
    exact ⟨_, [], rfl, ⟨by simp [rwKey, *], rfl⟩, hs⟩
theorem rw_Right (r : Rw) : Fn Tryz.prog 173 [.agg r.cells.toArray].toArray [] (fun v post => v = .bool r.right ∧ post = []) := by
  refine Fn.enter (N := 12) Tryz.func173 rfl Tryz.ntmps173 tK rfl (fun ρ L => ?_)
  refine K.seq <| K.region <| KO.loud rfl (l_box rfl rfl) ?_
  rintro _ _ ⟨b1, rfl, rfl⟩
  refine KO.q rfl (q_assign rfl) <| KO.done <| K.seq <| K.region <| KO.q rfl (q_field fo_136_0 rfl) <| KO.q rfl (q_load1D ck_9 rfl) <| KO.loud rfl (OpL.callD rfl (h := rw_Key _)) ?_
  rintro _ _ ⟨_, ⟨rfl, rfl⟩, rfl⟩
  refine KO.q rfl (q_move rfl) ?_
  refine KO.split 6 rfl (fun g6 => ?_) (fun g6 => ?_)
  · refine KO.q rfl (q_field fo_136_1 rfl) <| KO.q rfl (q_load1D ck_9 rfl) <| KO.q rfl (q_lenS Tryz.underlying9 rfl) <| KO.q rfl (q_le rfl rfl) <| KO.q rfl (q_pickT rfl rfl) <| KO.q rfl (q_assign rfl) <| KO.done ?_
    refine kr1 Tryz.func173 Tryz.results173 rfl (fun w hs => ?_)
    exact ⟨_, [], rfl, ⟨by simp [Rw.right, *], rfl⟩, hs.fitD⟩
  · refine KO.skip rfl <| KO.skip rfl <| KO.skip rfl <| KO.skip rfl <| KO.q rfl (q_pickF rfl rfl) <| KO.q rfl (q_assign rfl) <| KO.done ?_
    refine kr1 Tryz.func173 Tryz.results173 rfl (fun w hs => ?_)
    exact ⟨_, [], rfl, ⟨by simp [Rw.right, *], rfl⟩, hs.fitD⟩
theorem eff_named (e : Eff) : Fn Tryz.prog 170 [.agg e.cells.toArray].toArray [] (fun v post => v = .agg e.named.cells.toArray ∧ post = []) := by
  refine Fn.enter (N := 58) Tryz.func170 rfl Tryz.ntmps170 tK rfl (fun ρ L => ?_)
  refine K.seq <| K.region <| KO.loud rfl (l_box rfl rfl) ?_
  rintro _ _ ⟨b1, rfl, rfl⟩
  refine KO.loud rfl (l_alloc zo_58) ?_
  rintro _ _ ⟨b2, rfl, rfl⟩
  refine KO.done <| K.seq <| K.region <| KO.q rfl (q_field fo_58_0 rfl) <| KO.q rfl (q_load1D ck_3 rfl) <| KO.q rfl (q_field fo_58_1 rfl) <| KO.q rfl (q_load1D ck_9 rfl) <| KO.q rfl (q_as_eff (q_build st_58 rfl tF) (by rfl)) <| KO.loud rfl (l_alloc zo_58) ?_
  rintro _ _ ⟨b3, rfl, rfl⟩
  refine KO.loudN rfl (l_storeAll ck_58 rfl rfl ⟨rfl, rfl⟩ (eff_one _) tP) ?_
  rintro _ _ ⟨rfl, rfl⟩
  refine KO.done <| K.seq <| K.seq <| K.region <| KO.q rfl (q_field fo_58_0 rfl) <| KO.q rfl (q_load1D ck_3 rfl) <| KO.done <| K.block <| K.seq <| K.region <| KO.q rfl (q_eq rfl rfl) <| KO.q rfl (q_assign rfl) ?_
  refine KO.done ?_
  refine K.dcond (s := 11) rfl (fun g11 => ?_) (fun g11 => ?_)
  · refine K.drawU (by repeat (first | apply SubL.pers | apply SubL.own (b := b1) | apply SubL.drop | exact SubL.none)) mixed ?_
    refine dq 0 rfl (q_field fo_58_4 rfl) <| dq 1 rfl (q_load1D ck_3 rfl) <| dq 2 rfl (q_field fo_58_5 rfl) <| dq 3 rfl (q_load1D ck_3 rfl) <| dq 4 rfl (q_field fo_58_4 rfl) <| dq1N 5 rfl (l_store1 ck_3 rfl rfl rfl tP tA) (.inr (by rintro _ _ ⟨rfl, rfl⟩ w h; exact h.subD)) ?_
    rintro _ _ ⟨rfl, rfl⟩
    refine dq 6 rfl (q_field fo_58_5 rfl) <| dq1N 7 rfl (l_store1 ck_3 rfl rfl rfl tP tA) (.inl tK) ?_
    rintro _ _ ⟨rfl, rfl⟩
    refine D.done tK <| K.inBlock <| K.seq <| K.region <| KO.q rfl (q_as_eff (q_loadN ck_58 rfl rfl tC) (by rfl)) <| KO.loudN rfl (l_storeAll ck_58 rfl rfl ⟨rfl, rfl⟩ (eff_one _) tP) ?_
    rintro _ _ ⟨rfl, rfl⟩
    refine KO.done ?_
    refine K.ret (fn := Tryz.f170) Tryz.func170 (fun a w hk hs => resC Tryz.results170 hk rfl ck_58 rfl (cells_pv tM w hs)) (fun w hs => ?_)
    exact ⟨_, [], rfl, ⟨by simp [Eff.named, Eff.cells, Msg.cells, *], rfl⟩, hs.fitD⟩
  · refine K.seq <| K.region <| KO.q rfl (q_eq rfl rfl) <| KO.q rfl (q_assign rfl) <| KO.done ?_
    refine K.dcond (s := 19) rfl (fun g19 => ?_) (fun g19 => ?_)
    · refine K.drawU (by repeat (first | apply SubL.pers | apply SubL.own (b := b1) | apply SubL.drop | exact SubL.none)) mixed ?_
      refine dq 0 rfl (q_field fo_58_2 rfl) <| dq 1 rfl (q_load1D ck_9 rfl) <| dq 2 rfl (q_field fo_58_3 rfl) <| dq 3 rfl (q_load1D ck_9 rfl) <| dq 4 rfl (q_field fo_58_2 rfl) <| dq1N 5 rfl (l_store1 ck_9 rfl rfl rfl tP tA) (.inr (by rintro _ _ ⟨rfl, rfl⟩ w h; exact h.subD)) ?_
      rintro _ _ ⟨rfl, rfl⟩
      refine dq 6 rfl (q_field fo_58_3 rfl) <| dq1N 7 rfl (l_store1 ck_9 rfl rfl rfl tP tA) (.inl tK) ?_
      rintro _ _ ⟨rfl, rfl⟩
      refine D.done tK <| K.inBlock <| K.seq <| K.region <| KO.q rfl (q_as_eff (q_loadN ck_58 rfl rfl tC) (by rfl)) <| KO.loudN rfl (l_storeAll ck_58 rfl rfl ⟨rfl, rfl⟩ (eff_one _) tP) ?_
      rintro _ _ ⟨rfl, rfl⟩
      refine KO.done ?_
      refine K.ret (fn := Tryz.f170) Tryz.func170 (fun a w hk hs => resC Tryz.results170 hk rfl ck_58 rfl (cells_pv tM w hs)) (fun w hs => ?_)
      exact ⟨_, [], rfl, ⟨by simp [Eff.named, Eff.cells, Msg.cells, *], rfl⟩, hs.fitD⟩
    · refine K.seq <| K.region <| KO.q rfl (q_eq rfl rfl) <| KO.q rfl (q_assign rfl) <| KO.done ?_
      refine K.dcond (s := 27) rfl (fun g27 => ?_) (fun g27 => ?_)
      · refine K.region <| KO.q rfl (q_field fo_58_2 rfl) <| KO.q rfl (q_load1D ck_9 rfl) <| KO.q rfl (q_field fo_58_2 rfl) <| KO.loudN rfl (l_store1 ck_9 rfl rfl rfl tP tA) ?_
        rintro _ _ ⟨rfl, rfl⟩
        refine KO.done <| K.inBlock <| K.seq <| K.region <| KO.q rfl (q_as_eff (q_loadN ck_58 rfl rfl tC) (by rfl)) <| KO.loudN rfl (l_storeAll ck_58 rfl rfl ⟨rfl, rfl⟩ (eff_one _) tP) ?_
        rintro _ _ ⟨rfl, rfl⟩
        refine KO.done ?_
        refine K.ret (fn := Tryz.f170) Tryz.func170 (fun a w hk hs => resC Tryz.results170 hk rfl ck_58 rfl (cells_pv tM w hs)) (fun w hs => ?_)
        exact ⟨_, [], rfl, ⟨by simp [Eff.named, Eff.cells, Msg.cells, *], rfl⟩, hs.fitD⟩
      · refine K.seq <| K.region <| KO.q rfl (q_eq rfl rfl) <| KO.q rfl (q_assign rfl) <| KO.done ?_
        refine K.dcond (s := 32) rfl (fun g32 => ?_) (fun g32 => ?_)
        · refine K.region <| KO.q rfl (q_field fo_58_7 rfl) <| KO.q rfl (q_ldPS sub_eff_msg msg_sz ck_56 rfl tM) <| KO.q rfl (q_field fo_58_7 rfl) <| KO.loudN rfl (l_storeN ck_56 rfl rfl rfl (msg_one _) tP tSN) ?_
          rintro _ _ ⟨rfl, rfl⟩
          refine KO.done <| K.inBlock <| K.seq <| K.region <| KO.q rfl (q_as_eff (q_loadN ck_58 rfl rfl tC) (by rfl)) <| KO.loudN rfl (l_storeAll ck_58 rfl rfl ⟨rfl, rfl⟩ (eff_one _) tP) ?_
          rintro _ _ ⟨rfl, rfl⟩
          refine KO.done ?_
          refine K.ret (fn := Tryz.f170) Tryz.func170 (fun a w hk hs => resC Tryz.results170 hk rfl ck_58 rfl (cells_pv tM w hs)) (fun w hs => ?_)
          exact ⟨_, [], rfl, ⟨by simp [Eff.named, Eff.cells, Msg.cells, *], rfl⟩, hs.fitD⟩
        · refine K.seq <| K.seq <| K.region <| KO.q rfl (q_eq rfl rfl) <| KO.q rfl (q_assign rfl) <| KO.done ?_
          refine K.dcond (s := 37) rfl (fun g37 => ?_) (fun g37 => ?_)
          · refine K.skip <| K.yes rfl <| K.region <| KO.q rfl (q_field fo_58_4 rfl) <| KO.q rfl (q_load1D ck_3 rfl) <| KO.q rfl (q_field fo_58_4 rfl) <| KO.loudN rfl (l_store1 ck_3 rfl rfl rfl tP tA) ?_
            rintro _ _ ⟨rfl, rfl⟩
            refine KO.done <| K.inBlock <| K.seq <| K.region <| KO.q rfl (q_as_eff (q_loadN ck_58 rfl rfl tC) (by rfl)) <| KO.loudN rfl (l_storeAll ck_58 rfl rfl ⟨rfl, rfl⟩ (eff_one _) tP) ?_
            rintro _ _ ⟨rfl, rfl⟩
            refine KO.done ?_
            refine K.ret (fn := Tryz.f170) Tryz.func170 (fun a w hk hs => resC Tryz.results170 hk rfl ck_58 rfl (cells_pv tM w hs)) (fun w hs => ?_)
            exact ⟨_, [], rfl, ⟨by simp [Eff.named, Eff.cells, Msg.cells, *], rfl⟩, hs.fitD⟩
          · refine K.region <| KO.q rfl (q_eq rfl rfl) <| KO.q rfl (q_assign rfl) <| KO.done ?_
            refine K.dcond (s := 37) rfl (fun g37 => ?_) (fun g37 => ?_)
            · refine K.region <| KO.q rfl (q_field fo_58_4 rfl) <| KO.q rfl (q_load1D ck_3 rfl) <| KO.q rfl (q_field fo_58_4 rfl) <| KO.loudN rfl (l_store1 ck_3 rfl rfl rfl tP tA) ?_
              rintro _ _ ⟨rfl, rfl⟩
              refine KO.done <| K.inBlock <| K.seq <| K.region <| KO.q rfl (q_as_eff (q_loadN ck_58 rfl rfl tC) (by rfl)) <| KO.loudN rfl (l_storeAll ck_58 rfl rfl ⟨rfl, rfl⟩ (eff_one _) tP) ?_
              rintro _ _ ⟨rfl, rfl⟩
              refine KO.done ?_
              refine K.ret (fn := Tryz.f170) Tryz.func170 (fun a w hk hs => resC Tryz.results170 hk rfl ck_58 rfl (cells_pv tM w hs)) (fun w hs => ?_)
              exact ⟨_, [], rfl, ⟨by simp [Eff.named, Eff.cells, Msg.cells, *], rfl⟩, hs.fitD⟩
            · refine K.seq <| K.region <| KO.q rfl (q_eq rfl rfl) <| KO.q rfl (q_assign rfl) <| KO.done ?_
              refine K.dcond (s := 43) rfl (fun g43 => ?_) (fun g43 => ?_)
              · refine K.drawU (by repeat (first | apply SubL.pers | apply SubL.own (b := b1) | apply SubL.drop | exact SubL.none)) mixed ?_
                refine dq 0 rfl (q_field fo_58_4 rfl) <| dq 1 rfl (q_load1D ck_3 rfl) <| dq 2 rfl (q_field fo_58_6 rfl) <| dq 3 rfl (q_load1D ck_4 rfl) <| dq 4 rfl (q_field fo_58_4 rfl) <| dq1N 5 rfl (l_store1 ck_3 rfl rfl rfl tP tA) (.inr (by rintro _ _ ⟨rfl, rfl⟩ w h; exact h.subD)) ?_
                rintro _ _ ⟨rfl, rfl⟩
                refine dq 6 rfl (q_field fo_58_6 rfl) <| dq1N 7 rfl (l_store1 ck_4 rfl rfl rfl tP tA) (.inl tK) ?_
                rintro _ _ ⟨rfl, rfl⟩
                refine D.done tK <| K.inBlock <| K.seq <| K.region <| KO.q rfl (q_as_eff (q_loadN ck_58 rfl rfl tC) (by rfl)) <| KO.loudN rfl (l_storeAll ck_58 rfl rfl ⟨rfl, rfl⟩ (eff_one _) tP) ?_
                rintro _ _ ⟨rfl, rfl⟩
                refine KO.done ?_
                refine K.ret (fn := Tryz.f170) Tryz.func170 (fun a w hk hs => resC Tryz.results170 hk rfl ck_58 rfl (cells_pv tM w hs)) (fun w hs => ?_)
                exact ⟨_, [], rfl, ⟨by simp [Eff.named, Eff.cells, Msg.cells, *], rfl⟩, hs.fitD⟩
              · refine K.seq <| K.region <| KO.q rfl (q_eq rfl rfl) <| KO.q rfl (q_assign rfl) <| KO.done ?_
                refine K.dcond (s := 51) rfl (fun g51 => ?_) (fun g51 => ?_)
                · refine K.drawU (by repeat (first | apply SubL.pers | apply SubL.own (b := b1) | apply SubL.drop | exact SubL.none)) mixed ?_
                  refine dq 0 rfl (q_field fo_58_4 rfl) <| dq 1 rfl (q_load1D ck_3 rfl) <| dq 2 rfl (q_field fo_58_1 rfl) <| dq1N 3 rfl (l_store1 ck_9 rfl rfl rfl tP tA) (.inr (by rintro _ _ ⟨rfl, rfl⟩ w h; exact h.subD)) ?_
                  rintro _ _ ⟨rfl, rfl⟩
                  refine dq 4 rfl (q_field fo_58_4 rfl) <| dq1N 5 rfl (l_store1 ck_3 rfl rfl rfl tP tA) (.inl tK) ?_
                  rintro _ _ ⟨rfl, rfl⟩
                  refine D.done tK <| K.inBlock <| K.seq <| K.region <| KO.q rfl (q_as_eff (q_loadN ck_58 rfl rfl tC) (by rfl)) <| KO.loudN rfl (l_storeAll ck_58 rfl rfl ⟨rfl, rfl⟩ (eff_one _) tP) ?_
                  rintro _ _ ⟨rfl, rfl⟩
                  refine KO.done ?_
                  refine K.ret (fn := Tryz.f170) Tryz.func170 (fun a w hk hs => resC Tryz.results170 hk rfl ck_58 rfl (cells_pv tM w hs)) (fun w hs => ?_)
                  exact ⟨_, [], rfl, ⟨by simp [Eff.named, Eff.cells, Msg.cells, *], rfl⟩, hs.fitD⟩
                · refine K.skip <| K.inBlock <| K.seq <| K.region <| KO.q rfl (q_loadN ck_58 rfl rfl tC) <| KO.loudN rfl (l_storeAll ck_58 rfl rfl ⟨rfl, rfl⟩ (eff_one _) tP) ?_
                  rintro _ _ ⟨rfl, rfl⟩
                  refine KO.done ?_
                  refine K.ret (fn := Tryz.f170) Tryz.func170 (fun a w hk hs => resC Tryz.results170 hk rfl ck_58 rfl (cells_pv tM w hs)) (fun w hs => ?_)
                  exact ⟨_, [], rfl, ⟨by simp [Eff.named, Eff.cells, Msg.cells, *], rfl⟩, hs.fitD⟩
end Go.Proofs.YtkbhldicnamcdaaGreat.L
namespace Go.Proofs.YtkbhldicnamcdaaGreat.L
open Go Go.Proofs
attribute [local irreducible] pv fv pt fz RowF RowO rowP old pure_ elA
set_option maxRecDepth 100000
set_option linter.unusedSimpArgs false
set_option linter.unusedVariables false
set_option maxHeartbeats 1600000 in
theorem eff_Right (e : Eff) : Fn Tryz.prog 132 [.agg e.cells.toArray].toArray [] (fun v post => v = .bool e.right ∧ post = []) := by
  refine Fn.enter (N := 68) Tryz.func132 rfl Tryz.ntmps132 tK rfl (fun ρ L => ?_)
  refine K.seq <| K.region <| KO.loud rfl (l_box rfl rfl) ?_
  rintro _ _ ⟨b1, rfl, rfl⟩
  refine KO.q rfl (q_assign rfl) <| KO.done <| K.seq <| K.seq ?_
  refine K.drawU (by repeat (first | apply SubL.pers | apply SubL.own (b := b1) | apply SubL.drop | exact SubL.none)) mixed ?_
  refine dq 0 rfl (q_loadN ck_58 rfl rfl tC) <| dq 1 rfl (q_loadN ck_58 rfl rfl tC) <| dq1 2 rfl (OpL.callD rfl (h := eff_named _)) (.inr (by rintro _ _ ⟨_, ⟨rfl, rfl⟩, rfl⟩ w h; exact h.subD)) ?_
  rintro _ _ ⟨_, ⟨rfl, rfl⟩, rfl⟩
  refine dq 3 rfl (q_recNG Tryz.underlying58 eff_hp eff_hg rfl rfl (eff_eqD _ _ Tryz.underlying58)) <| D.done tK ?_
  refine K.dcond (s := 6) rfl (fun g6 => ?_) (fun g6 => ?_)
  · have hr : e.right = false := by simp [Eff.right, g6]
    refine K.seq <| K.region <| KO.q rfl (q_assign rfl) <| KO.done ?_
    refine kr1 Tryz.func132 Tryz.results132 rfl (fun w hs => ?_)
    exact ⟨_, [], rfl, ⟨by rw [hr] <;> simp [Eff.rightK, *], rfl⟩, hs.fitD⟩
  · have hr : e.right = e.rightK := by rw [Eff.right, decide_eq_true (Decidable.not_not.1 g6), Bool.true_and]
    clear g6
    refine K.skip <| K.seq <| K.seq <| K.region <| KO.q rfl (q_field fo_58_0 rfl) <| KO.q rfl (q_load1D ck_3 rfl) <| KO.done <| K.block <| K.seq <| K.region <| KO.q rfl (q_eq rfl rfl) <| KO.q rfl (q_assign rfl) <| KO.done ?_
    refine K.dcond (s := 9) rfl (fun g9 => ?_) (fun g9 => ?_)
    · refine K.seq <| K.region <| KO.q rfl (q_field fo_58_1 rfl) <| KO.q rfl (q_load1D ck_9 rfl) <| KO.q rfl (q_field fo_58_4 rfl) <| KO.q rfl (q_load1D ck_3 rfl) <| KO.q rfl (q_field fo_58_5 rfl) <| KO.q rfl (q_load1D ck_3 rfl) <| KO.loud rfl (OpL.callD rfl (h := eff_Object _ _ _)) ?_
      rintro _ _ ⟨_, ⟨rfl, rfl⟩, rfl⟩
      refine KO.q rfl (q_assign rfl) <| KO.done ?_
      refine kr1 Tryz.func132 Tryz.results132 rfl (fun w hs => ?_)
      exact ⟨_, [], rfl, ⟨by rw [hr] <;> simp [Eff.rightK, *], rfl⟩, hs.fitD⟩
    · refine K.seq <| K.region <| KO.q rfl (q_eq rfl rfl) <| KO.q rfl (q_assign rfl) <| KO.done ?_
      refine K.dcond (s := 18) rfl (fun g18 => ?_) (fun g18 => ?_)
      · refine K.seq <| K.region <| KO.q rfl (q_field fo_58_1 rfl) <| KO.q rfl (q_load1D ck_9 rfl) <| KO.loud rfl (OpL.callD rfl (h := eff_Name _)) ?_
        rintro _ _ ⟨_, ⟨rfl, rfl⟩, rfl⟩
        refine KO.q rfl (q_move rfl) ?_
        refine KO.split 23 rfl (fun g23 => ?_) (fun g23 => ?_)
        · refine KO.q rfl (q_field fo_58_2 rfl) <| KO.q rfl (q_load1D ck_9 rfl) <| KO.q rfl (q_field fo_58_3 rfl) <| KO.q rfl (q_load1D ck_9 rfl) <| KO.q rfl (q_as_rw (q_build st_136 rfl tF) (by rfl)) <| KO.loud rfl (OpL.callD rfl (h := rw_Right _)) ?_
          rintro _ _ ⟨_, ⟨rfl, rfl⟩, rfl⟩
          refine KO.q rfl (q_pickT rfl rfl) <| KO.q rfl (q_assign rfl) <| KO.done ?_
          refine kr1 Tryz.func132 Tryz.results132 rfl (fun w hs => ?_)
          exact ⟨_, [], rfl, ⟨by rw [hr] <;> simp [Eff.rightK, *], rfl⟩, hs.fitD⟩
        · refine KO.skip rfl <| KO.skip rfl <| KO.skip rfl <| KO.skip rfl <| KO.skip rfl <| KO.skip rfl <| KO.q rfl (q_pickF rfl rfl) <| KO.q rfl (q_assign rfl) <| KO.done ?_
          refine kr1 Tryz.func132 Tryz.results132 rfl (fun w hs => ?_)
          exact ⟨_, [], rfl, ⟨by rw [hr] <;> simp [Eff.rightK, *], rfl⟩, hs.fitD⟩
      · refine K.seq <| K.region <| KO.q rfl (q_eq rfl rfl) <| KO.q rfl (q_assign rfl) <| KO.done ?_
        refine K.dcond (s := 31) rfl (fun g31 => ?_) (fun g31 => ?_)
        · refine K.seq <| K.region <| KO.q rfl (q_field fo_58_1 rfl) <| KO.q rfl (q_load1D ck_9 rfl) <| KO.loud rfl (OpL.callD rfl (h := eff_Name _)) ?_
          rintro _ _ ⟨_, ⟨rfl, rfl⟩, rfl⟩
          refine KO.q rfl (q_move rfl) ?_
          refine KO.split 36 rfl (fun g36 => ?_) (fun g36 => ?_)
          · refine KO.q rfl (q_field fo_58_2 rfl) <| KO.q rfl (q_load1D ck_9 rfl) <| KO.loud rfl (OpL.callD rfl (h := rw_Key _)) ?_
            rintro _ _ ⟨_, ⟨rfl, rfl⟩, rfl⟩
            refine KO.q rfl (q_pickT rfl rfl) <| KO.q rfl (q_assign rfl) <| KO.done ?_
            refine kr1 Tryz.func132 Tryz.results132 rfl (fun w hs => ?_)
            exact ⟨_, [], rfl, ⟨by rw [hr] <;> simp [Eff.rightK, *], rfl⟩, hs.fitD⟩
          · refine KO.skip rfl <| KO.skip rfl <| KO.skip rfl <| KO.q rfl (q_pickF rfl rfl) <| KO.q rfl (q_assign rfl) <| KO.done ?_
            refine kr1 Tryz.func132 Tryz.results132 rfl (fun w hs => ?_)
            exact ⟨_, [], rfl, ⟨by rw [hr] <;> simp [Eff.rightK, *], rfl⟩, hs.fitD⟩
        · refine K.seq <| K.region <| KO.q rfl (q_eq rfl rfl) <| KO.q rfl (q_assign rfl) <| KO.done ?_
          refine K.dcond (s := 41) rfl (fun g41 => ?_) (fun g41 => ?_)
          · refine K.seq <| K.region <| KO.q rfl (q_field fo_58_1 rfl) <| KO.q rfl (q_load1D ck_9 rfl) <| KO.loud rfl (OpL.callD rfl (h := eff_Name _)) ?_
            rintro _ _ ⟨_, ⟨rfl, rfl⟩, rfl⟩
            refine KO.q rfl (q_move rfl) ?_
            refine KO.split 46 rfl (fun g46 => ?_) (fun g46 => ?_)
            · refine KO.q rfl (q_field fo_58_7 rfl) <| KO.q rfl (q_ldPS sub_eff_msg msg_sz ck_56 rfl tM) <| KO.loud rfl (OpL.callD rfl (h := msg_Right _)) ?_
              rintro _ _ ⟨_, ⟨rfl, rfl⟩, rfl⟩
              refine KO.q rfl (q_pickT rfl rfl) <| KO.q rfl (q_assign rfl) <| KO.done ?_
              refine kr1 Tryz.func132 Tryz.results132 rfl (fun w hs => ?_)
              exact ⟨_, [], rfl, ⟨by rw [hr] <;> simp [Eff.rightK, *], rfl⟩, hs.fitD⟩
            · refine KO.skip rfl <| KO.skip rfl <| KO.skip rfl <| KO.q rfl (q_pickF rfl rfl) <| KO.q rfl (q_assign rfl) <| KO.done ?_
              refine kr1 Tryz.func132 Tryz.results132 rfl (fun w hs => ?_)
              exact ⟨_, [], rfl, ⟨by rw [hr] <;> simp [Eff.rightK, *], rfl⟩, hs.fitD⟩
          · refine K.seq <| K.seq <| K.region <| KO.q rfl (q_eq rfl rfl) <| KO.q rfl (q_assign rfl) <| KO.done ?_
            refine K.dcond (s := 51) rfl (fun g51 => ?_) (fun g51 => ?_)
            · refine K.skip <| K.yes rfl <| K.seq <| K.region <| KO.q rfl (q_field fo_58_1 rfl) <| KO.q rfl (q_load1D ck_9 rfl) <| KO.loud rfl (OpL.callD rfl (h := eff_Name _)) ?_
              rintro _ _ ⟨_, ⟨rfl, rfl⟩, rfl⟩
              refine KO.q rfl (q_move rfl) ?_
              refine KO.split 58 rfl (fun g58 => ?_) (fun g58 => ?_)
              · refine KO.q rfl (q_field fo_58_4 rfl) <| KO.q rfl (q_load1D ck_3 rfl) <| KO.loud rfl (OpL.callD rfl (h := eff_id _)) ?_
                rintro _ _ ⟨_, ⟨rfl, rfl⟩, rfl⟩
                refine KO.q rfl (q_pickT rfl rfl) <| KO.q rfl (q_assign rfl) <| KO.done ?_
                refine kr1 Tryz.func132 Tryz.results132 rfl (fun w hs => ?_)
                exact ⟨_, [], rfl, ⟨by rw [hr] <;> simp [Eff.rightK, *], rfl⟩, hs.fitD⟩
              · refine KO.skip rfl <| KO.skip rfl <| KO.skip rfl <| KO.q rfl (q_pickF rfl rfl) <| KO.q rfl (q_assign rfl) <| KO.done ?_
                refine kr1 Tryz.func132 Tryz.results132 rfl (fun w hs => ?_)
                exact ⟨_, [], rfl, ⟨by rw [hr] <;> simp [Eff.rightK, *], rfl⟩, hs.fitD⟩
            · refine K.seq <| K.region <| KO.q rfl (q_eq rfl rfl) <| KO.q rfl (q_assign rfl) <| KO.done ?_
              refine K.dcond (s := 51) rfl (fun g51 => ?_) (fun g51 => ?_)
              · refine K.skip <| K.yes rfl <| K.seq <| K.region <| KO.q rfl (q_field fo_58_1 rfl) <| KO.q rfl (q_load1D ck_9 rfl) <| KO.loud rfl (OpL.callD rfl (h := eff_Name _)) ?_
                rintro _ _ ⟨_, ⟨rfl, rfl⟩, rfl⟩
                refine KO.q rfl (q_move rfl) ?_
                refine KO.split 58 rfl (fun g58 => ?_) (fun g58 => ?_)
                · refine KO.q rfl (q_field fo_58_4 rfl) <| KO.q rfl (q_load1D ck_3 rfl) <| KO.loud rfl (OpL.callD rfl (h := eff_id _)) ?_
                  rintro _ _ ⟨_, ⟨rfl, rfl⟩, rfl⟩
                  refine KO.q rfl (q_pickT rfl rfl) <| KO.q rfl (q_assign rfl) <| KO.done ?_
                  refine kr1 Tryz.func132 Tryz.results132 rfl (fun w hs => ?_)
                  exact ⟨_, [], rfl, ⟨by rw [hr] <;> simp [Eff.rightK, *], rfl⟩, hs.fitD⟩
                · refine KO.skip rfl <| KO.skip rfl <| KO.skip rfl <| KO.q rfl (q_pickF rfl rfl) <| KO.q rfl (q_assign rfl) <| KO.done ?_
                  refine kr1 Tryz.func132 Tryz.results132 rfl (fun w hs => ?_)
                  exact ⟨_, [], rfl, ⟨by rw [hr] <;> simp [Eff.rightK, *], rfl⟩, hs.fitD⟩
              · refine K.region <| KO.q rfl (q_eq rfl rfl) <| KO.q rfl (q_assign rfl) <| KO.done ?_
                refine K.dcond (s := 51) rfl (fun g51 => ?_) (fun g51 => ?_)
                · refine K.seq <| K.region <| KO.q rfl (q_field fo_58_1 rfl) <| KO.q rfl (q_load1D ck_9 rfl) <| KO.loud rfl (OpL.callD rfl (h := eff_Name _)) ?_
                  rintro _ _ ⟨_, ⟨rfl, rfl⟩, rfl⟩
                  refine KO.q rfl (q_move rfl) ?_
                  refine KO.split 58 rfl (fun g58 => ?_) (fun g58 => ?_)
                  · refine KO.q rfl (q_field fo_58_4 rfl) <| KO.q rfl (q_load1D ck_3 rfl) <| KO.loud rfl (OpL.callD rfl (h := eff_id _)) ?_
                    rintro _ _ ⟨_, ⟨rfl, rfl⟩, rfl⟩
                    refine KO.q rfl (q_pickT rfl rfl) <| KO.q rfl (q_assign rfl) <| KO.done ?_
                    refine kr1 Tryz.func132 Tryz.results132 rfl (fun w hs => ?_)
                    exact ⟨_, [], rfl, ⟨by rw [hr] <;> simp [Eff.rightK, *], rfl⟩, hs.fitD⟩
                  · refine KO.skip rfl <| KO.skip rfl <| KO.skip rfl <| KO.q rfl (q_pickF rfl rfl) <| KO.q rfl (q_assign rfl) <| KO.done ?_
                    refine kr1 Tryz.func132 Tryz.results132 rfl (fun w hs => ?_)
                    exact ⟨_, [], rfl, ⟨by rw [hr] <;> simp [Eff.rightK, *], rfl⟩, hs.fitD⟩
                · refine K.seq <| K.region <| KO.q rfl (q_eq rfl rfl) <| KO.q rfl (q_assign rfl) <| KO.done ?_
                  refine K.dcond (s := 63) rfl (fun g63 => ?_) (fun g63 => ?_)
                  · refine K.seq <| K.region <| KO.q rfl (q_field fo_58_4 rfl) <| KO.q rfl (q_load1D ck_3 rfl) <| KO.loud rfl (OpL.callD rfl (h := eff_id _)) ?_
                    rintro _ _ ⟨_, ⟨rfl, rfl⟩, rfl⟩
                    refine KO.q rfl (q_assign rfl) <| KO.done ?_
                    refine kr1 Tryz.func132 Tryz.results132 rfl (fun w hs => ?_)
                    exact ⟨_, [], rfl, ⟨by rw [hr] <;> simp [Eff.rightK, *], rfl⟩, hs.fitD⟩
                  · refine K.skip <| K.inBlock <| K.seq <| K.region <| KO.q rfl (q_assign rfl) <| KO.done ?_
                    refine kr1 Tryz.func132 Tryz.results132 rfl (fun w hs => ?_)
                    exact ⟨_, [], rfl, ⟨by rw [hr] <;> simp [Eff.rightK, *], rfl⟩, hs.fitD⟩
end Go.Proofs.YtkbhldicnamcdaaGreat.L

namespace Go.Proofs.YtkbhldicnamcdaaGreat.L
open Go
def cmpI (a b : Int) : Int := if a < b then -1 else if b < a then 1 else 0
def cmpL : List UInt8 → List UInt8 → Int
  | [], [] => 0
  | [], _ :: _ => -1
  | _ :: _, [] => 1
  | x :: xs, y :: ys => if x < y then -1 else if y < x then 1 else cmpL xs ys
def cmpB (a b : ByteArray) : Int := cmpL (bytesOf a) (bytesOf b)
theorem cmpL_less : ∀ l m : List UInt8, cmpL l m = if Op.bytesLess l m = true then -1 else if l = m then 0 else 1
  | [], [] => by simp [cmpL, Op.bytesLess]
  | [], _ :: _ => by simp [cmpL, Op.bytesLess]
  | _ :: _, [] => by simp [cmpL, Op.bytesLess]
  | x :: xs, y :: ys => by
    have ih := cmpL_less xs ys
    unfold cmpL Op.bytesLess
    rw [ih]
    by_cases h1 : x < y
    · simp [h1]
    · by_cases h2 : y < x
      · have hne : ¬ x = y := fun e => by subst e; exact UInt8.lt_irrefl _ h2
        simp [h1, h2, hne]
      · have he : x = y := by
          apply UInt8.toNat.inj
          have a1 := (not_congr UInt8.lt_iff_toNat_lt).1 h1
          have a2 := (not_congr UInt8.lt_iff_toNat_lt).1 h2
          omega
        subst he
        simp [h1]
theorem bytesOf_inj {a b : ByteArray} : bytesOf a = bytesOf b ↔ a = b := by
  refine ⟨fun h => ?_, fun h => by rw [h]⟩
  rw [← bytesOf_mk a, ← bytesOf_mk b, h]
theorem toList_bytesOf (a : ByteArray) : a.toList = bytesOf a := by rw [ByteArray.toList_eq]; rfl
theorem cmpB_less (a b : ByteArray) : cmpB a b = if Op.bytesLess a.toList b.toList = true then -1 else if a = b then 0 else 1 := by
  unfold cmpB
  rw [cmpL_less, toList_bytesOf, toList_bytesOf]
  simp only [bytesOf_inj]
theorem cmpL_self (l : List UInt8) : cmpL l l = 0 := by
  induction l with
  | nil => rfl
  | cons x l ih => simp [cmpL, ih, UInt8.lt_irrefl]
theorem cmpL_zero : ∀ {l m : List UInt8}, cmpL l m = 0 → l = m
  | [], [], _ => rfl
  | [], _ :: _, h => by simp [cmpL] at h
  | _ :: _, [], h => by simp [cmpL] at h
  | x :: xs, y :: ys, h => by
    unfold cmpL at h
    split at h
    · cases h
    · split at h
      · cases h
      · rename_i h1 h2
        have he : x = y := by
          apply UInt8.toNat.inj
          have a1 := (not_congr UInt8.lt_iff_toNat_lt).1 h1
          have a2 := (not_congr UInt8.lt_iff_toNat_lt).1 h2
          omega
        rw [he, cmpL_zero h]
theorem cmpB_self (a : ByteArray) : cmpB a a = 0 := cmpL_self _
theorem cmpB_zero {a b : ByteArray} : cmpB a b = 0 ↔ a = b := ⟨fun h => bytesOf_inj.1 (cmpL_zero h), fun h => by rw [h]; exact cmpB_self _⟩
def idxP {α : Type} (p : α → Bool) (l : List α) : Int := match l.findIdx? p with | some i => (i : Int) | none => -1
theorem idxP_some {α : Type} {p : α → Bool} {l : List α} {i : Nat} {x : α} (hx : l[i]? = some x) (hp : p x = true) (h : (l.take i).any p = false) : idxP p l = i := by
  have : l.findIdx? p = some i := by
    rw [List.findIdx?_eq_some_iff_getElem]
    obtain ⟨hi, e⟩ := List.getElem?_eq_some_iff.1 hx
    refine ⟨hi, by rw [e]; exact hp, fun j hj => ?_⟩
    rw [List.any_eq_false] at h
    have := h l[j] (List.mem_take_iff_getElem.2 ⟨j, by omega, rfl⟩)
    simpa using this
  unfold idxP
  rw [this]
theorem idxP_none {α : Type} {p : α → Bool} {l : List α} (h : l.any p = false) : idxP p l = -1 := by
  have : l.findIdx? p = none := by
    rw [List.findIdx?_eq_none_iff]
    intro x hx
    rw [List.any_eq_false] at h
    simpa using h x hx
  unfold idxP
  rw [this]
theorem idxP_any {α : Type} (p : α → Bool) (l : List α) : decide (0 ≤ idxP p l) = l.any p := by
  unfold idxP
  cases h : l.findIdx? p with
  | none =>
    rw [List.findIdx?_eq_none_iff] at h
    have : l.any p = false := by rw [List.any_eq_false]; intro x hx; simp [h x hx]
    rw [this]; rfl
  | some i =>
    rw [List.findIdx?_eq_some_iff_getElem] at h
    obtain ⟨hi, h1, _⟩ := h
    have : l.any p = true := List.any_eq_true.2 ⟨l[i], List.getElem_mem hi, h1⟩
    rw [this]
    exact decide_eq_true (show (0 : Int) ≤ (i : Int) by omega)
theorem any_take_succ {α : Type} {p : α → Bool} {l : List α} {i : Nat} {x : α} (hx : l[i]? = some x) : (l.take (i + 1)).any p = ((l.take i).any p || p x) := by
  rw [List.take_add_one, hx]; simp [List.any_append]
theorem all_take_succ {α : Type} {p : α → Bool} {l : List α} {i : Nat} {x : α} (hx : l[i]? = some x) : (l.take (i + 1)).all p = ((l.take i).all p && p x) := by
  rw [List.take_add_one, hx]; simp [List.all_append]
def adj {α : Type} (f : α → α → Bool) : List α → Bool
  | [] => true
  | [_] => true
  | a :: b :: l => f a b && adj f (b :: l)
theorem adj_snoc {α : Type} (f : α → α → Bool) : ∀ (l : List α) (a b : α), adj f (l ++ [a, b]) = (adj f (l ++ [a]) && f a b)
  | [], a, b => by simp [adj]
  | [c], a, b => by simp [adj]
  | c :: d :: l, a, b => by
    have := adj_snoc f (d :: l) a b
    simp only [List.cons_append] at this ⊢
    simp only [adj]
    rw [this, Bool.and_assoc]
theorem adj_take_succ {α : Type} {f : α → α → Bool} {l : List α} {i : Nat} {x y : α} (hx : l[i]? = some x) (hy : l[i + 1]? = some y) : adj f (l.take (i + 2)) = (adj f (l.take (i + 1)) && f x y) := by
  have e1 : l.take (i + 1) = l.take i ++ [x] := by rw [List.take_add_one, hx]; rfl
  have e2 : l.take (i + 2) = l.take i ++ [x, y] := by rw [List.take_add_one, hy, e1]; simp
  rw [e1, e2, adj_snoc]
theorem adj_take_one {α : Type} (f : α → α → Bool) (l : List α) : adj f (l.take 1) = true := by cases l <;> simp [adj]
theorem adj_prefix {α : Type} {f : α → α → Bool} : ∀ {l m : List α}, adj f (l ++ m) = true → adj f l = true
  | [], _, _ => rfl
  | [_], _, _ => rfl
  | a :: b :: l, m, h => by
    simp only [List.cons_append, adj, Bool.and_eq_true] at h ⊢
    exact ⟨h.1, adj_prefix (l := b :: l) h.2⟩
theorem adj_take {α : Type} {f : α → α → Bool} {l : List α} (h : adj f l = true) (i : Nat) : adj f (l.take i) = true := by
  rw [← List.take_append_drop i l] at h
  exact adj_prefix h
theorem adj_false_take {α : Type} {f : α → α → Bool} {l : List α} {i : Nat} (h : adj f (l.take i) = false) : adj f l = false := by
  cases ha : adj f l with
  | false => rfl
  | true => rw [adj_take ha] at h; cases h
theorem pv_ints {ρ : World} {L : List HP} {w : World} {b e : Nat} {cs : List Value} (xs : List Int) (hc : cs = xs.map fun n => Value.int .i64 n) (h : St ρ (pv b e cs :: L) w) : St ρ (RowF (Kd.int .i64) (some ⟨b, 0, none⟩) xs :: L) w := by
  refine pv_flat (enc := fun n => [Value.int .i64 n]) xs ?_ h
  rw [hc]
  clear h hc
  induction xs with
  | nil => rfl
  | cons x xs ih => simp [ih]
def emp : HP := HP.own (fun _ _ => True) (fun _ h => h)
theorem St.emp {ρ : World} {L : List HP} {w : World} (h : St ρ L w) : St ρ (emp :: L) w := by
  obtain ⟨g, k, a, b, c, d⟩ := h.body
  exact ⟨h.os, h.tape, h.output, g, k, a, b, c, fun _ => none, k, fun _ => .inl rfl, Hp.none_le _, Hp.le_refl _, trivial, d⟩
theorem Fn.frame1 {P : Program} {f : FuncId} {args : Array Value} {x : Value} (R : HP) (h : Fn P f args [] (fun v post => v = x ∧ post = [])) : Fn P f args [R] (fun v post => v = x ∧ post = [R]) :=
  ⟨h.1, fun ρ L w hs => (h.2 ρ (R :: L) w hs).mono fun _ _ ⟨v, post, he, ⟨hv, hp⟩, hs'⟩ => ⟨v, [R], he, ⟨hv, rfl⟩, by subst hp; exact hs'⟩⟩
end Go.Proofs.YtkbhldicnamcdaaGreat.L
namespace Go.Proofs.YtkbhldicnamcdaaGreat.L
open Go
def cmpM (a b : Msg) : Int := if a.pri = b.pri then cmpI a.id b.id else cmpI a.pri b.pri
end Go.Proofs.YtkbhldicnamcdaaGreat.L
namespace Go.Proofs.YtkbhldicnamcdaaGreat.L
open Go Go.Proofs
attribute [local irreducible] pv fv pt fz RowF RowO rowP old pure_ elA Rd.int Rd.text Rd.flag Rd.msg Rd.rint Rd.rtext Rd.rflag Rd.rmsg
set_option maxRecDepth 100000
set_option linter.unusedSimpArgs false
set_option linter.unusedVariables false
theorem nan_str (a : ByteArray) : Fn Tryz.prog 207 [.string a].toArray [] (fun r post => r = .bool false ∧ post = []) := by
  refine Fn.enter (N := 6) Tryz.func207 rfl Tryz.ntmps207 tK rfl (fun ρ L => ?_)
  refine K.seq <| K.region <| KO.q rfl (q_assign rfl) <| KO.done <| K.seq <| K.region <| KO.q rfl (q_move rfl) <| KO.q rfl (q_move rfl) <| KO.q rfl (q_sneF rfl rfl (rfl)) <| KO.q rfl (q_assign rfl) ?_
  refine KO.done ?_
  refine kr1 Tryz.func207 Tryz.results207 rfl (fun w hs => ?_)
  exact ⟨_, [], rfl, ⟨rfl, rfl⟩, hs.fitD⟩
theorem nan_int (a : Int) : Fn Tryz.prog 229 [.int .i64 a].toArray [] (fun r post => r = .bool false ∧ post = []) := by
  refine Fn.enter (N := 6) Tryz.func229 rfl Tryz.ntmps229 tK rfl (fun ρ L => ?_)
  refine K.seq <| K.region <| KO.q rfl (q_assign rfl) <| KO.done <| K.seq <| K.region <| KO.q rfl (q_move rfl) <| KO.q rfl (q_move rfl) <| KO.q rfl (q_neF rfl rfl (rfl)) <| KO.q rfl (q_assign rfl) ?_
  refine KO.done ?_
  refine kr1 Tryz.func229 Tryz.results229 rfl (fun w hs => ?_)
  exact ⟨_, [], rfl, ⟨rfl, rfl⟩, hs.fitD⟩
theorem cmp_str (a b : ByteArray) : Fn Tryz.prog 184 [.string a, .string b].toArray [] (fun r post => r = .int .i64 (cmpB a b) ∧ post = []) := by
  refine Fn.enter (N := 20) Tryz.func184 rfl Tryz.ntmps184 tK rfl (fun ρ L => ?_)
  refine K.seq <| K.region <| KO.q rfl (q_assign rfl) <| KO.done <| K.seq <| K.region <| KO.q rfl (q_move rfl) <| KO.loud rfl (OpL.callD rfl (h := nan_str _)) ?_
  rintro _ _ ⟨_, ⟨rfl, rfl⟩, rfl⟩
  refine KO.q rfl (q_assign rfl) <| KO.done <| K.seq <| K.region <| KO.q rfl (q_move rfl) <| KO.loud rfl (OpL.callD rfl (h := nan_str _)) ?_
  rintro _ _ ⟨_, ⟨rfl, rfl⟩, rfl⟩
  refine KO.q rfl (q_assign rfl) <| KO.done <| K.seq <| K.seq <| K.region <| KO.q rfl (q_move rfl) <| KO.done <| K.no rfl <| K.skip <| K.seq <| K.seq <| K.region <| KO.q rfl (q_move rfl) ?_
  refine KO.done <| K.no rfl <| K.skip <| K.seq <| K.seq <| K.region <| KO.q rfl (q_move rfl) <| KO.q rfl (q_move rfl) <| KO.q rfl (q_slt rfl rfl) <| KO.done ?_
  refine K.bcond (s := 16) rfl (fun g16 => ?_) (fun g16 => ?_)
  · refine K.seq <| K.region <| KO.q rfl (q_assign rfl) <| KO.done ?_
    refine kr1 Tryz.func184 Tryz.results184 rfl (fun w hs => ?_)
    exact ⟨_, [], rfl, ⟨by rw [cmpB_less]; simp_all, rfl⟩, hs.fitD⟩
  · refine K.skip <| K.seq <| K.seq <| K.region <| KO.q rfl (q_move rfl) <| KO.q rfl (q_move rfl) <| KO.q rfl (q_sgt rfl rfl) <| KO.done ?_
    refine K.bcond (s := 19) rfl (fun g19 => ?_) (fun g19 => ?_)
    · refine K.seq <| K.region <| KO.q rfl (q_assign rfl) <| KO.done ?_
      refine kr1 Tryz.func184 Tryz.results184 rfl (fun w hs => ?_)
      exact ⟨_, [], rfl, ⟨by rw [cmpB_less]; simp_all, rfl⟩, hs.fitD⟩
    · refine K.skip <| K.seq <| K.region <| KO.q rfl (q_assign rfl) <| KO.done ?_
      refine kr1 Tryz.func184 Tryz.results184 rfl (fun w hs => ?_)
      exact ⟨_, [], rfl, ⟨by rw [cmpB_less]; simp_all, rfl⟩, hs.fitD⟩
theorem cmp_int (a b : Int) : Fn Tryz.prog 219 [.int .i64 a, .int .i64 b].toArray [] (fun r post => r = .int .i64 (cmpI a b) ∧ post = []) := by
  refine Fn.enter (N := 20) Tryz.func219 rfl Tryz.ntmps219 tK rfl (fun ρ L => ?_)
  refine K.seq <| K.region <| KO.q rfl (q_assign rfl) <| KO.done <| K.seq <| K.region <| KO.q rfl (q_move rfl) <| KO.loud rfl (OpL.callD rfl (h := nan_int _)) ?_
  rintro _ _ ⟨_, ⟨rfl, rfl⟩, rfl⟩
  refine KO.q rfl (q_assign rfl) <| KO.done <| K.seq <| K.region <| KO.q rfl (q_move rfl) <| KO.loud rfl (OpL.callD rfl (h := nan_int _)) ?_
  rintro _ _ ⟨_, ⟨rfl, rfl⟩, rfl⟩
  refine KO.q rfl (q_assign rfl) <| KO.done <| K.seq <| K.seq <| K.region <| KO.q rfl (q_move rfl) <| KO.done <| K.no rfl <| K.skip <| K.seq <| K.seq <| K.region <| KO.q rfl (q_move rfl) ?_
  refine KO.done <| K.no rfl <| K.skip <| K.seq <| K.seq <| K.region <| KO.q rfl (q_move rfl) <| KO.q rfl (q_move rfl) <| KO.q rfl (q_lt rfl rfl) <| KO.done ?_
  refine K.dcond (s := 16) rfl (fun g16 => ?_) (fun g16 => ?_)
  · refine K.seq <| K.region <| KO.q rfl (q_assign rfl) <| KO.done ?_
    refine kr1 Tryz.func219 Tryz.results219 rfl (fun w hs => ?_)
    exact ⟨_, [], rfl, ⟨by refine congrArg (Value.int .i64) ?_; unfold cmpI; (repeat' split) <;> omega, rfl⟩, hs.fitD⟩
  · refine K.skip <| K.seq <| K.seq <| K.region <| KO.q rfl (q_move rfl) <| KO.q rfl (q_move rfl) <| KO.q rfl (q_gt rfl rfl) <| KO.done ?_
    refine K.dcond (s := 19) rfl (fun g19 => ?_) (fun g19 => ?_)
    · refine K.seq <| K.region <| KO.q rfl (q_assign rfl) <| KO.done ?_
      refine kr1 Tryz.func219 Tryz.results219 rfl (fun w hs => ?_)
      exact ⟨_, [], rfl, ⟨by refine congrArg (Value.int .i64) ?_; unfold cmpI; (repeat' split) <;> omega, rfl⟩, hs.fitD⟩
    · refine K.skip <| K.seq <| K.region <| KO.q rfl (q_assign rfl) <| KO.done ?_
      refine kr1 Tryz.func219 Tryz.results219 rfl (fun w hs => ?_)
      exact ⟨_, [], rfl, ⟨by refine congrArg (Value.int .i64) ?_; unfold cmpI; (repeat' split) <;> omega, rfl⟩, hs.fitD⟩
theorem ord_Keys (a b : ByteArray) : Fn Tryz.prog 134 [.string a, .string b].toArray [] (fun r post => r = .int .i64 (cmpB a b) ∧ post = []) := by
  refine Fn.enter (N := 8) Tryz.func134 rfl Tryz.ntmps134 tK rfl (fun ρ L => ?_)
  refine K.seq <| K.region <| KO.q rfl (q_assign rfl) <| KO.done <| K.seq <| K.region <| KO.q rfl (q_move rfl) <| KO.q rfl (q_move rfl) <| KO.loud rfl (OpL.callD rfl (h := cmp_str _ _)) ?_
  rintro _ _ ⟨_, ⟨rfl, rfl⟩, rfl⟩
  refine KO.q rfl (q_assign rfl) <| KO.done ?_
  refine kr1 Tryz.func134 Tryz.results134 rfl (fun w hs => ?_)
  exact ⟨_, [], rfl, ⟨rfl, rfl⟩, hs.fitD⟩
theorem find_nz {xs : List Int} {i : Nat} {v : Int} (hv : xs[i]? = some v) (h : ∀ x ∈ xs.take i, x = 0) (hne : v ≠ 0) : (xs.find? (fun v => decide (v ≠ 0))).getD 0 = v := by
  have e : xs = xs.take i ++ (v :: xs.drop (i + 1)) := by
    obtain ⟨hi, e⟩ := List.getElem?_eq_some_iff.1 hv
    rw [← e, List.getElem_cons_drop hi, List.take_append_drop]
  rw [e, List.find?_append]
  have : (xs.take i).find? (fun v => decide (v ≠ 0)) = none := by
    rw [List.find?_eq_none]; intro x hx; simp [h x hx]
  rw [this]
  simp [hne]
theorem find_nz_none {xs : List Int} (h : ∀ x ∈ xs, x = 0) : (xs.find? (fun v => decide (v ≠ 0))).getD 0 = 0 := by
  have : xs.find? (fun v => decide (v ≠ 0)) = none := by
    rw [List.find?_eq_none]; intro x hx; simp [h x hx]
  rw [this]; rfl
theorem or_int (q : Option Addr) (cap : Nat) (xs : List Int) (hl : (xs.length : Int) ≤ 9223372036854775807) : Fn Tryz.prog 218 [.slice q xs.length cap].toArray [RowF (Kd.int .i64) q xs] (fun r post => r = .int .i64 ((xs.find? (fun v => decide (v ≠ 0))).getD 0) ∧ post = []) := by
  refine Fn.enter (N := 18) Tryz.func218 rfl Tryz.ntmps218 tK rfl (fun ρ L => ?_)
  refine K.seq <| K.region <| KO.q rfl (q_assign rfl) <| KO.done <| K.seq <| K.region <| KO.q rfl (q_assign rfl) <| KO.done <| K.seq <| K.seq <| K.region ?_
  refine KO.q rfl (q_move rfl) <| KO.q rfl (q_len Tryz.underlying22 rfl) <| KO.q rfl (q_move rfl) <| KO.done <| K.block ?_
  refine K.rloop (ι := { i : Nat // i ≤ xs.length ∧ ∀ x ∈ xs.take i, x = 0 }) (fun x => [(8, .int .i64 x.1), (7, .int .i64 xs.length), (6, .slice q xs.length cap), (3, .int .i64 0)]) (fun x => xs.length - x.1) ⟨0, Nat.zero_le _, by simp⟩ tS (fun x ih => ?_)
  obtain ⟨i, hi, hz⟩ := x
  dsimp only at hi hz ⊢
  refine K.seq <| K.region <| KO.q rfl (q_lt rfl rfl) <| KO.done <| K.seq ?_
  refine K.dcond (s := 9) rfl (fun g9 => ?_) (fun g9 => ?_)
  · obtain ⟨e, he⟩ : ∃ e, xs[i]? = some e := ⟨_, List.getElem?_eq_getElem tO⟩
    refine K.skip <| K.seq <| K.block <| K.seq <| K.region ?_
    first | refine KO.q rfl (q_ix _ se_22 rfl rfl rfl isF tM rfl tL) ?_ | refine KO.q rfl (q_ix _ se_22 rfl rfl rfl isO tM rfl tL) ?_
    first | refine KO.q rfl (q_ldE ck_3 rfl isF tM tE rfl) ?_ | refine KO.q rfl (q_ldE ck_3 rfl isO tM tE rfl) ?_
    refine KO.q rfl (q_assign rfl) <| KO.done <| K.seq <| K.region <| KO.q rfl (q_move rfl) <| KO.q rfl (q_move rfl) <| KO.q rfl (q_ne rfl rfl) <| KO.done ?_
    refine K.dcond (s := 14) rfl (fun g14 => ?_) (fun g14 => ?_)
    · have hr := find_nz he hz g14
      rw [hr]
      refine K.seq <| K.region <| KO.q rfl (q_move rfl) <| KO.q rfl (q_assign rfl) <| KO.done ?_
      refine kr1 Tryz.func218 Tryz.results218 rfl (fun w hs => ?_)
      exact ⟨_, [], rfl, ⟨rfl, rfl⟩, hs.fitD⟩
    · refine K.skip <| K.inBlock <| K.region <| KO.q rfl (q_add rfl rfl tN tN) <| KO.q rfl (q_move rfl) <| KO.done ?_
      exact K.subE tS (ih ⟨i + 1, by omega, fun x hx => by
        rw [List.take_add_one, he] at hx
        rcases List.mem_append.1 hx with h | h
        · exact hz x h
        · rw [List.mem_singleton.1 h]; exact Decidable.not_not.1 g14⟩ (by show xs.length - (i + 1) < xs.length - i; omega))
  · have hr := find_nz_none (xs := xs) (fun x hx => hz x (by rw [List.take_of_length_le tO]; exact hx))
    rw [hr]
    refine K.exit rfl <| K.seq <| K.region <| KO.q rfl (q_move rfl) <| KO.q rfl (q_assign rfl) <| KO.done ?_
    refine kr1 Tryz.func218 Tryz.results218 rfl (fun w hs => ?_)
    exact ⟨_, [], rfl, ⟨rfl, rfl⟩, hs.fitD⟩
theorem ord_Msgs (a b : Msg) : Fn Tryz.prog 205 [.agg a.cells.toArray, .agg b.cells.toArray].toArray [] (fun r post => r = .int .i64 (cmpM a b) ∧ post = []) := by
  refine Fn.enter (N := 17) Tryz.func205 rfl Tryz.ntmps205 tK rfl (fun ρ L => ?_)
  refine K.seq <| K.region <| KO.loud rfl (l_box rfl rfl) ?_
  rintro _ _ ⟨b2, rfl, rfl⟩
  refine KO.loud rfl (l_box rfl rfl) ?_
  rintro _ _ ⟨b3, rfl, rfl⟩
  refine KO.q rfl (q_assign rfl) <| KO.done <| K.seq ?_
  refine K.drawU (by repeat (first | apply SubL.pers | apply SubL.own (b := b2) | apply SubL.own (b := b3) | apply SubL.drop | exact SubL.none)) mixed ?_
  refine dq 0 rfl (q_field fo_56_1 rfl) <| dq 1 rfl (q_load1D ck_3 rfl) <| dq 2 rfl (q_field fo_56_1 rfl) <| dq 3 rfl (q_load1D ck_3 rfl) <| dq 5 rfl (q_field fo_56_0 rfl) <| dq 6 rfl (q_load1D ck_3 rfl) <| dq 7 rfl (q_field fo_56_0 rfl) <| dq 8 rfl (q_load1D ck_3 rfl) <| dq1 4 rfl (OpL.callD rfl (h := cmp_int _ _)) (.inr (by rintro _ _ ⟨_, ⟨rfl, rfl⟩, rfl⟩ w h; exact h.subD)) ?_
  rintro _ _ ⟨_, ⟨rfl, rfl⟩, rfl⟩
  refine dq1 9 rfl (OpL.callD rfl (h := cmp_int _ _)) (.inr (by rintro _ _ ⟨_, ⟨rfl, rfl⟩, rfl⟩ w h; exact h.subD)) ?_
  rintro _ _ ⟨_, ⟨rfl, rfl⟩, rfl⟩
  refine dq1 10 rfl (l_slice sz_22_2 rfl tF) (.inr (by rintro _ _ ⟨b15, rfl, rfl⟩ w h; exact h.subD)) ?_
  rintro _ _ ⟨b15, rfl, rfl⟩
  refine D.st (fun w h => pv_ints [cmpI a.pri b.pri, cmpI a.id b.id] rfl h) <| dq1 11 rfl (OpL.callE rfl (or_int (some ⟨b15, 0, none⟩) 2 [cmpI a.pri b.pri, cmpI a.id b.id] (by simp))) (.inr (by rintro _ _ ⟨_, ⟨rfl, rfl⟩, rfl⟩ w h; exact h.subD)) ?_
  rintro _ _ ⟨_, ⟨rfl, rfl⟩, rfl⟩
  refine dq 12 rfl (q_assign rfl) <| D.done tK ?_
  refine kr1 Tryz.func205 Tryz.results205 rfl (fun w hs => ?_)
  refine ⟨_, [], rfl, ⟨?_, rfl⟩, hs.fitD⟩
  refine congrArg (Value.int .i64) ?_
  unfold cmpM cmpI
  (repeat' split) <;> first | omega | (simp_all; done) | (simp_all; omega)
theorem ref_Msgs (a b : Msg) : Fn Tryz.prog 152 [.agg a.cells.toArray, .agg b.cells.toArray].toArray [] (fun r post => r = .int .i64 (cmpM a b) ∧ post = []) := by
  refine Fn.enter (N := 38) Tryz.func152 rfl Tryz.ntmps152 tK rfl (fun ρ L => ?_)
  refine K.seq <| K.region <| KO.loud rfl (l_box rfl rfl) ?_
  rintro _ _ ⟨b2, rfl, rfl⟩
  refine KO.loud rfl (l_box rfl rfl) ?_
  rintro _ _ ⟨b3, rfl, rfl⟩
  refine KO.q rfl (q_assign rfl) <| KO.done <| K.seq <| K.block <| K.seq <| K.region <| KO.q rfl (q_field fo_56_1 rfl) <| KO.q rfl (q_load1D ck_3 rfl) <| KO.q rfl (q_field fo_56_1 rfl) <| KO.q rfl (q_load1D ck_3 rfl) <| KO.q rfl (q_lt rfl rfl) <| KO.q rfl (q_move rfl) ?_
  refine KO.dsplit 11 rfl (fun g11 => ?_) (fun g11 => ?_)
  · refine KO.skip rfl <| KO.skip rfl <| KO.skip rfl <| KO.skip rfl <| KO.skip rfl <| KO.skip rfl <| KO.gone rfl <| KO.gone rfl <| KO.gone rfl <| KO.gone rfl ?_
    refine KO.gone rfl <| KO.skip rfl <| KO.q rfl (q_pickT rfl rfl) <| KO.q rfl (q_assign rfl) <| KO.done <| K.yes rfl <| K.seq <| K.region <| KO.q rfl (q_assign rfl) <| KO.done ?_
    refine kr1 Tryz.func152 Tryz.results152 rfl (fun w hs => ?_)
    exact ⟨_, [], rfl, ⟨by refine congrArg (Value.int .i64) ?_; unfold cmpM cmpI; (repeat' split) <;> omega, rfl⟩, hs.fitD⟩
  · refine KO.q rfl (q_field fo_56_1 rfl) <| KO.q rfl (q_load1D ck_3 rfl) <| KO.q rfl (q_field fo_56_1 rfl) <| KO.q rfl (q_load1D ck_3 rfl) <| KO.q rfl (q_eq rfl rfl) <| KO.q rfl (q_move rfl) ?_
    refine KO.dsplit 17 rfl (fun g17 => ?_) (fun g17 => ?_)
    · refine KO.q rfl (q_field fo_56_0 rfl) <| KO.q rfl (q_load1D ck_3 rfl) <| KO.q rfl (q_field fo_56_0 rfl) <| KO.q rfl (q_load1D ck_3 rfl) <| KO.q rfl (q_lt rfl rfl) <| KO.q rfl (q_pickT rfl rfl) <| KO.q rfl (q_pickF rfl rfl) <| KO.q rfl (q_assign rfl) <| KO.done ?_
      refine K.dcond (s := 5) rfl (fun g5 => ?_) (fun g5 => ?_)
      · refine K.seq <| K.region <| KO.q rfl (q_assign rfl) <| KO.done ?_
        refine kr1 Tryz.func152 Tryz.results152 rfl (fun w hs => ?_)
        exact ⟨_, [], rfl, ⟨by refine congrArg (Value.int .i64) ?_; unfold cmpM cmpI; (repeat' split) <;> omega, rfl⟩, hs.fitD⟩
      · refine K.seq <| K.region <| KO.q rfl (q_field fo_56_1 rfl) <| KO.q rfl (q_load1D ck_3 rfl) <| KO.q rfl (q_field fo_56_1 rfl) <| KO.q rfl (q_load1D ck_3 rfl) <| KO.q rfl (q_gt rfl rfl) <| KO.q rfl (q_move rfl) ?_
        refine KO.dsplit 31 rfl (fun g31 => ?_) (fun g31 => ?_)
        · refine KO.skip rfl <| KO.skip rfl <| KO.skip rfl <| KO.skip rfl <| KO.skip rfl <| KO.q rfl (q_pickT rfl rfl) <| KO.q rfl (q_assign rfl) <| KO.done <| K.yes rfl <| K.seq ?_
          refine K.region <| KO.q rfl (q_assign rfl) <| KO.done ?_
          refine kr1 Tryz.func152 Tryz.results152 rfl (fun w hs => ?_)
          exact ⟨_, [], rfl, ⟨by refine congrArg (Value.int .i64) ?_; unfold cmpM cmpI; (repeat' split) <;> omega, rfl⟩, hs.fitD⟩
        · refine KO.q rfl (q_field fo_56_0 rfl) <| KO.q rfl (q_load1D ck_3 rfl) <| KO.q rfl (q_field fo_56_0 rfl) <| KO.q rfl (q_load1D ck_3 rfl) <| KO.q rfl (q_gt rfl rfl) <| KO.q rfl (q_pickF rfl rfl) <| KO.q rfl (q_assign rfl) <| KO.done ?_
          refine K.dcond (s := 25) rfl (fun g25 => ?_) (fun g25 => ?_)
          · refine K.seq <| K.region <| KO.q rfl (q_assign rfl) <| KO.done ?_
            refine kr1 Tryz.func152 Tryz.results152 rfl (fun w hs => ?_)
            exact ⟨_, [], rfl, ⟨by refine congrArg (Value.int .i64) ?_; unfold cmpM cmpI; (repeat' split) <;> omega, rfl⟩, hs.fitD⟩
          · refine K.skip <| K.inBlock <| K.seq <| K.region <| KO.q rfl (q_assign rfl) <| KO.done ?_
            refine kr1 Tryz.func152 Tryz.results152 rfl (fun w hs => ?_)
            exact ⟨_, [], rfl, ⟨by refine congrArg (Value.int .i64) ?_; unfold cmpM cmpI; (repeat' split) <;> omega, rfl⟩, hs.fitD⟩
    · refine KO.skip rfl <| KO.skip rfl <| KO.skip rfl <| KO.skip rfl <| KO.skip rfl <| KO.q rfl (q_pickF rfl rfl) <| KO.q rfl (q_pickF rfl rfl) <| KO.q rfl (q_assign rfl) <| KO.done <| K.no rfl ?_
      refine K.seq <| K.region <| KO.q rfl (q_field fo_56_1 rfl) <| KO.q rfl (q_load1D ck_3 rfl) <| KO.q rfl (q_field fo_56_1 rfl) <| KO.q rfl (q_load1D ck_3 rfl) <| KO.q rfl (q_gt rfl rfl) <| KO.q rfl (q_move rfl) ?_
      refine KO.dsplit 31 rfl (fun g31 => ?_) (fun g31 => ?_)
      · refine KO.skip rfl <| KO.skip rfl <| KO.skip rfl <| KO.skip rfl <| KO.skip rfl <| KO.q rfl (q_pickT rfl rfl) <| KO.q rfl (q_assign rfl) <| KO.done <| K.yes rfl <| K.seq ?_
        refine K.region <| KO.q rfl (q_assign rfl) <| KO.done ?_
        refine kr1 Tryz.func152 Tryz.results152 rfl (fun w hs => ?_)
        exact ⟨_, [], rfl, ⟨by refine congrArg (Value.int .i64) ?_; unfold cmpM cmpI; (repeat' split) <;> omega, rfl⟩, hs.fitD⟩
      · refine KO.q rfl (q_field fo_56_0 rfl) <| KO.q rfl (q_load1D ck_3 rfl) <| KO.q rfl (q_field fo_56_0 rfl) <| KO.q rfl (q_load1D ck_3 rfl) <| KO.q rfl (q_gt rfl rfl) <| KO.q rfl (q_pickF rfl rfl) <| KO.q rfl (q_assign rfl) <| KO.done ?_
        refine K.dcond (s := 25) rfl (fun g25 => ?_) (fun g25 => ?_)
        · refine K.seq <| K.region <| KO.q rfl (q_assign rfl) <| KO.done ?_
          refine kr1 Tryz.func152 Tryz.results152 rfl (fun w hs => ?_)
          exact ⟨_, [], rfl, ⟨by refine congrArg (Value.int .i64) ?_; unfold cmpM cmpI; (repeat' split) <;> omega, rfl⟩, hs.fitD⟩
        · refine K.skip <| K.inBlock <| K.seq <| K.region <| KO.q rfl (q_assign rfl) <| KO.done ?_
          refine kr1 Tryz.func152 Tryz.results152 rfl (fun w hs => ?_)
          exact ⟨_, [], rfl, ⟨by refine congrArg (Value.int .i64) ?_; unfold cmpM cmpI; (repeat' split) <;> omega, rfl⟩, hs.fitD⟩
theorem ref_FindMsg (q : Option Addr) (cap : Nat) (l : List Msg) (n : Int) (hl : (l.length : Int) ≤ 9223372036854775807) : Fn Tryz.prog 153 [.slice q l.length cap, .int .i64 n].toArray [RowF Kd.msg q l] (fun r post => r = .int .i64 (idxP (fun m => decide (m.id = n)) l) ∧ post = []) := by
  refine Fn.enter (N := 20) Tryz.func153 rfl Tryz.ntmps153 tK rfl (fun ρ L => ?_)
  refine K.seq <| K.region <| KO.q rfl (q_assign rfl) <| KO.done <| K.seq <| K.seq <| K.region <| KO.q rfl (q_assign rfl) <| KO.done <| K.block ?_
  refine K.rloop (ι := { i : Nat // i ≤ l.length ∧ (l.take i).any (fun m => decide (m.id = n)) = false }) (fun x => [(5, .int .i64 x.1), (0, .slice q l.length cap), (1, .int .i64 n)]) (fun x => l.length - x.1) ⟨0, Nat.zero_le _, rfl⟩ tS (fun x ih => ?_)
  obtain ⟨i, hi, hz⟩ := x
  dsimp only at hi hz ⊢
  refine K.seq <| K.seq <| K.region <| KO.q rfl (q_move rfl) <| KO.q rfl (q_move rfl) <| KO.q rfl (q_len Tryz.underlying60 rfl) <| KO.q rfl (q_lt rfl rfl) <| KO.done ?_
  refine K.dcond (s := 9) rfl (fun g9 => ?_) (fun g9 => ?_)
  · obtain ⟨e, he⟩ : ∃ e, l[i]? = some e := ⟨_, List.getElem?_eq_getElem tO⟩
    refine K.skip <| K.seq <| K.block <| K.seq <| K.region <| KO.q rfl (q_move rfl) <| KO.q rfl (q_move rfl) ?_
    first | refine KO.q rfl (q_ix _ se_60 rfl rfl rfl isF tM rfl tL) ?_ | refine KO.q rfl (q_ix _ se_60 rfl rfl rfl isO tM rfl tL) ?_
    refine KO.q rfl (q_fieldE fo_56_0 rfl) ?_
    first | refine KO.q rfl (q_ldE ck_3 rfl isF tM tE rfl) ?_ | refine KO.q rfl (q_ldE ck_3 rfl isO tM tE rfl) ?_
    refine KO.q rfl (q_move rfl) <| KO.q rfl (q_eq rfl rfl) <| KO.done ?_
    refine K.dcond (s := 18) rfl (fun g18 => ?_) (fun g18 => ?_)
    · refine K.seq ?_
      have hr : idxP (fun m => decide (m.id = n)) l = i := idxP_some he (by simp [*]) hz
      refine K.region <| KO.q rfl (q_move rfl) <| KO.q rfl (q_assign rfl) <| KO.done ?_
      refine kr1 Tryz.func153 Tryz.results153 rfl (fun w hs => ?_)
      rw [hr]
      exact ⟨_, [], rfl, ⟨rfl, rfl⟩, hs.fitD⟩
    · refine K.skip <| K.inBlock <| K.region <| KO.q rfl (q_move rfl) <| KO.q rfl (q_add rfl rfl tN tN) <| KO.q rfl (q_assign rfl) <| KO.done ?_
      exact K.subE tS (ih ⟨i + 1, by omega, by rw [any_take_succ he, hz]; simp [*]⟩ (by show l.length - (i + 1) < l.length - i; omega))
  · refine K.exit rfl <| K.seq ?_
    have hr : idxP (fun m => decide (m.id = n)) l = -1 := idxP_none (by rw [List.take_of_length_le tO] at hz; exact hz)
    refine K.region <| KO.q rfl (q_assign rfl) <| KO.done ?_
    refine kr1 Tryz.func153 Tryz.results153 rfl (fun w hs => ?_)
    rw [hr]
    exact ⟨_, [], rfl, ⟨rfl, rfl⟩, hs.fitD⟩
theorem ixf_rw (R : HP) (q : Option Addr) (cap : Nat) (l : List Rw) (f : FuncId) (cs : List Value) (p : Rw → Bool) (hl : (l.length : Int) ≤ 9223372036854775807) (hf : ∀ x ∈ l, Fn Tryz.prog f (Value.agg x.cells.toArray :: cs).toArray [R] (fun v post => v = .bool (p x) ∧ post = [R])) :
    Fn Tryz.prog 204 [.slice q l.length cap, .func (.func f) #[] cs.toArray].toArray [RowF Kd.rw q l, R] (fun r post => r = .int .i64 (idxP p l) ∧ post = [R]) := by
  refine Fn.enter (N := 19) Tryz.func204 rfl Tryz.ntmps204 tK rfl (fun ρ L => ?_)
  refine K.seq <| K.region <| KO.q rfl (q_assign rfl) <| KO.done <| K.seq <| K.seq <| K.region <| KO.q rfl (q_move rfl) <| KO.q rfl (q_len Tryz.underlying59 rfl) <| KO.q rfl (q_move rfl) <| KO.done ?_
  refine K.block ?_
  refine K.rloop (ι := { i : Nat // i ≤ l.length ∧ (l.take i).any p = false }) (fun x => [(8, .int .i64 x.1), (7, .int .i64 l.length), (0, .slice q l.length cap), (1, .func (.func f) #[] cs.toArray)]) (fun x => l.length - x.1) ⟨0, Nat.zero_le _, rfl⟩ tS (fun x ih => ?_)
  obtain ⟨i, hi, hz⟩ := x
  dsimp only at hi hz ⊢
  refine K.seq <| K.region <| KO.q rfl (q_lt rfl rfl) <| KO.done <| K.seq ?_
  refine K.dcond (s := 9) rfl (fun g9 => ?_) (fun g9 => ?_)
  · obtain ⟨e, he⟩ : ∃ e, l[i]? = some e := ⟨_, List.getElem?_eq_getElem tO⟩
    refine K.skip <| K.seq <| K.block <| K.seq <| K.region <| KO.q rfl (q_move rfl) <| KO.q rfl (q_assign rfl) <| KO.done <| K.seq <| K.region <| KO.q rfl (q_move rfl) <| KO.q rfl (q_move rfl) <| KO.q rfl (q_move rfl) ?_
    first | refine KO.q rfl (q_ix _ se_59 rfl rfl rfl isF tM rfl tL) ?_ | refine KO.q rfl (q_ix _ se_59 rfl rfl rfl isO tM rfl tL) ?_
    first | refine KO.q rfl (q_ldEN ck_136 rfl isF tM tE) ?_ | refine KO.q rfl (q_ldEN ck_136 rfl isO tM tE) ?_
    refine KO.loud rfl (OpL.callCG (first := []) (captured := cs) rfl rfl tG (hf e (List.mem_of_getElem? he))) ?_
    rintro _ _ ⟨_, ⟨rfl, rfl⟩, rfl⟩
    refine KO.done ?_
    refine K.bcond (s := 16) rfl (fun g16 => ?_) (fun g16 => ?_)
    · refine K.seq ?_
      have hr : idxP p l = i := idxP_some he g16 hz
      refine K.region <| KO.q rfl (q_move rfl) <| KO.q rfl (q_assign rfl) <| KO.done ?_
      refine kr1 Tryz.func204 Tryz.results204 rfl (fun w hs => ?_)
      rw [hr]
      exact ⟨_, [R], rfl, ⟨rfl, rfl⟩, hs.fitD⟩
    · refine K.skip <| K.inBlock <| K.region <| KO.q rfl (q_add rfl rfl tN tN) <| KO.q rfl (q_move rfl) <| KO.done ?_
      exact K.weak tS (fun w h => h.fitD) (ih ⟨i + 1, by omega, by rw [any_take_succ he, hz, g16]; rfl⟩ (by show l.length - (i + 1) < l.length - i; omega))
  · refine K.exit rfl <| K.seq ?_
    have hr : idxP p l = -1 := idxP_none (by rw [List.take_of_length_le tO] at hz; exact hz)
    refine K.region <| KO.q rfl (q_assign rfl) <| KO.done ?_
    refine kr1 Tryz.func204 Tryz.results204 rfl (fun w hs => ?_)
    rw [hr]
    exact ⟨_, [R], rfl, ⟨rfl, rfl⟩, hs.fitD⟩
theorem cof_rw (R : HP) (q : Option Addr) (cap : Nat) (l : List Rw) (f : FuncId) (cs : List Value) (p : Rw → Bool) (hl : (l.length : Int) ≤ 9223372036854775807) (hf : ∀ x ∈ l, Fn Tryz.prog f (Value.agg x.cells.toArray :: cs).toArray [R] (fun v post => v = .bool (p x) ∧ post = [R])) :
    Fn Tryz.prog 178 [.slice q l.length cap, .func (.func f) #[] cs.toArray].toArray [RowF Kd.rw q l, R] (fun r post => r = .bool (l.any p) ∧ post = [R]) := by
  refine Fn.enter (N := 9) Tryz.func178 rfl Tryz.ntmps178 tK rfl (fun ρ L => ?_)
  refine K.seq <| K.region <| KO.q rfl (q_assign rfl) <| KO.done <| K.seq <| K.region <| KO.q rfl (q_move rfl) <| KO.q rfl (q_move rfl) <| KO.loud rfl (OpL.callD rfl (h := ixf_rw R q cap l f cs p hl hf)) ?_
  rintro _ _ ⟨_, ⟨rfl, rfl⟩, rfl⟩
  refine KO.q rfl (q_ge rfl rfl) <| KO.q rfl (q_assign rfl) <| KO.done ?_
  refine kr1 Tryz.func178 Tryz.results178 rfl (fun w hs => ?_)
  exact ⟨_, [R], rfl, ⟨by rw [← idxP_any], rfl⟩, hs.fitD⟩
theorem ixf_msg (R : HP) (q : Option Addr) (cap : Nat) (l : List Msg) (f : FuncId) (cs : List Value) (p : Msg → Bool) (hl : (l.length : Int) ≤ 9223372036854775807) (hf : ∀ x ∈ l, Fn Tryz.prog f (Value.agg x.cells.toArray :: cs).toArray [R] (fun v post => v = .bool (p x) ∧ post = [R])) :
    Fn Tryz.prog 206 [.slice q l.length cap, .func (.func f) #[] cs.toArray].toArray [RowF Kd.msg q l, R] (fun r post => r = .int .i64 (idxP p l) ∧ post = [R]) := by
  refine Fn.enter (N := 19) Tryz.func206 rfl Tryz.ntmps206 tK rfl (fun ρ L => ?_)
  refine K.seq <| K.region <| KO.q rfl (q_assign rfl) <| KO.done <| K.seq <| K.seq <| K.region <| KO.q rfl (q_move rfl) <| KO.q rfl (q_len Tryz.underlying60 rfl) <| KO.q rfl (q_move rfl) <| KO.done ?_
  refine K.block ?_
  refine K.rloop (ι := { i : Nat // i ≤ l.length ∧ (l.take i).any p = false }) (fun x => [(8, .int .i64 x.1), (7, .int .i64 l.length), (0, .slice q l.length cap), (1, .func (.func f) #[] cs.toArray)]) (fun x => l.length - x.1) ⟨0, Nat.zero_le _, rfl⟩ tS (fun x ih => ?_)
  obtain ⟨i, hi, hz⟩ := x
  dsimp only at hi hz ⊢
  refine K.seq <| K.region <| KO.q rfl (q_lt rfl rfl) <| KO.done <| K.seq ?_
  refine K.dcond (s := 9) rfl (fun g9 => ?_) (fun g9 => ?_)
  · obtain ⟨e, he⟩ : ∃ e, l[i]? = some e := ⟨_, List.getElem?_eq_getElem tO⟩
    refine K.skip <| K.seq <| K.block <| K.seq <| K.region <| KO.q rfl (q_move rfl) <| KO.q rfl (q_assign rfl) <| KO.done <| K.seq <| K.region <| KO.q rfl (q_move rfl) <| KO.q rfl (q_move rfl) <| KO.q rfl (q_move rfl) ?_
    first | refine KO.q rfl (q_ix _ se_60 rfl rfl rfl isF tM rfl tL) ?_ | refine KO.q rfl (q_ix _ se_60 rfl rfl rfl isO tM rfl tL) ?_
    first | refine KO.q rfl (q_ldEN ck_56 rfl isF tM tE) ?_ | refine KO.q rfl (q_ldEN ck_56 rfl isO tM tE) ?_
    refine KO.loud rfl (OpL.callCG (first := []) (captured := cs) rfl rfl tG (hf e (List.mem_of_getElem? he))) ?_
    rintro _ _ ⟨_, ⟨rfl, rfl⟩, rfl⟩
    refine KO.done ?_
    refine K.bcond (s := 16) rfl (fun g16 => ?_) (fun g16 => ?_)
    · refine K.seq ?_
      have hr : idxP p l = i := idxP_some he g16 hz
      refine K.region <| KO.q rfl (q_move rfl) <| KO.q rfl (q_assign rfl) <| KO.done ?_
      refine kr1 Tryz.func206 Tryz.results206 rfl (fun w hs => ?_)
      rw [hr]
      exact ⟨_, [R], rfl, ⟨rfl, rfl⟩, hs.fitD⟩
    · refine K.skip <| K.inBlock <| K.region <| KO.q rfl (q_add rfl rfl tN tN) <| KO.q rfl (q_move rfl) <| KO.done ?_
      exact K.weak tS (fun w h => h.fitD) (ih ⟨i + 1, by omega, by rw [any_take_succ he, hz, g16]; rfl⟩ (by show l.length - (i + 1) < l.length - i; omega))
  · refine K.exit rfl <| K.seq ?_
    have hr : idxP p l = -1 := idxP_none (by rw [List.take_of_length_le tO] at hz; exact hz)
    refine K.region <| KO.q rfl (q_assign rfl) <| KO.done ?_
    refine kr1 Tryz.func206 Tryz.results206 rfl (fun w hs => ?_)
    rw [hr]
    exact ⟨_, [R], rfl, ⟨rfl, rfl⟩, hs.fitD⟩
theorem cof_msg (R : HP) (q : Option Addr) (cap : Nat) (l : List Msg) (f : FuncId) (cs : List Value) (p : Msg → Bool) (hl : (l.length : Int) ≤ 9223372036854775807) (hf : ∀ x ∈ l, Fn Tryz.prog f (Value.agg x.cells.toArray :: cs).toArray [R] (fun v post => v = .bool (p x) ∧ post = [R])) :
    Fn Tryz.prog 182 [.slice q l.length cap, .func (.func f) #[] cs.toArray].toArray [RowF Kd.msg q l, R] (fun r post => r = .bool (l.any p) ∧ post = [R]) := by
  refine Fn.enter (N := 9) Tryz.func182 rfl Tryz.ntmps182 tK rfl (fun ρ L => ?_)
  refine K.seq <| K.region <| KO.q rfl (q_assign rfl) <| KO.done <| K.seq <| K.region <| KO.q rfl (q_move rfl) <| KO.q rfl (q_move rfl) <| KO.loud rfl (OpL.callD rfl (h := ixf_msg R q cap l f cs p hl hf)) ?_
  rintro _ _ ⟨_, ⟨rfl, rfl⟩, rfl⟩
  refine KO.q rfl (q_ge rfl rfl) <| KO.q rfl (q_assign rfl) <| KO.done ?_
  refine kr1 Tryz.func182 Tryz.results182 rfl (fun w hs => ?_)
  exact ⟨_, [R], rfl, ⟨by rw [← idxP_any], rfl⟩, hs.fitD⟩
end Go.Proofs.YtkbhldicnamcdaaGreat.L
namespace Go.Proofs.YtkbhldicnamcdaaGreat.L
open Go Go.Proofs
set_option maxRecDepth 100000
set_option linter.unusedSimpArgs false
set_option linter.unusedVariables false
open Go.RowKit Go.ChangeShapes
structure Ob where
  name : ByteArray
  kind : Int
  limit : Int
  rows : List Rw
  msgs : List Msg
  dead : List Msg
structure ObQ where
  q1 : Option Addr
  c1 : Nat
  q2 : Option Addr
  c2 : Nat
  q3 : Option Addr
  c3 : Nat
structure Oz where
  x : Ob
  z : ObQ
def Oz.cells (o : Oz) : List Value := [.string o.x.name, .int .i64 o.x.kind, .int .i64 o.x.limit, .slice o.z.q1 o.x.rows.length o.z.c1, .slice o.z.q2 o.x.msgs.length o.z.c2, .slice o.z.q3 o.x.dead.length o.z.c3]
theorem oz_sz (o : Oz) : o.cells.length = 6 := rfl
theorem oz_one (o : Oz) : ∀ v ∈ o.cells, v.oneCell' = true := fun v h => by simp [Oz.cells] at h; rcases h with rfl | rfl | rfl | rfl | rfl | rfl <;> rfl
def Kd.oz : Kd Oz := Kd.flat 6 Oz.cells oz_sz oz_one
theorem q_as_oz {X : Fx} {o : Oper} {E : Env} {L : List HP} {cs : List Value} {name_ : ByteArray} {kind_ limit_ : Int} {q1_ q2_ q3_ : Option Addr} {c1_ c2_ c3_ : Nat} {rows_ : List Rw} {msgs_ dead_ : List Msg} (h : OpQ X o E L (.agg cs.toArray))
    (e : cs = [.string name_, .int .i64 kind_, .int .i64 limit_, .slice q1_ rows_.length c1_, .slice q2_ msgs_.length c2_, .slice q3_ dead_.length c3_]) : OpQ X o E L (.agg (Oz.cells ⟨⟨name_, kind_, limit_, rows_, msgs_, dead_⟩, ⟨q1_, c1_, q2_, c2_, q3_, c3_⟩⟩).toArray) := q_as h e
theorem ob_ext {a b : Ob} : a = b ↔ a.name = b.name ∧ a.kind = b.kind ∧ a.limit = b.limit ∧ a.rows = b.rows ∧ a.msgs = b.msgs ∧ a.dead = b.dead := by cases a; cases b; simp
instance : DecidableEq Ob := fun _ _ => decidable_of_iff _ ob_ext.symm
def Rw.sm (r : Rw) : Prop := r.key.size ≤ 140737488351232 ∧ r.value.size ≤ 140737488351232
def Msg.sm (m : Msg) : Prop := (-9223372036854775808 ≤ m.id ∧ m.id ≤ 9223372036854775807) ∧ (-9223372036854775808 ≤ m.pri ∧ m.pri ≤ 9223372036854775807) ∧ (-9223372036854775808 ≤ m.retry ∧ m.retry ≤ 9223372036854775807) ∧ m.corr.size ≤ 140737488351232 ∧ m.body.size ≤ 140737488351232
def Ob.sm (x : Ob) : Prop := x.name.size ≤ 140737488351232 ∧ (-9223372036854775808 ≤ x.kind ∧ x.kind ≤ 9223372036854775807) ∧ (-9223372036854775808 ≤ x.limit ∧ x.limit ≤ 9223372036854775807) ∧ (∀ r ∈ x.rows, r.sm) ∧ (∀ m ∈ x.msgs, m.sm) ∧ (∀ m ∈ x.dead, m.sm) ∧
  x.rows.length ≤ 140737488351232 ∧ x.msgs.length ≤ 140737488351232 ∧ x.dead.length ≤ 140737488351232
def Oz.ok (o : Oz) : Prop := o.x.sm ∧ o.x.rows.length ≤ o.z.c1 ∧ o.x.msgs.length ≤ o.z.c2 ∧ o.x.dead.length ≤ o.z.c3
abbrev ObL (o : Oz) : List HP := [RowF Kd.rw o.z.q1 o.x.rows, RowF Kd.msg o.z.q2 o.x.msgs, RowF Kd.msg o.z.q3 o.x.dead]
def Nest (o : Oz) (g : Hp) : Prop := (RowF Kd.rw o.z.q1 o.x.rows).holds g (fun _ => none) ∧ (RowF Kd.msg o.z.q2 o.x.msgs).holds g (fun _ => none) ∧ (RowF Kd.msg o.z.q3 o.x.dead).holds g (fun _ => none)
def NestF (l : List Oz) : HP := HP.per (fun g => ∀ o ∈ l, Nest o g) (fun hg h o ho => ⟨(RowF _ _ _).mono hg (h o ho).1, (RowF _ _ _).mono hg (h o ho).2.1, (RowF _ _ _).mono hg (h o ho).2.2⟩)
instance {l : List Oz} : Pers (NestF l) := ⟨rfl⟩
theorem nestF_at {l : List Oz} {ρ : World} {L : List HP} {w : World} {o : Oz} (m : NestF l ∈ L) (ho : o ∈ l) (h : St ρ L w) : St ρ (ObL o ++ L) w := by
  have h3 := St.derive (B := RowF Kd.msg o.z.q3 o.x.dead) m rfl (fun _ _ hn => (RowF _ _ _).free rfl ((hn : ∀ o ∈ l, _) o ho).2.2) h
  have h2 := St.derive (B := RowF Kd.msg o.z.q2 o.x.msgs) (List.Mem.tail _ m) rfl (fun _ _ hn => (RowF _ _ _).free rfl ((hn : ∀ o ∈ l, _) o ho).2.1) h3
  exact St.derive (B := RowF Kd.rw o.z.q1 o.x.rows) (List.Mem.tail _ (List.Mem.tail _ m)) rfl (fun _ _ hn => (RowF _ _ _).free rfl ((hn : ∀ o ∈ l, _) o ho).1) h2
theorem nestF_nil {ρ : World} {L : List HP} {w : World} (h : St ρ L w) : St ρ (NestF [] :: L) w := by
  obtain ⟨g, q, a, b, c, d⟩ := h.body
  exact ⟨h.os, h.tape, h.output, g, q, a, b, c, sepAll_cons_per (A := NestF []) rfl (h1 := fun _ => none) (fun s hs => by cases hs) d⟩
theorem nestF_snoc {l : List Oz} {ρ : World} {L : List HP} {w : World} (o : Oz) (m : NestF l ∈ L) (m1 : RowF Kd.rw o.z.q1 o.x.rows ∈ L) (m2 : RowF Kd.msg o.z.q2 o.x.msgs ∈ L) (m3 : RowF Kd.msg o.z.q3 o.x.dead ∈ L) (h : St ρ L w) : St ρ (NestF (l ++ [o]) :: L) w := by
  obtain ⟨g, q, a, b, c, d⟩ := h.body
  obtain ⟨_, _, hn⟩ := sepAll_mem m d
  obtain ⟨_, _, h1⟩ := sepAll_mem m1 d
  obtain ⟨_, _, h2⟩ := sepAll_mem m2 d
  obtain ⟨_, _, h3⟩ := sepAll_mem m3 d
  refine ⟨h.os, h.tape, h.output, g, q, a, b, c, sepAll_cons_per (A := NestF (l ++ [o])) rfl (h1 := fun _ => none) (fun p hp => ?_) d⟩
  rcases List.mem_append.1 hp with hp | hp
  · exact (hn : ∀ o ∈ l, _) p hp
  · rw [List.mem_singleton.1 hp]
    exact ⟨(RowF _ _ _).free rfl h1, (RowF _ _ _).free rfl h2, (RowF _ _ _).free rfl h3⟩
structure Sz where
  next : Int
  q : Option Addr
  c : Nat
  l : List Oz
def Sz.cells (s : Sz) : List Value := [.int .i64 s.next, .slice s.q s.l.length s.c]
theorem sz_one (s : Sz) : ∀ v ∈ s.cells, v.oneCell' = true := fun v h => by simp [Sz.cells] at h; rcases h with rfl | rfl <;> rfl
theorem q_as_sz {X : Fx} {o : Oper} {E : Env} {L : List HP} {cs : List Value} {next_ : Int} {q_ : Option Addr} {c_ : Nat} {l_ : List Oz} (h : OpQ X o E L (.agg cs.toArray)) (e : cs = [.int .i64 next_, .slice q_ l_.length c_]) : OpQ X o E L (.agg (Sz.cells ⟨next_, q_, c_, l_⟩).toArray) := q_as h e
abbrev StL (s : Sz) : List HP := [RowF Kd.oz s.q s.l, NestF s.l]
def Sz.ok (s : Sz) : Prop := (-9223372036854775808 ≤ s.next ∧ s.next ≤ 9223372036854775807) ∧ s.l.length ≤ 140737488351232 ∧ s.l.length ≤ s.c ∧ ∀ o ∈ s.l, o.ok
structure Stt where
  next : Int
  objs : List Ob
theorem stt_ext {a b : Stt} : a = b ↔ a.next = b.next ∧ a.objs = b.objs := by cases a; cases b; simp
instance : DecidableEq Stt := fun _ _ => decidable_of_iff _ stt_ext.symm
def Sz.st (s : Sz) : Stt := ⟨s.next, s.l.map (·.x)⟩
def risesR (l : List Rw) : Bool := adj (fun a b => decide (cmpB a.key b.key < 0)) l
def risesM (l : List Msg) : Bool := adj (fun a b => decide (cmpM a b < 0)) l && decide (l.map (·.id)).Nodup
def Ob.right (o : Ob) : Bool := effName o.name && effKind o.kind o.limit && (if o.kind = 1 then decide ((o.msgs.length : Int) = 0) && decide ((o.dead.length : Int) = 0) && risesR o.rows && o.rows.all Rw.right
  else decide ((o.rows.length : Int) = 0) && risesM o.msgs && o.msgs.all Msg.right && o.dead.all (fun m => !m.claimed && m.right))
def Ob.ids (o : Ob) : List Int := (o.msgs ++ o.dead).map (·.id)
def Stt.ids (s : Stt) : List Int := s.objs.flatMap Ob.ids
def Stt.once (s : Stt) : Bool := decide s.ids.Nodup && s.ids.all (fun n => decide (n < s.next))
def Stt.right (s : Stt) : Bool := decide (1 ≤ s.next) && decide (s.next ≤ 1099511627776) && decide ((s.objs.length : Int) ≤ 20) && s.objs.all Ob.right && adj (fun a b => decide (cmpB a.name b.name < 0)) s.objs && s.once
end Go.Proofs.YtkbhldicnamcdaaGreat.L
namespace Go.Proofs.YtkbhldicnamcdaaGreat.L
open Go Go.Proofs
set_option linter.unusedSimpArgs false
set_option linter.unusedVariables false
theorem nestF_put {l l' : List Oz} {ρ : World} {L : List HP} {w : World} (o : Oz) (hm : ∀ p ∈ l', p ∈ l ∨ p = o) (m : NestF l ∈ L) (m1 : RowF Kd.rw o.z.q1 o.x.rows ∈ L) (m2 : RowF Kd.msg o.z.q2 o.x.msgs ∈ L) (m3 : RowF Kd.msg o.z.q3 o.x.dead ∈ L) (h : St ρ L w) : St ρ (NestF l' :: L) w := by
  obtain ⟨g, q, a, b, c, d⟩ := h.body
  obtain ⟨_, _, hn⟩ := sepAll_mem m d
  obtain ⟨_, _, h1⟩ := sepAll_mem m1 d
  obtain ⟨_, _, h2⟩ := sepAll_mem m2 d
  obtain ⟨_, _, h3⟩ := sepAll_mem m3 d
  refine ⟨h.os, h.tape, h.output, g, q, a, b, c, sepAll_cons_per (A := NestF l') rfl (h1 := fun _ => none) (fun p hp => ?_) d⟩
  rcases hm p hp with hp | hp
  · exact (hn : ∀ o ∈ l, _) p hp
  · rw [hp]
    exact ⟨(RowF _ _ _).free rfl h1, (RowF _ _ _).free rfl h2, (RowF _ _ _).free rfl h3⟩
theorem rowF_nilA {α : Type} {k : Kd α} {ρ : World} {L : List HP} {w : World} (h : St ρ L w) : St ρ (RowF k none [] :: L) w := rowO_freeze (e := 0) (cap := 0) (rowO_nil (k := k) 0 h)
def insAt {α : Type} (l : List α) (i : Nat) (x : α) : List α := l.take i ++ [x] ++ l.drop i
def findM (l : List Msg) (id : Int) : Int := idxP (fun m => decide (m.id = id)) l
def findO (s : Stt) (name : ByteArray) : Int := idxP (fun o => decide (o.name = name)) s.objs
def plc {α : Type} (p : α → Bool) (l : List α) : Nat := if idxP p l < 0 then l.length else (idxP p l).toNat
def addM (l : List Msg) (m : Msg) : List Msg := insAt l (plc (fun x => decide (0 < cmpM x m)) l) m
def cutM (l : List Msg) (id : Int) : List Msg × Bool := if findM l id < 0 then (l, false) else (l.eraseIdx (findM l id).toNat, true)
def claimM (l : List Msg) (id : Int) (on : Bool) : List Msg × Bool :=
  if findM l id < 0 then (l, false)
  else if (l.getD (findM l id).toNat ⟨0, 0, 0, false, ⟨#[]⟩, ⟨#[]⟩⟩).claimed = on then (l, false)
  else (l.set (findM l id).toNat { l.getD (findM l id).toNat ⟨0, 0, 0, false, ⟨#[]⟩, ⟨#[]⟩⟩ with claimed := on }, true)
def freeO (o : Ob) (id : Int) (tried : Bool) : Ob × Bool :=
  if findM o.msgs id < 0 then (o, false)
  else if (o.msgs.getD (findM o.msgs id).toNat ⟨0, 0, 0, false, ⟨#[]⟩, ⟨#[]⟩⟩).claimed = false then (o, false)
  else if tried = false then ({ o with msgs := o.msgs.set (findM o.msgs id).toNat { o.msgs.getD (findM o.msgs id).toNat ⟨0, 0, 0, false, ⟨#[]⟩, ⟨#[]⟩⟩ with claimed := false } }, true)
  else if o.limit ≤ (o.msgs.getD (findM o.msgs id).toNat ⟨0, 0, 0, false, ⟨#[]⟩, ⟨#[]⟩⟩).tried.retry then ({ o with msgs := o.msgs.eraseIdx (findM o.msgs id).toNat, dead := o.dead ++ [(o.msgs.getD (findM o.msgs id).toNat ⟨0, 0, 0, false, ⟨#[]⟩, ⟨#[]⟩⟩).tried] }, true)
  else ({ o with msgs := o.msgs.set (findM o.msgs id).toNat (o.msgs.getD (findM o.msgs id).toNat ⟨0, 0, 0, false, ⟨#[]⟩, ⟨#[]⟩⟩).tried }, true)
def whereM (o : Ob) (id : Int) : Int := if 0 ≤ findM o.msgs id then 1 else if 0 ≤ findM o.dead id then 2 else 0
def lbR (l : List Rw) (key : ByteArray) : Nat := (l.takeWhile (fun r => decide (cmpB r.key key < 0))).length
def fndR (l : List Rw) (key : ByteArray) : Bool := (l[lbR l key]?).any (fun r => decide (cmpB r.key key = 0))
def putR (l : List Rw) (r : Rw) : List Rw := if fndR l r.key = true then l.set (lbR l r.key) r else insAt l (lbR l r.key) r
def cutR (l : List Rw) (key : ByteArray) : List Rw × Bool := if fndR l key = true then (l.eraseIdx (lbR l key), true) else (l, false)
def hasM (s : Stt) (id : Int) : Bool := s.objs.any (fun o => decide (whereM o id ≠ 0))
def makeS (s : Stt) (e : Eff) : Stt × Int :=
  if 0 ≤ findO s e.object then (s, 4)
  else if 20 ≤ s.objs.length then (s, 6)
  else (⟨s.next, insAt s.objs (plc (fun o => decide (0 < cmpB o.name e.object)) s.objs) ⟨e.object, e.n, e.limit, [], [], []⟩⟩, 0)
def nextS (s : Stt) (n : Int) : Stt × Int := if n < s.next then (s, 1) else (⟨n, s.objs⟩, 0)
def queueO (s : Stt) (o : Ob) (e : Eff) : Ob × Int :=
  if e.kind = 4 then (if s.next ≤ e.msg.id ∨ e.msg.claimed = true then (o, 1) else if hasM s e.msg.id = true then (o, 4) else ({ o with msgs := addM o.msgs e.msg }, 0))
  else if e.kind = 5 then ({ o with msgs := (cutM o.msgs e.n).1 }, if (cutM o.msgs e.n).2 = true then 0 else 7)
  else if e.kind = 6 then (if findM o.msgs e.n < 0 then (o, 7) else ({ o with msgs := (claimM o.msgs e.n true).1 }, if (claimM o.msgs e.n true).2 = true then 0 else 2))
  else if e.kind = 7 then ((freeO o e.n e.tried).1, if (freeO o e.n e.tried).2 = true then 0 else 7)
  else (o, 7)
def tableO (o : Ob) (e : Eff) : Ob × Int :=
  if e.kind = 2 then ({ o with rows := putR o.rows ⟨e.key, e.value⟩ }, 0)
  else ({ o with rows := (cutR o.rows e.key).1 }, if (cutR o.rows e.key).2 = true then 0 else 7)
def Ob.zero : Ob := ⟨⟨#[]⟩, 0, 0, [], [], []⟩
def doS (s : Stt) (e : Eff) : Stt × Int :=
  if e.right = false then (s, 1)
  else if e.kind = 1 then makeS s e
  else if e.kind = 8 then nextS s e.n
  else if findO s e.object < 0 then (s, 3)
  else if decide (e.kind = 2 ∨ e.kind = 3) ≠ decide ((s.objs.getD (findO s e.object).toNat Ob.zero).kind = 1) then (s, 5)
  else if e.kind = 2 ∨ e.kind = 3 then (⟨s.next, s.objs.set (findO s e.object).toNat (tableO (s.objs.getD (findO s e.object).toNat Ob.zero) e).1⟩, (tableO (s.objs.getD (findO s e.object).toNat Ob.zero) e).2)
  else (⟨s.next, s.objs.set (findO s e.object).toNat (queueO s (s.objs.getD (findO s e.object).toNat Ob.zero) e).1⟩, (queueO s (s.objs.getD (findO s e.object).toNat Ob.zero) e).2)
def doAll : Stt → List Eff → Stt × Int
  | s, [] => (s, 0)
  | s, e :: l => if (doS s e).2 = 0 then doAll (doS s e).1 l else (⟨0, []⟩, (doS s e).2)
def applyS (s : Stt) (l : List Eff) : Stt × Int := if s.right = false then (⟨0, []⟩, 1) else doAll s l
def claimsO (o : Ob) : List Eff := (o.msgs.filter (·.claimed)).map (fun m => ⟨7, o.name, ⟨#[]⟩, ⟨#[]⟩, m.id, 0, true, ⟨0, 0, 0, false, ⟨#[]⟩, ⟨#[]⟩⟩⟩)
def claimsS (s : Stt) : List Eff := s.objs.flatMap claimsO
end Go.Proofs.YtkbhldicnamcdaaGreat.L
namespace Go.Proofs.YtkbhldicnamcdaaGreat.L
open Go Go.RowKit
theorem pt_apart {α : Type} {k : Kd α} {ρ : World} {L1 : List HP} {w : World} {bv : Nat} {ob : Obj} {e : TypeId} {b o cap : Nat} {xs : List α} (m : RowO k e (some ⟨b, o, none⟩) cap xs ∈ L1) (h : St ρ (pt bv ob :: L1) w) : bv ≠ b := by
  obtain ⟨g, q, a, lg, lq, h1, h2, ap, l1, l2, ha, d⟩ := h.body
  obtain ⟨h3, l3, hr⟩ := sepAll_mem m d
  rcases (hr : _ ∨ _) with ⟨hp, _⟩ | ⟨b', o', c, hp, _, hb, _⟩
  · cases hp
  · cases hp
    rintro rfl
    have ha : h1 bv = some ob := ha
    rcases ap bv with e1 | e1
    · rw [ha] at e1; cases e1
    · rw [l3 _ _ hb] at e1; cases e1
theorem row_heap {α : Type} {k : Kd α} {ρ : World} {L1 : List HP} {w : World} {e : TypeId} {b o cap : Nat} {xs : List α} (m : RowO k e (some ⟨b, o, none⟩) cap xs ∈ L1) (h : St ρ L1 w) : ∃ c, w.heap[b]? = some (.cells c e (0, 0)) ∧ o + cap * k.sz ≤ c.size := by
  obtain ⟨g, q, a, lg, lq, d⟩ := h.body
  obtain ⟨h3, l3, hr⟩ := sepAll_mem m d
  rcases (hr : _ ∨ _) with ⟨hp, _⟩ | ⟨b', o', c, hp, _, hb, hs, _⟩
  · cases hp
  · cases hp
    exact ⟨c, lq _ _ (l3 _ _ hb), hs⟩
section
variable {X : Fx} {E : Env} {L L1 : List HP} {d : Option Tmp} {ty : TypeId} {pos : String} {af : Array Edge} {gd : Option (Nat × Bool)} {x y : Operand} {ats : Array TypeId}
theorem q_apart {α : Type} {k : Kd α} {f : FuncId} {fn : Func} {tS tR e1 e ev bytes bv ov la ca b o o' lb cb cap : Nat} {cs : List Value} {xs : List α} (hf : X.P.funcs[f]? = some fn) (hname : (fn.name == "runtime.NumGoroutine") = false) (hb : fn.body.isNone = true) (hn : Extern.findNext fn = none)
    (he : Extern.find fn = some (Extern.SlicesOverlaps.overlaps #[tS, tS] #[tR])) (ht : slElem X.P tS = some (e1, k.sz, bytes)) (hx : Env.ev E x = some (.slice (some ⟨bv, ov, none⟩) la ca)) (hy : Env.ev E y = some (.slice (some ⟨b, o', none⟩) lb cb))
    (hp : Pick L (pv bv ev cs) L1) (m : RowO k e (some ⟨b, o, none⟩) cap xs ∈ L1) (h0 : 0 < cap) (hk0 : 0 < k.sz) :
    OpQ X ⟨d, .call ⟨.value (.func f), [x, y].toArray, ats⟩, ty, pos, af, gd⟩ E L (.bool false) := fun a w hk hs => by
  have h1 := hs.pick hp
  have hne := pt_apart m h1
  obtain ⟨c, hc, hcs⟩ := row_heap m h1.tail
  have hv : w.heap[bv]? = some (.cells cs.toArray ev (0, 0)) := h1.pt_heap (List.Mem.head _)
  unfold slElem at ht
  cases hu : X.P.underlying tS with
  | none => rw [hu] at ht; simp at ht
  | some dd =>
    cases dd <;> rw [hu] at ht <;> simp only [reduceCtorEq] at ht
    rename_i e2
    cases hinf : X.P.info? e2 with
    | none => rw [hinf] at ht; simp at ht
    | some inf =>
      rw [hinf] at ht
      simp only [Option.some.injEq, Prod.mk.injEq] at ht
      obtain ⟨rfl, hisz, _⟩ := ht
      have hpos : 0 < cap * k.sz := Nat.mul_pos h0 hk0
      have hrun := Go.Lib.run_overlaps_apart (P := X.P) w tS tR e2 hu k.sz (fun w => by simp [sizeOf, typeInfo, hinf, hisz]) ⟨bv, ov, none⟩ ⟨b, o', none⟩ la ca lb cb hne ev e cs.toArray.size c.size
        (by simp [World.shape?, hv]) (by simp [World.shape?, hc]) tO (by simp [World.frozen?, hv]) (by simp [World.frozen?, hv])
      have hcall := run_callFunc_extern (P := X.P) hf hname hb hn he #[.slice (some ⟨bv, ov, none⟩) la ca, .slice (some ⟨b, o', none⟩) lb cb] w
      rw [hrun] at hcall
      have n1 : ¬ fn.name = "runtime.NumGoroutine" := by simpa using hname
      have e0 : a.eval (.func f) = .func (.func f) #[] #[] := hk.ev (x := .func f) rfl
      simp [execOp, resolve, Deferred.ofValue, invoke, e0, hk.ev hx, hk.ev hy, hcall, Result.andThen_ok]
theorem q_cut3 {p : Option Addr} {n cap e sz bytes : Nat} {t : TypeId} {lo hi mx : Operand} {l h m : Int} (ht : slElem X.P t = some (e, sz, bytes)) (hx : Env.ev E x = some (.slice p n cap))
    (hl : Env.ev E lo = some (.int .i64 l)) (hh : Env.ev E hi = some (.int .i64 h)) (hm : Env.ev E mx = some (.int .i64 m)) (h0 : 0 ≤ l) (h1 : l ≤ h) (h2 : h ≤ m) (h3 : m ≤ cap) :
    OpQ X ⟨d, .slice t x (some lo) (some hi) (some mx), ty, pos, af, gd⟩ E L (.slice (cutAddr p m.toNat l.toNat sz) (h.toNat - l.toNat) (m.toNat - l.toNat)) := fun _ w hk _ => by
  unfold slElem at ht
  cases hu : X.P.underlying t with
  | none => rw [hu] at ht; simp at ht
  | some ds =>
    cases ds <;> rw [hu] at ht <;> simp only [reduceCtorEq] at ht
    rename_i e'
    cases hi' : X.P.info? e' with
    | none => rw [hi'] at ht; simp at ht
    | some inf =>
      rw [hi'] at ht
      simp only [Option.some.injEq, Prod.mk.injEq] at ht
      obtain ⟨rfl, rfl, rfl⟩ := ht
      obtain ⟨l, rfl⟩ := Int.eq_ofNat_of_zero_le h0
      obtain ⟨h, rfl⟩ := Int.eq_ofNat_of_zero_le (a := h) tO
      obtain ⟨m, rfl⟩ := Int.eq_ofNat_of_zero_le (a := m) tO
      have k1 : l ≤ h := by omega
      have k2 : h ≤ m := by omega
      have k3 : m ≤ cap := by omega
      simp [execOp, hk.ev hx, hk.ev hl, hk.ev hh, hk.ev hm, Instr.sliceAt, underlying, hu, Instr.slice, Instr.sliceBounds, Instr.sliceBound, asIntOf, k1, k2, k3, sizeOf, typeInfo, hi', cutAddr]
theorem l_storeEN {α : Type} {sz : Nat} {enc : α → List Value} {hl : ∀ x, (enc x).length = sz} {h1 : ∀ x, ∀ v ∈ enc x, v.oneCell' = true} {p : Option Addr} {e cap n : Nat} {t : TypeId} {xs : List α} (el' : α) (ht : cellK X.P t = some (true, sz)) (hx : Env.ev E x = some (.pointer (some (elA p n sz 0)))) (hy : Env.ev E y = some (.agg (enc el').toArray))
    (hp : Pick L (RowO (Kd.flat sz enc hl h1) e p cap xs) L1) (hn : n < xs.length) :
    OpL X ⟨d, .store t x y, ty, pos, af, gd⟩ E L (fun v' L' => v' = undef ∧ L' = RowO (Kd.flat sz enc hl h1) e p cap (xs.set n el') :: L1) := fun a w hk hs => by
  have hs' := hs.pick hp
  rcases rowO_open hs' with ⟨_, _, hx0, _⟩ | ⟨b, o, c, rfl, hlc, hcs, h2⟩
  · rw [hx0] at hn; simp at hn
  have hb : w.heap[b]? = some (.cells c e (0, 0)) := h2.pt_heap (List.Mem.head _)
  have hcs' : o + cap * sz ≤ c.size := hcs
  have hmul : (n + 1) * sz ≤ cap * sz := Nat.mul_le_mul_right _ tO
  rw [Nat.succ_mul] at hmul
  have hlen := hl el'
  have hrun := run_storeCells (P := X.P) (b := b) (o := o + n * sz) (enc el') 0 w c hb (h1 el') tO
  rw [Nat.add_zero] at hrun
  rw [elA_some] at hx
  unfold Oper.wp
  have : (execOp a.eval ⟨d, .store t x y, ty, pos, af, gd⟩).run X.P w = .ok .skip (putBlk w b (.cells (spl c (o + n * sz) (enc el')) e (0, 0))) := by
    simp only [execOp, hk.ev hx, hk.ev hy, Instr.storeAt, Instr.sureAddr, storeVar, Sem.run_bind, Sem.run_pure, Result.andThen_ok, run_sizeK ht, Value.cells]
    simp only [List.size_toArray, hlen, ne_eq, not_true_eq_false, if_false]
    rw [Nat.add_zero, hrun]
    rfl
  rw [this]
  refine ⟨undef, _, ⟨rfl, rfl⟩, rfl, ?_⟩
  have hL2 := h2.put (.cells (spl c (o + n * sz) (enc el')) e (0, 0))
  have hget := fun q => spl_get (enc el') c (o + n * sz) q tO
  have hL3 := St.derive (B := rowP (Kd.flat sz enc hl h1) (spl c (o + n * sz) (enc el')) o (xs.set n el')) (List.Mem.tail _ (List.Mem.head _)) rfl
    (fun g _ hr => rowAt.setE (hr : rowAt (Kd.flat sz enc hl h1) g c o xs) (fun i q hi hq => by
        rw [hget, if_neg]
        rcases Nat.lt_or_gt_of_ne hi with h | h
        · have := Nat.mul_le_mul_right sz (show i + 1 ≤ n from h); rw [Nat.succ_mul] at this; omega
        · have := Nat.mul_le_mul_right sz (show n + 1 ≤ i from h); rw [Nat.succ_mul] at this; omega)
      (fun q u hu => by
        have hq : q < (enc el').length := (List.getElem?_eq_some_iff.1 hu).1
        rw [hget, if_pos tO, ← hu]
        congr 1
        omega)) hL2
  exact rowO_shut (c := spl c (o + n * sz) (enc el')) (by rw [spl_size]; exact hcs) (by rw [List.length_set]; exact hlc) (((hL3.pick (.there .here)).pick (.there (.there .here))).tail)
theorem rowAt_zeros {α : Type} {k : Kd α} {g : Hp} {z : List Value} {zc : Array Value} {z0 : α} (hz0 : k.rd g z0 z) (hzc : zc.toList = z) (hzl : z.length = k.sz) (n : Nat) : rowAt k g (Builtin.zeroCells zc n) 0 (List.replicate n z0) := fun i x hx => by
  obtain ⟨hi, e⟩ := List.getElem?_eq_some_iff.1 hx
  rw [List.length_replicate] at hi
  rw [List.getElem_replicate] at e
  subst e
  have hs : zc.size = k.sz := by rw [← hzl, ← hzc]; simp
  refine ⟨z, hz0, fun j v hv => ?_⟩
  have hj : j < k.sz := by rw [← hzl]; exact (List.getElem?_eq_some_iff.1 hv).1
  have hm : (i + 1) * k.sz ≤ n * k.sz := Nat.mul_le_mul_right _ hi
  rw [Nat.succ_mul] at hm
  have hlt : 0 + i * k.sz + j < n * zc.size := by rw [hs]; omega
  unfold Builtin.zeroCells
  rw [Array.getElem?_map, Array.getElem?_range, if_pos hlt, Option.map_some]
  have hmod : (0 + i * k.sz + j) % zc.size = j := by rw [hs, Nat.zero_add, Nat.mul_comm, Nat.mul_add_mod, Nat.mod_eq_of_lt hj]
  rw [hmod, ← hv, ← hzc, Array.getElem?_toList, getElem!_pos zc j (by rw [hs]; exact hj), Array.getElem?_eq_getElem (by rw [hs]; exact hj)]
theorem l_growPre {α : Type} (k : Kd α) {t t2 : TypeId} {e e' bytes n i cap : Nat} {p : Option Addr} {xs : List α} {z : List Value} (z0 : α) (ht : slElem X.P t = some (e, k.sz, bytes)) (ht2 : X.P.underlying t2 = some (.int .i64)) (hz : zeroOf X.P e = some z) (hzl : z.length = k.sz) (hz0 : ∀ g, k.rd g z0 z)
    (hx : Env.ev E x = some (.slice p i cap)) (hy : Env.ev E y = some (.int .i64 (n : Int))) (hp : Pick L (RowO k e' p cap xs) L1) (hi : i ≤ xs.length) (hgrow : cap < i + n) (h0 : 0 < n) (hk0 : 0 < k.sz) (hby : bytes ≠ 0) (hbig : (2 * (i + n) + 768) * bytes ≤ 281474976710656) :
    OpL X ⟨d, .call ⟨.builtin .append, [x, y].toArray, [t, t2].toArray⟩, ty, pos, af, gd⟩ E L (fun v L' => ∃ b cap', v = .slice (some ⟨b, 0, none⟩) (i + n) cap' ∧ L' = RowO k e (some ⟨b, 0, none⟩) cap' (xs.take i ++ List.replicate n z0) :: RowO k e' p cap xs :: L1) := fun a w hk hst => by
  have e1 := hk.ev hx
  have e2 := hk.ev hy
  have h1 := hst.pick hp
  obtain ⟨old, hold, holdsz, _, h2⟩ := row_cells (P := X.P) (n := i) (c := cap) (isRow_take (isO (k := k) (e := e') (p := p) (cap := cap) (xs := xs)) i) (List.Mem.head L1) (by rw [List.length_take]; omega) h1
  unfold slElem at ht
  cases hu : X.P.underlying t with
  | none => rw [hu] at ht; simp at ht
  | some dd =>
    cases dd <;> rw [hu] at ht <;> simp only [reduceCtorEq] at ht
    rename_i e1'
    cases hinf : X.P.info? e1' with
    | none => rw [hinf] at ht; simp at ht
    | some inf =>
      rw [hinf] at ht
      simp only [Option.some.injEq, Prod.mk.injEq] at ht
      obtain ⟨rfl, hisz, hiby⟩ := ht
      unfold zeroOf at hz
      rw [hinf] at hz
      simp only [Option.bind_some] at hz
      obtain ⟨zv, hzv, hzc⟩ := Option.map_eq_some_iff.1 hz
      have hzs : zv.cells.size = k.sz := by rw [← hzl, ← hzc]; simp
      have hle1 : i + n ≤ (2 * (i + n) + 768) * bytes := Nat.le_trans tO (Nat.le_mul_of_pos_right _ (Nat.pos_of_ne_zero hby))
      have hn2 : Builtin.nextslicecap (i + n) cap ≤ 2 * (i + n) + 768 := nextcap_le tO
      have hbig' : ¬ (Builtin.nextslicecap (i + n) cap * inf.bytes > 2 ^ 48) := by
        have := Nat.mul_le_mul_right inf.bytes hn2
        rw [hiby] at this ⊢
        omega
      have hw : IntKind.i64.wrap (n : Int) = n := wrap_i64 tO tO
      have hneg : ¬ (n : Int) < 0 := by omega
      have hnb : n * bytes ≤ 281474976710656 := Nat.le_trans (Nat.mul_le_mul_right _ tO) hbig
      have hb3 : ¬ (281474976710656 < (n : Int) * (inf.bytes : Int)) := by
        rw [hiby]
        have : ((n * bytes : Nat) : Int) ≤ 281474976710656 := by omega
        rw [Int.natCast_mul] at this
        omega
      have hm2 : ¬ (9223372036854775807 < (i : Int) + (n : Int)) := by omega
      have hfit : ¬ i + n ≤ cap := by omega
      have hni : ¬ n = 0 := by omega
      have hks : ¬ k.sz = 0 := by omega
      have hb0 : ¬ inf.bytes = 0 := by rw [hiby]; exact hby
      have hb4 : ¬ (281474976710656 < Builtin.nextslicecap (i + n) cap * inf.bytes) := by simpa using hbig'
      have hforced : (Question.appendCap (i + n) cap e1').forced = false := rfl
      let nc := (Question.appendCap (i + n) cap e1').cut (w.tape w.drawn (Question.appendCap (i + n) cap e1'))
      have hnc : i + n ≤ nc := Nat.le_add_right _ _
      let arr : Array Value := old ++ Builtin.zeroCells zv.cells n ++ Builtin.zeroCells zv.cells (nc - (i + n))
      have hold' : (Builtin.firstCells k.sz i (.slice p i cap)).run X.P w.drew = .ok old w.drew := hold _ rfl
      have hrun : (Builtin.append_ #[t, t2] ty #[.slice p i cap, .int .i64 (n : Int)]).run X.P w = .ok (.slice (some ⟨w.heap.size, 0, none⟩) (i + n) nc) { w with drawn := w.drawn + 1, heap := w.heap.push (.cells arr e1') } := by
        simp [Builtin.append_, underlying, hu, sizeOf, typeInfo, hinf, hisz, ht2, asInt, asIntOf, hw, hneg, hb3, hb4, hm2, hfit, hforced, hold', zeroValue, hzv, newRow, nc, arr, hb0]
        rw [if_neg (Nat.ne_of_gt (Nat.mul_pos h0 hk0))]
        rfl
      have hzn : ∀ q, (Builtin.zeroCells zv.cells q).size = q * k.sz := fun q => by simp [Builtin.zeroCells, hzs]
      have harr : arr.size = 0 + nc * k.sz := by
        have : nc * k.sz = (i * k.sz + n * k.sz) + (nc - (i + n)) * k.sz := by rw [← Nat.add_mul, ← Nat.add_mul]; congr 1; omega
        simp only [arr, Array.size_append, holdsz, hzn]
        omega
      unfold Oper.wp
      have : (execOp a.eval ⟨d, .call ⟨.builtin .append, [x, y].toArray, [t, t2].toArray⟩, ty, pos, af, gd⟩).run X.P w = .ok (.value (.slice (some ⟨w.heap.size, 0, none⟩) (i + n) nc)) { w with drawn := w.drawn + 1, heap := w.heap.push (.cells arr e1') } := by
        simp only [execOp, resolve, invoke, builtin, Sem.run_bind, Sem.run_pure, Result.andThen_ok, List.map_toArray, List.map_cons, List.map_nil, e1, e2]
        rw [hrun]
        rfl
      rw [this]
      have hL1 := (h2.drewN (w.drawn + 1) (Nat.le_succ _)).alloc (.cells arr e1')
      have htl : (xs.take i).length = i := by rw [List.length_take]; omega
      have hL3 := St.derive (B := rowP k arr 0 (xs.take i ++ List.replicate n z0)) (List.Mem.tail _ (List.Mem.head _)) rfl
        (fun g _ h1 => rowAt.append (h1 : rowAt k g old 0 (xs.take i)) (rowAt_zeros (hz0 g) hzc hzl n)
          (fun j hj => by
            rw [htl] at hj
            rw [Nat.zero_add]
            simp only [arr]
            rw [Array.getElem?_append_left (by simp [holdsz, hzn]; omega), Array.getElem?_append_left tO])
          (fun j hj => by
            rw [List.length_replicate] at hj
            rw [htl]
            simp only [arr, Nat.zero_add]
            rw [Array.getElem?_append_left (by simp [holdsz, hzn]; omega), Array.getElem?_append_right tO]
            congr 1
            omega)) hL1
      have hL4 := ((hL3.pick (.there .here)).pick (.there (.there .here))).tail
      exact ⟨_, _, ⟨w.heap.size, nc, rfl, rfl⟩, rfl, rowO_shut (Nat.le_of_eq harr.symm) (by rw [List.length_append, htl, List.length_replicate]; omega) hL4⟩
end
end Go.Proofs.YtkbhldicnamcdaaGreat.L
namespace Go.Proofs.YtkbhldicnamcdaaGreat.L
open Go Go.RowKit
set_option linter.unusedSimpArgs false
set_option linter.unusedVariables false
theorem q_apartC {X : Fx} {E : Env} {L L1 : List HP} {d : Option Tmp} {ty : TypeId} {pos : String} {af : Array Edge} {gd : Option (Nat × Bool)} {x y : Operand} {ats : Array TypeId} {α : Type} {k : Kd α} {f : FuncId} {fn : Func} {tS tR e1 e ev bytes bv ov la ca lb cb cap j : Nat} {q : Option Addr} {cs : List Value} {xs : List α} (hf : X.P.funcs[f]? = some fn) (hname : (fn.name == "runtime.NumGoroutine") = false) (hb : fn.body.isNone = true) (hn : Extern.findNext fn = none)
    (he : Extern.find fn = some (Extern.SlicesOverlaps.overlaps #[tS, tS] #[tR])) (ht : slElem X.P tS = some (e1, k.sz, bytes)) (hx : Env.ev E x = some (.slice (some ⟨bv, ov, none⟩) la ca)) (hy : Env.ev E y = some (.slice (cutAddr q cap j k.sz) lb cb))
    (hp : Pick L (pv bv ev cs) L1) (m : RowO k e q cap xs ∈ L1) (hne : xs ≠ []) (hj : j < cap) (hk0 : 0 < k.sz) :
    OpQ X ⟨d, .call ⟨.value (.func f), [x, y].toArray, ats⟩, ty, pos, af, gd⟩ E L (.bool false) :=
  OpQ.when (fun w hs => rowO_addr m hne w (hs.pick hp).tail) (fun ⟨b, o, hq⟩ => by
    subst hq
    rw [cutAddr_in hj] at hy
    exact q_apart hf hname hb hn he ht hx hy hp m tO hk0)
section
variable {α : Type} {l : List α} {i : Nat} {x z : α}
theorem ins_grow1 (hi : i ≤ l.length) : (l.take i ++ List.replicate (l.length + 1 - i) z).take i ++ [x].take 1 ++ (l.take i ++ List.replicate (l.length + 1 - i) z).drop (i + 1) = l.take i ++ [x] ++ List.replicate (l.length - i) z := by
  have e : (l.take i).length = i := by rw [List.length_take]; omega
  rw [List.take_left' e, List.drop_append, e, List.drop_of_length_le tO, List.nil_append, List.drop_replicate, show l.length + 1 - i - (i + 1 - i) = l.length - i by omega]
  rfl
theorem ins_grow2 (hi : i ≤ l.length) : (l.take i ++ [x] ++ List.replicate (l.length - i) z).take (i + 1) ++ (l.drop i).take (l.length - i) ++ (l.take i ++ [x] ++ List.replicate (l.length - i) z).drop (i + 1 + (l.length - i)) = l.take i ++ [x] ++ l.drop i := by
  have e : (l.take i ++ [x]).length = i + 1 := by rw [List.length_append, List.length_take, List.length_singleton]; omega
  rw [List.take_left' e, List.drop_of_length_le (l := l.take i ++ [x] ++ List.replicate (l.length - i) z) (by rw [List.length_append, e, List.length_replicate]; omega), List.append_nil, List.take_of_length_le (l := l.drop i) (by rw [List.length_drop]; omega)]
theorem ins_room1 (hi : i < l.length) : l.take (i + 1) ++ (l.drop i).take (l.length - i) ++ l.drop (i + 1 + (l.length - i)) = l.take (i + 1) ++ l.drop i := by
  rw [List.drop_of_length_le (i := i + 1 + (l.length - i)) tO, List.append_nil, List.take_of_length_le (l := l.drop i) (by rw [List.length_drop]; omega)]
theorem ins_room2 (hi : i < l.length) : (l.take (i + 1) ++ l.drop i).take i ++ [x].take 1 ++ (l.take (i + 1) ++ l.drop i).drop (i + 1) = l.take i ++ [x] ++ l.drop i := by
  have e : (l.take (i + 1)).length = i + 1 := by rw [List.length_take]; omega
  rw [List.drop_left' e, List.take_append_of_le_length tO, List.take_take, show min i (i + 1) = i by omega]
  rfl
end
theorem tw_eq {α : Type} {f : α → Bool} {l : List α} {i : Nat} (ha : (l.take i).all f = true) (hi : i ≤ l.length) (hn : ∀ e, l[i]? = some e → f e = false) : (l.takeWhile f).length = i := by
  have hs : l = l.take i ++ l.drop i := (List.take_append_drop i l).symm
  conv => lhs; rw [hs]
  rw [List.takeWhile_append_of_pos (by simpa using ha), List.length_append, List.length_take]
  have : (l.drop i).takeWhile f = [] := by
    cases hd : l.drop i with
    | nil => rfl
    | cons x t =>
      have hx : l[i]? = some x := by
        have : (l.drop i)[0]? = some x := by rw [hd]; rfl
        rw [List.getElem?_drop] at this
        exact this
      rw [List.takeWhile_cons, if_neg (by rw [hn x hx]; exact Bool.false_ne_true)]
  rw [this]
  simp only [List.length_nil]
  omega
theorem filter_take_succ {α : Type} (p : α → Bool) {l : List α} {i : Nat} {x : α} (h : l[i]? = some x) : (l.take (i + 1)).filter p = (l.take i).filter p ++ if p x = true then [x] else [] := by
  rw [List.take_add_one, h, List.filter_append]
  cases hp : p x <;> simp [hp]
theorem flatMap_take_succ {α β : Type} (f : α → List β) {l : List α} {i : Nat} {x : α} (h : l[i]? = some x) : (l.take (i + 1)).flatMap f = (l.take i).flatMap f ++ f x := by
  rw [List.take_add_one, h]; simp
theorem flatMap_take_le {α β : Type} (f : α → List β) (l : List α) (i : Nat) : ((l.take i).flatMap f).length ≤ (l.flatMap f).length := by
  have h : (l.flatMap f).length = ((l.take i ++ l.drop i).flatMap f).length := by rw [List.take_append_drop]
  rw [h, List.flatMap_append, List.length_append]; omega
theorem cmpI_neg {a b : Int} : cmpI a b < 0 ↔ a < b := by unfold cmpI; (repeat' split) <;> omega
theorem cmpL_anti : ∀ a b : List UInt8, cmpL b a = - cmpL a b
  | [], [] => rfl
  | [], _ :: _ => rfl
  | _ :: _, [] => rfl
  | x :: xs, y :: ys => by
    have ih := cmpL_anti xs ys
    unfold cmpL
    simp only [UInt8.lt_iff_toNat_lt]
    (repeat' split) <;> omega
theorem cmpL_trans : ∀ {a b c : List UInt8}, cmpL a b < 0 → cmpL b c < 0 → cmpL a c < 0
  | [], [], _, h, _ => by simp [cmpL] at h
  | [], _ :: _, [], _, h => by simp [cmpL] at h
  | [], _ :: _, _ :: _, _, _ => by simp [cmpL]
  | _ :: _, [], _, h, _ => by simp [cmpL] at h
  | _ :: _, _ :: _, [], _, h => by simp [cmpL] at h
  | x :: xs, y :: ys, z :: zs, h1, h2 => by
    have ih := cmpL_trans (a := xs) (b := ys) (c := zs)
    unfold cmpL at h1 h2 ⊢
    simp only [UInt8.lt_iff_toNat_lt] at h1 h2 ⊢
    split at h1
    · split at h2
      · rw [if_pos tO]; decide
      · split at h2
        · omega
        · rw [if_pos tO]; decide
    · split at h1
      · omega
      · split at h2
        · rw [if_pos tO]; decide
        · split at h2
          · omega
          · rw [if_neg tO, if_neg tO]
            exact ih h1 h2
theorem cmpB_anti (a b : ByteArray) : cmpB b a = - cmpB a b := cmpL_anti _ _
theorem cmpB_trans {a b c : ByteArray} (h1 : cmpB a b < 0) (h2 : cmpB b c < 0) : cmpB a c < 0 := cmpL_trans h1 h2
end Go.Proofs.YtkbhldicnamcdaaGreat.L
namespace Go.Proofs.YtkbhldicnamcdaaGreat.L
open Go Go.Proofs
attribute [local irreducible] pv fv pt fz RowF RowO rowP old pure_ elA Rd.int Rd.text Rd.flag Rd.msg Rd.rint Rd.rtext Rd.rflag Rd.rmsg
set_option maxRecDepth 100000
set_option linter.unusedSimpArgs false
set_option linter.unusedVariables false
theorem ze_rw : zeroOf Tryz.prog 136 = some (Rw.cells ⟨⟨#[]⟩, ⟨#[]⟩⟩) := by kernel_rfl
theorem ze_msg : zeroOf Tryz.prog 56 = some (Msg.cells ⟨0, 0, 0, false, ⟨#[]⟩, ⟨#[]⟩⟩) := by kernel_rfl
theorem ze_oz : zeroOf Tryz.prog 62 = some (Oz.cells ⟨Ob.zero, ⟨none, 0, none, 0, none, 0⟩⟩) := by kernel_rfl
theorem clone_rw (A : HP) (q : Option Addr) (cap : Nat) (xs : List Rw) (hA : IsRow A Kd.rw q xs) (hb : xs.length ≤ 1000000000) : Fn Tryz.prog 93 [.slice q xs.length cap].toArray [A]
    (fun r post => ∃ q' cap', r = .slice q' xs.length cap' ∧ post = [RowO Kd.rw 136 q' cap' xs, A] ∧ xs.length ≤ cap') := by
  refine Fn.enter (N := 8) Tryz.func93 rfl Tryz.ntmps93 tK rfl (fun ρ L => ?_)
  refine K.seq <| K.region <| KO.q rfl (q_assign rfl) <| KO.done <| K.seq <| K.seq <| K.region <| KO.q rfl (q_move rfl) <| KO.q rfl (q_slnil Tryz.underlying59 rfl rfl) <| KO.done ?_
  refine K.ite rfl (fun h => ?_) (fun h => ?_)
  · rcases q with _ | a
    rotate_left
    · cases h
    refine K.fact (row_none hA (List.Mem.head _)) (fun e => ?_)
    subst e
    refine K.seq <| K.region <| KO.q rfl (q_assign rfl) <| KO.done ?_
    refine kr1 Tryz.func93 Tryz.results93 rfl (fun w hs => ?_)
    exact ⟨_, [RowO Kd.rw 136 none 0 [], A], rfl, ⟨none, 0, rfl, rfl, Nat.le_refl _⟩, (rowO_nil (k := Kd.rw) 136 hs).fitD⟩
  · refine K.skip <| K.seq <| K.region <| KO.loud rfl (l_slice0 Kd.rw se_59) ?_
    rintro _ _ ⟨q0, rfl, rfl⟩
    refine KO.q rfl (q_move rfl) <| KO.loud rfl (l_append Kd.rw (xs := []) (ys := xs) se_59 Tryz.underlying59 ⟨_, ze_rw, rfl⟩ tD rfl rfl tP hA tM rfl rfl (by show (2 * (0 + xs.length) + 768) * _ ≤ _; omega)) ?_
    rintro _ _ ⟨q', cap', rfl, rfl⟩
    refine KO.q rfl (q_assign rfl) <| KO.done ?_
    refine kr1 Tryz.func93 Tryz.results93 rfl (fun w hs => ?_)
    exact ⟨_, [RowO Kd.rw 136 q' cap' xs, A], rfl, ⟨q', cap', rfl, rfl, rowO_cap (List.Mem.head _) w hs⟩, hs.fitD⟩
set_option maxHeartbeats 1600000 in
theorem ins_rw (q : Option Addr) (cap : Nat) (l : List Rw) (i : Nat) (bv ev : Nat) (x : Rw) (hi : i ≤ l.length) (hc : l.length ≤ cap) (hb : l.length ≤ 1000000000) : Fn Tryz.prog 222 [.slice q l.length cap, .int .i64 i, .slice (some ⟨bv, 0, none⟩) 1 1].toArray [RowO Kd.rw 136 q cap l, pv bv ev x.cells]
    (fun r post => ∃ q' cap', r = .slice q' (insAt l i x).length cap' ∧ post = [RowO Kd.rw 136 q' cap' (insAt l i x)] ∧ (insAt l i x).length ≤ cap') := by
  have hil' : (insAt l i x).length = l.length + 1 := by
    unfold insAt
    rw [List.length_append, List.length_append, List.length_take, List.length_drop, List.length_singleton]; omega
  refine Fn.enter (N := 95) Tryz.func222 rfl Tryz.ntmps222 tK rfl (fun ρ L => ?_)
  refine K.seq <| K.region <| KO.q rfl (q_assign rfl) <| KO.done <| K.seq <| K.region <| KO.q rfl (q_move rfl) <| KO.q rfl (q_move rfl) <| KO.q rfl (q_cutL se_59 rfl rfl tN tN tN) <| KO.done ?_
  refine K.seq <| K.region <| KO.q rfl (q_move rfl) <| KO.q rfl (q_len Tryz.underlying59 rfl) <| KO.q rfl (q_assign rfl) <| KO.done <| K.seq <| K.seq <| K.region <| KO.q rfl (q_move rfl) <| KO.q rfl (q_eqF rfl rfl tD) ?_
  refine KO.done <| K.no rfl <| K.skip <| K.seq <| K.region <| KO.q rfl (q_move rfl) <| KO.q rfl (q_len Tryz.underlying59 rfl) <| KO.q rfl (q_assign rfl) <| KO.done <| K.seq <| K.seq <| K.region ?_
  refine KO.q rfl (q_move rfl) <| KO.q rfl (q_move rfl) <| KO.q rfl (q_eq rfl rfl) <| KO.done ?_
  refine K.dcond (s := 22) rfl (fun g22 => ?_) (fun g22 => ?_)
  · have hil : i = l.length := by omega
    have hins : insAt l i x = l ++ [x] := by unfold insAt; subst hil; simp
    refine K.seq <| K.region <| KO.q rfl (q_move rfl) <| KO.q rfl (q_move rfl) <| KO.loud rfl (l_append Kd.rw se_59 Tryz.underlying59 ⟨_, ze_rw, rfl⟩ tD rfl rfl tP isP tM rfl rfl (by show (2 * (l.length + 1) + 768) * _ ≤ _; omega)) ?_
    rintro _ _ ⟨px, capx, rfl, rfl⟩
    refine KO.q rfl (q_assign rfl) <| KO.done ?_
    refine kr1 Tryz.func222 Tryz.results222 rfl (fun w hs => ?_)
    first
      | exact ⟨_, [RowO Kd.rw 136 px capx (l ++ [x])], rfl, ⟨px, capx, by rw [hil']; simp, by rw [hins], by rw [hins]; exact rowO_cap (e := 136) (k := Kd.rw) (p := px) (cap := capx) (xs := l ++ [x]) tM w hs⟩, hs.fitD⟩
      | exact ⟨_, [RowO Kd.rw 136 (some ⟨bn, 0, none⟩) capn (l.take i ++ [x] ++ l.drop i)], rfl, ⟨_, _, by rw [hil']; exact congrArg (fun n => Value.slice _ n _) tO, rfl, rowO_cap (e := 136) (k := Kd.rw) (xs := l.take i ++ [x] ++ l.drop i) tM w hs⟩, hs.fitD⟩
      | exact ⟨_, [RowO Kd.rw 136 q cap (l.take i ++ [x] ++ l.drop i)], rfl, ⟨q, cap, by rw [hil']; exact congrArg (fun n => Value.slice _ n _) tO, rfl, rowO_cap (e := 136) (k := Kd.rw) (xs := l.take i ++ [x] ++ l.drop i) tM w hs⟩, hs.fitD⟩
  · refine K.skip <| K.seq <| K.seq <| K.region <| KO.q rfl (q_move rfl) <| KO.q rfl (q_move rfl) <| KO.q rfl (q_add rfl rfl tN tN) <| KO.q rfl (q_move rfl) <| KO.q rfl (q_cap Tryz.underlying59 rfl) <| KO.q rfl (q_gt rfl rfl) <| KO.done ?_
    refine K.dcond (s := 31) rfl (fun g31 => ?_) (fun g31 => ?_)
    · have hil : i < l.length := by omega
      refine K.seq <| K.region <| KO.q rfl (q_move rfl) <| KO.q rfl (q_move rfl) <| KO.q rfl (q_cutH se_59 rfl rfl tN tN) <| KO.q rfl (q_move rfl) <| KO.q rfl (q_move rfl) <| KO.q rfl (q_add rfl rfl tN tN) <| KO.q rfl (q_move rfl) <| KO.q rfl (q_sub rfl rfl tN tN) ?_
      refine KO.loud rfl (l_growPre (i := i) (n := l.length + 1 - i) Kd.rw ⟨⟨#[]⟩,⟨#[]⟩⟩ se_59 Tryz.underlying3 ze_rw rfl (fun _ => rfl) rfl (congrArg (fun z => some (Value.int .i64 z)) (show (l.length : Int) + ((1 : Nat) : Int) - i = ((l.length + 1 - i : Nat) : Int) by omega)) tP hi tO tO tD tD tO) ?_
      rintro _ _ ⟨bn, capn, rfl, rfl⟩
      refine KO.fact (fun w h => rowO_cap List.mem_cons_self w h) (fun hcn => ?_)
      rw [List.length_append, List.length_take, List.length_replicate] at hcn
      refine KO.q rfl (q_assign rfl) <| KO.done <| K.seq <| K.region <| KO.q rfl (q_move rfl) <| KO.q rfl (q_move rfl) <| KO.q rfl (q_cutL se_59 rfl rfl tN tN tN) <| KO.q rfl (q_move rfl) <| KO.loud rfl (l_copyA (i := i) (m := 1) Kd.rw se_59 rfl rfl tP isP tM rfl (Nat.min_eq_left tO) (by rw [List.length_append, List.length_take, List.length_replicate]; omega) tO tO) ?_
      rintro _ _ ⟨rfl, rfl⟩
      refine KO.done ?_
      rw [ins_grow1 hi]
      refine K.seq <| K.draw [] mixed <| D.q 0 rfl tK tK (q_move rfl) (fun _ h => h.nil) <| D.q 1 rfl tK tK (q_move rfl) (fun _ h => h.nil) <| D.q 2 rfl tK tK (q_move rfl) (fun _ h => h.nil) <| D.q 3 rfl tK tK (q_add rfl rfl tN tN) (fun _ h => h.nil) <| D.q 4 rfl tK tK (q_cutL se_59 rfl rfl tN tN tN) (fun _ h => h.nil) <| D.q 5 rfl tK tK (q_move rfl) (fun _ h => h.nil) <| D.q 6 rfl tK tK (q_move rfl) (fun _ h => h.nil) <| D.q 7 rfl tK tK (q_cutL se_59 rfl rfl tN tN tN) (fun _ h => h.nil) ?_
      refine dq1 8 rfl (l_copyA (i := i + 1) (m := l.length - i) Kd.rw se_59 rfl rfl tP (isO_cut i) tM (by rw [List.length_drop]; omega) (by show min _ _ = _; omega) (by rw [List.length_append, List.length_append, List.length_take, List.length_replicate, List.length_singleton]; omega) tO tO) (.inr (fun _ _ _ _ h => h.nil)) ?_
      rintro _ _ ⟨rfl, rfl⟩
      refine D.done tK ?_
      rw [ins_grow2 hi]
      refine K.seq <| K.region <| KO.q rfl (q_move rfl) <| KO.q rfl (q_assign rfl) <| KO.done ?_
      refine kr1 Tryz.func222 Tryz.results222 rfl (fun w hs => ?_)
      first
        | exact ⟨_, [RowO Kd.rw 136 px capx (l ++ [x])], rfl, ⟨px, capx, by rw [hil']; simp, by rw [hins], by rw [hins]; exact rowO_cap (e := 136) (k := Kd.rw) (p := px) (cap := capx) (xs := l ++ [x]) tM w hs⟩, hs.fitD⟩
        | exact ⟨_, [RowO Kd.rw 136 (some ⟨bn, 0, none⟩) capn (l.take i ++ [x] ++ l.drop i)], rfl, ⟨_, _, by rw [hil']; exact congrArg (fun n => Value.slice _ n _) tO, rfl, rowO_cap (e := 136) (k := Kd.rw) (xs := l.take i ++ [x] ++ l.drop i) tM w hs⟩, hs.fitD⟩
        | exact ⟨_, [RowO Kd.rw 136 q cap (l.take i ++ [x] ++ l.drop i)], rfl, ⟨q, cap, by rw [hil']; exact congrArg (fun n => Value.slice _ n _) tO, rfl, rowO_cap (e := 136) (k := Kd.rw) (xs := l.take i ++ [x] ++ l.drop i) tM w hs⟩, hs.fitD⟩
    · have hil : i < l.length := by omega
      refine K.skip <| K.seq <| K.region <| KO.q rfl (q_move rfl) <| KO.q rfl (q_move rfl) <| KO.q rfl (q_move rfl) <| KO.q rfl (q_add rfl rfl tN tN) <| KO.q rfl (q_cutH se_59 rfl rfl tN tN) <| KO.q rfl (q_assign rfl) <| KO.done <| K.seq <| K.seq ?_
      refine K.region <| KO.q rfl (q_move rfl) <| KO.q rfl (q_move rfl) <| KO.q rfl (q_move rfl) <| KO.q rfl (q_move rfl) <| KO.q rfl (q_add rfl rfl tN tN) <| KO.q rfl (q_cutL se_59 rfl rfl tN tN tN) <| KO.q rfl (q_apartC (j := i + 1) (k := Kd.rw) (xs := l) Tryz.func231 (by decide +kernel) rfl (by decide +kernel) (by rfl) se_59 rfl rfl tP tM (by intro hz; rw [hz] at hil; exact absurd hil (Nat.not_lt_zero _)) tO tD) <| KO.q rfl (q_not rfl) <| KO.done ?_
      refine K.bcond (s := 68) rfl (fun g68 => ?_) (fun g68 => ?_)
      · refine K.seq <| K.draw [] mixed <| D.q 0 rfl tK tK (q_move rfl) (fun _ h => h.nil) <| D.q 1 rfl tK tK (q_move rfl) (fun _ h => h.nil) <| D.q 2 rfl tK tK (q_move rfl) (fun _ h => h.nil) <| D.q 3 rfl tK tK (q_add rfl rfl tN tN) (fun _ h => h.nil) <| D.q 4 rfl tK tK (q_cutL se_59 rfl rfl tN tN tN) (fun _ h => h.nil) <| D.q 5 rfl tK tK (q_move rfl) (fun _ h => h.nil) <| D.q 6 rfl tK tK (q_move rfl) (fun _ h => h.nil) <| D.q 7 rfl tK tK (q_cutL se_59 rfl rfl tN tN tN) (fun _ h => h.nil) ?_
        refine dq1 8 rfl (l_copyS (i := i + 1) (s0 := i) (m := l.length - i) Kd.rw se_59 rfl rfl tP (by show min _ _ = _; omega) tO tO tO tO) (.inr (fun _ _ _ _ h => h.nil)) ?_
        rintro _ _ ⟨rfl, rfl⟩
        refine D.done tK ?_
        rw [ins_room1 hil]
        refine K.seq <| K.region <| KO.q rfl (q_move rfl) <| KO.q rfl (q_move rfl) <| KO.q rfl (q_cutL se_59 rfl rfl tN tN tN) <| KO.q rfl (q_move rfl) <| KO.loud rfl (l_copyA (i := i) (m := 1) Kd.rw se_59 rfl rfl tP isP tM rfl (Nat.min_eq_left tO) (by rw [List.length_append, List.length_take, List.length_drop]; omega) tO tO) ?_
        rintro _ _ ⟨rfl, rfl⟩
        refine KO.done ?_
        rw [ins_room2 hil]
        refine K.seq <| K.region <| KO.q rfl (q_move rfl) <| KO.q rfl (q_assign rfl) <| KO.done ?_
        refine kr1 Tryz.func222 Tryz.results222 rfl (fun w hs => ?_)
        first
          | exact ⟨_, [RowO Kd.rw 136 px capx (l ++ [x])], rfl, ⟨px, capx, by rw [hil']; simp, by rw [hins], by rw [hins]; exact rowO_cap (e := 136) (k := Kd.rw) (p := px) (cap := capx) (xs := l ++ [x]) tM w hs⟩, hs.fitD⟩
          | exact ⟨_, [RowO Kd.rw 136 (some ⟨bn, 0, none⟩) capn (l.take i ++ [x] ++ l.drop i)], rfl, ⟨_, _, by rw [hil']; exact congrArg (fun n => Value.slice _ n _) tO, rfl, rowO_cap (e := 136) (k := Kd.rw) (xs := l.take i ++ [x] ++ l.drop i) tM w hs⟩, hs.fitD⟩
          | exact ⟨_, [RowO Kd.rw 136 q cap (l.take i ++ [x] ++ l.drop i)], rfl, ⟨q, cap, by rw [hil']; exact congrArg (fun n => Value.slice _ n _) tO, rfl, rowO_cap (e := 136) (k := Kd.rw) (xs := l.take i ++ [x] ++ l.drop i) tM w hs⟩, hs.fitD⟩
      · exact absurd g68 tD
theorem clone_msg (A : HP) (q : Option Addr) (cap : Nat) (xs : List Msg) (hA : IsRow A Kd.msg q xs) (hb : xs.length ≤ 1000000000) : Fn Tryz.prog 94 [.slice q xs.length cap].toArray [A]
    (fun r post => ∃ q' cap', r = .slice q' xs.length cap' ∧ post = [RowO Kd.msg 56 q' cap' xs, A] ∧ xs.length ≤ cap') := by
  refine Fn.enter (N := 8) Tryz.func94 rfl Tryz.ntmps94 tK rfl (fun ρ L => ?_)
  refine K.seq <| K.region <| KO.q rfl (q_assign rfl) <| KO.done <| K.seq <| K.seq <| K.region <| KO.q rfl (q_move rfl) <| KO.q rfl (q_slnil Tryz.underlying60 rfl rfl) <| KO.done ?_
  refine K.ite rfl (fun h => ?_) (fun h => ?_)
  · rcases q with _ | a
    rotate_left
    · cases h
    refine K.fact (row_none hA (List.Mem.head _)) (fun e => ?_)
    subst e
    refine K.seq <| K.region <| KO.q rfl (q_assign rfl) <| KO.done ?_
    refine kr1 Tryz.func94 Tryz.results94 rfl (fun w hs => ?_)
    exact ⟨_, [RowO Kd.msg 56 none 0 [], A], rfl, ⟨none, 0, rfl, rfl, Nat.le_refl _⟩, (rowO_nil (k := Kd.msg) 56 hs).fitD⟩
  · refine K.skip <| K.seq <| K.region <| KO.loud rfl (l_slice0 Kd.msg se_60) ?_
    rintro _ _ ⟨q0, rfl, rfl⟩
    refine KO.q rfl (q_move rfl) <| KO.loud rfl (l_append Kd.msg (xs := []) (ys := xs) se_60 Tryz.underlying60 ⟨_, ze_msg, rfl⟩ tD rfl rfl tP hA tM rfl rfl (by show (2 * (0 + xs.length) + 768) * _ ≤ _; omega)) ?_
    rintro _ _ ⟨q', cap', rfl, rfl⟩
    refine KO.q rfl (q_assign rfl) <| KO.done ?_
    refine kr1 Tryz.func94 Tryz.results94 rfl (fun w hs => ?_)
    exact ⟨_, [RowO Kd.msg 56 q' cap' xs, A], rfl, ⟨q', cap', rfl, rfl, rowO_cap (List.Mem.head _) w hs⟩, hs.fitD⟩
set_option maxHeartbeats 1600000 in
theorem ins_msg (q : Option Addr) (cap : Nat) (l : List Msg) (i : Nat) (bv ev : Nat) (x : Msg) (hi : i ≤ l.length) (hc : l.length ≤ cap) (hb : l.length ≤ 1000000000) : Fn Tryz.prog 228 [.slice q l.length cap, .int .i64 i, .slice (some ⟨bv, 0, none⟩) 1 1].toArray [RowO Kd.msg 56 q cap l, pv bv ev x.cells]
    (fun r post => ∃ q' cap', r = .slice q' (insAt l i x).length cap' ∧ post = [RowO Kd.msg 56 q' cap' (insAt l i x)] ∧ (insAt l i x).length ≤ cap') := by
  have hil' : (insAt l i x).length = l.length + 1 := by
    unfold insAt
    rw [List.length_append, List.length_append, List.length_take, List.length_drop, List.length_singleton]; omega
  refine Fn.enter (N := 95) Tryz.func228 rfl Tryz.ntmps228 tK rfl (fun ρ L => ?_)
  refine K.seq <| K.region <| KO.q rfl (q_assign rfl) <| KO.done <| K.seq <| K.region <| KO.q rfl (q_move rfl) <| KO.q rfl (q_move rfl) <| KO.q rfl (q_cutL se_60 rfl rfl tN tN tN) <| KO.done ?_
  refine K.seq <| K.region <| KO.q rfl (q_move rfl) <| KO.q rfl (q_len Tryz.underlying60 rfl) <| KO.q rfl (q_assign rfl) <| KO.done <| K.seq <| K.seq <| K.region <| KO.q rfl (q_move rfl) <| KO.q rfl (q_eqF rfl rfl tD) ?_
  refine KO.done <| K.no rfl <| K.skip <| K.seq <| K.region <| KO.q rfl (q_move rfl) <| KO.q rfl (q_len Tryz.underlying60 rfl) <| KO.q rfl (q_assign rfl) <| KO.done <| K.seq <| K.seq <| K.region ?_
  refine KO.q rfl (q_move rfl) <| KO.q rfl (q_move rfl) <| KO.q rfl (q_eq rfl rfl) <| KO.done ?_
  refine K.dcond (s := 22) rfl (fun g22 => ?_) (fun g22 => ?_)
  · have hil : i = l.length := by omega
    have hins : insAt l i x = l ++ [x] := by unfold insAt; subst hil; simp
    refine K.seq <| K.region <| KO.q rfl (q_move rfl) <| KO.q rfl (q_move rfl) <| KO.loud rfl (l_append Kd.msg se_60 Tryz.underlying60 ⟨_, ze_msg, rfl⟩ tD rfl rfl tP isP tM rfl rfl (by show (2 * (l.length + 1) + 768) * _ ≤ _; omega)) ?_
    rintro _ _ ⟨px, capx, rfl, rfl⟩
    refine KO.q rfl (q_assign rfl) <| KO.done ?_
    refine kr1 Tryz.func228 Tryz.results228 rfl (fun w hs => ?_)
    first
      | exact ⟨_, [RowO Kd.msg 56 px capx (l ++ [x])], rfl, ⟨px, capx, by rw [hil']; simp, by rw [hins], by rw [hins]; exact rowO_cap (e := 56) (k := Kd.msg) (p := px) (cap := capx) (xs := l ++ [x]) tM w hs⟩, hs.fitD⟩
      | exact ⟨_, [RowO Kd.msg 56 (some ⟨bn, 0, none⟩) capn (l.take i ++ [x] ++ l.drop i)], rfl, ⟨_, _, by rw [hil']; exact congrArg (fun n => Value.slice _ n _) tO, rfl, rowO_cap (e := 56) (k := Kd.msg) (xs := l.take i ++ [x] ++ l.drop i) tM w hs⟩, hs.fitD⟩
      | exact ⟨_, [RowO Kd.msg 56 q cap (l.take i ++ [x] ++ l.drop i)], rfl, ⟨q, cap, by rw [hil']; exact congrArg (fun n => Value.slice _ n _) tO, rfl, rowO_cap (e := 56) (k := Kd.msg) (xs := l.take i ++ [x] ++ l.drop i) tM w hs⟩, hs.fitD⟩
  · refine K.skip <| K.seq <| K.seq <| K.region <| KO.q rfl (q_move rfl) <| KO.q rfl (q_move rfl) <| KO.q rfl (q_add rfl rfl tN tN) <| KO.q rfl (q_move rfl) <| KO.q rfl (q_cap Tryz.underlying60 rfl) <| KO.q rfl (q_gt rfl rfl) <| KO.done ?_
    refine K.dcond (s := 31) rfl (fun g31 => ?_) (fun g31 => ?_)
    · have hil : i < l.length := by omega
      refine K.seq <| K.region <| KO.q rfl (q_move rfl) <| KO.q rfl (q_move rfl) <| KO.q rfl (q_cutH se_60 rfl rfl tN tN) <| KO.q rfl (q_move rfl) <| KO.q rfl (q_move rfl) <| KO.q rfl (q_add rfl rfl tN tN) <| KO.q rfl (q_move rfl) <| KO.q rfl (q_sub rfl rfl tN tN) ?_
      refine KO.loud rfl (l_growPre (i := i) (n := l.length + 1 - i) Kd.msg ⟨0,0,0,false,⟨#[]⟩,⟨#[]⟩⟩ se_60 Tryz.underlying3 ze_msg rfl (fun _ => rfl) rfl (congrArg (fun z => some (Value.int .i64 z)) (show (l.length : Int) + ((1 : Nat) : Int) - i = ((l.length + 1 - i : Nat) : Int) by omega)) tP hi tO tO tD tD tO) ?_
      rintro _ _ ⟨bn, capn, rfl, rfl⟩
      refine KO.fact (fun w h => rowO_cap List.mem_cons_self w h) (fun hcn => ?_)
      rw [List.length_append, List.length_take, List.length_replicate] at hcn
      refine KO.q rfl (q_assign rfl) <| KO.done <| K.seq <| K.region <| KO.q rfl (q_move rfl) <| KO.q rfl (q_move rfl) <| KO.q rfl (q_cutL se_60 rfl rfl tN tN tN) <| KO.q rfl (q_move rfl) <| KO.loud rfl (l_copyA (i := i) (m := 1) Kd.msg se_60 rfl rfl tP isP tM rfl (Nat.min_eq_left tO) (by rw [List.length_append, List.length_take, List.length_replicate]; omega) tO tO) ?_
      rintro _ _ ⟨rfl, rfl⟩
      refine KO.done ?_
      rw [ins_grow1 hi]
      refine K.seq <| K.draw [] mixed <| D.q 0 rfl tK tK (q_move rfl) (fun _ h => h.nil) <| D.q 1 rfl tK tK (q_move rfl) (fun _ h => h.nil) <| D.q 2 rfl tK tK (q_move rfl) (fun _ h => h.nil) <| D.q 3 rfl tK tK (q_add rfl rfl tN tN) (fun _ h => h.nil) <| D.q 4 rfl tK tK (q_cutL se_60 rfl rfl tN tN tN) (fun _ h => h.nil) <| D.q 5 rfl tK tK (q_move rfl) (fun _ h => h.nil) <| D.q 6 rfl tK tK (q_move rfl) (fun _ h => h.nil) <| D.q 7 rfl tK tK (q_cutL se_60 rfl rfl tN tN tN) (fun _ h => h.nil) ?_
      refine dq1 8 rfl (l_copyA (i := i + 1) (m := l.length - i) Kd.msg se_60 rfl rfl tP (isO_cut i) tM (by rw [List.length_drop]; omega) (by show min _ _ = _; omega) (by rw [List.length_append, List.length_append, List.length_take, List.length_replicate, List.length_singleton]; omega) tO tO) (.inr (fun _ _ _ _ h => h.nil)) ?_
      rintro _ _ ⟨rfl, rfl⟩
      refine D.done tK ?_
      rw [ins_grow2 hi]
      refine K.seq <| K.region <| KO.q rfl (q_move rfl) <| KO.q rfl (q_assign rfl) <| KO.done ?_
      refine kr1 Tryz.func228 Tryz.results228 rfl (fun w hs => ?_)
      first
        | exact ⟨_, [RowO Kd.msg 56 px capx (l ++ [x])], rfl, ⟨px, capx, by rw [hil']; simp, by rw [hins], by rw [hins]; exact rowO_cap (e := 56) (k := Kd.msg) (p := px) (cap := capx) (xs := l ++ [x]) tM w hs⟩, hs.fitD⟩
        | exact ⟨_, [RowO Kd.msg 56 (some ⟨bn, 0, none⟩) capn (l.take i ++ [x] ++ l.drop i)], rfl, ⟨_, _, by rw [hil']; exact congrArg (fun n => Value.slice _ n _) tO, rfl, rowO_cap (e := 56) (k := Kd.msg) (xs := l.take i ++ [x] ++ l.drop i) tM w hs⟩, hs.fitD⟩
        | exact ⟨_, [RowO Kd.msg 56 q cap (l.take i ++ [x] ++ l.drop i)], rfl, ⟨q, cap, by rw [hil']; exact congrArg (fun n => Value.slice _ n _) tO, rfl, rowO_cap (e := 56) (k := Kd.msg) (xs := l.take i ++ [x] ++ l.drop i) tM w hs⟩, hs.fitD⟩
    · have hil : i < l.length := by omega
      refine K.skip <| K.seq <| K.region <| KO.q rfl (q_move rfl) <| KO.q rfl (q_move rfl) <| KO.q rfl (q_move rfl) <| KO.q rfl (q_add rfl rfl tN tN) <| KO.q rfl (q_cutH se_60 rfl rfl tN tN) <| KO.q rfl (q_assign rfl) <| KO.done <| K.seq <| K.seq ?_
      refine K.region <| KO.q rfl (q_move rfl) <| KO.q rfl (q_move rfl) <| KO.q rfl (q_move rfl) <| KO.q rfl (q_move rfl) <| KO.q rfl (q_add rfl rfl tN tN) <| KO.q rfl (q_cutL se_60 rfl rfl tN tN tN) <| KO.q rfl (q_apartC (j := i + 1) (k := Kd.msg) (xs := l) Tryz.func233 (by decide +kernel) rfl (by decide +kernel) (by rfl) se_60 rfl rfl tP tM (by intro hz; rw [hz] at hil; exact absurd hil (Nat.not_lt_zero _)) tO tD) <| KO.q rfl (q_not rfl) <| KO.done ?_
      refine K.bcond (s := 68) rfl (fun g68 => ?_) (fun g68 => ?_)
      · refine K.seq <| K.draw [] mixed <| D.q 0 rfl tK tK (q_move rfl) (fun _ h => h.nil) <| D.q 1 rfl tK tK (q_move rfl) (fun _ h => h.nil) <| D.q 2 rfl tK tK (q_move rfl) (fun _ h => h.nil) <| D.q 3 rfl tK tK (q_add rfl rfl tN tN) (fun _ h => h.nil) <| D.q 4 rfl tK tK (q_cutL se_60 rfl rfl tN tN tN) (fun _ h => h.nil) <| D.q 5 rfl tK tK (q_move rfl) (fun _ h => h.nil) <| D.q 6 rfl tK tK (q_move rfl) (fun _ h => h.nil) <| D.q 7 rfl tK tK (q_cutL se_60 rfl rfl tN tN tN) (fun _ h => h.nil) ?_
        refine dq1 8 rfl (l_copyS (i := i + 1) (s0 := i) (m := l.length - i) Kd.msg se_60 rfl rfl tP (by show min _ _ = _; omega) tO tO tO tO) (.inr (fun _ _ _ _ h => h.nil)) ?_
        rintro _ _ ⟨rfl, rfl⟩
        refine D.done tK ?_
        rw [ins_room1 hil]
        refine K.seq <| K.region <| KO.q rfl (q_move rfl) <| KO.q rfl (q_move rfl) <| KO.q rfl (q_cutL se_60 rfl rfl tN tN tN) <| KO.q rfl (q_move rfl) <| KO.loud rfl (l_copyA (i := i) (m := 1) Kd.msg se_60 rfl rfl tP isP tM rfl (Nat.min_eq_left tO) (by rw [List.length_append, List.length_take, List.length_drop]; omega) tO tO) ?_
        rintro _ _ ⟨rfl, rfl⟩
        refine KO.done ?_
        rw [ins_room2 hil]
        refine K.seq <| K.region <| KO.q rfl (q_move rfl) <| KO.q rfl (q_assign rfl) <| KO.done ?_
        refine kr1 Tryz.func228 Tryz.results228 rfl (fun w hs => ?_)
        first
          | exact ⟨_, [RowO Kd.msg 56 px capx (l ++ [x])], rfl, ⟨px, capx, by rw [hil']; simp, by rw [hins], by rw [hins]; exact rowO_cap (e := 56) (k := Kd.msg) (p := px) (cap := capx) (xs := l ++ [x]) tM w hs⟩, hs.fitD⟩
          | exact ⟨_, [RowO Kd.msg 56 (some ⟨bn, 0, none⟩) capn (l.take i ++ [x] ++ l.drop i)], rfl, ⟨_, _, by rw [hil']; exact congrArg (fun n => Value.slice _ n _) tO, rfl, rowO_cap (e := 56) (k := Kd.msg) (xs := l.take i ++ [x] ++ l.drop i) tM w hs⟩, hs.fitD⟩
          | exact ⟨_, [RowO Kd.msg 56 q cap (l.take i ++ [x] ++ l.drop i)], rfl, ⟨q, cap, by rw [hil']; exact congrArg (fun n => Value.slice _ n _) tO, rfl, rowO_cap (e := 56) (k := Kd.msg) (xs := l.take i ++ [x] ++ l.drop i) tM w hs⟩, hs.fitD⟩
      · exact absurd g68 tD
theorem clone_oz (A : HP) (q : Option Addr) (cap : Nat) (xs : List Oz) (hA : IsRow A Kd.oz q xs) (hb : xs.length ≤ 1000000000) : Fn Tryz.prog 92 [.slice q xs.length cap].toArray [A]
    (fun r post => ∃ q' cap', r = .slice q' xs.length cap' ∧ post = [RowO Kd.oz 62 q' cap' xs, A] ∧ xs.length ≤ cap') := by
  refine Fn.enter (N := 8) Tryz.func92 rfl Tryz.ntmps92 tK rfl (fun ρ L => ?_)
  refine K.seq <| K.region <| KO.q rfl (q_assign rfl) <| KO.done <| K.seq <| K.seq <| K.region <| KO.q rfl (q_move rfl) <| KO.q rfl (q_slnil Tryz.underlying45 rfl rfl) <| KO.done ?_
  refine K.ite rfl (fun h => ?_) (fun h => ?_)
  · rcases q with _ | a
    rotate_left
    · cases h
    refine K.fact (row_none hA (List.Mem.head _)) (fun e => ?_)
    subst e
    refine K.seq <| K.region <| KO.q rfl (q_assign rfl) <| KO.done ?_
    refine kr1 Tryz.func92 Tryz.results92 rfl (fun w hs => ?_)
    exact ⟨_, [RowO Kd.oz 62 none 0 [], A], rfl, ⟨none, 0, rfl, rfl, Nat.le_refl _⟩, (rowO_nil (k := Kd.oz) 62 hs).fitD⟩
  · refine K.skip <| K.seq <| K.region <| KO.loud rfl (l_slice0 Kd.oz se_45) ?_
    rintro _ _ ⟨q0, rfl, rfl⟩
    refine KO.q rfl (q_move rfl) <| KO.loud rfl (l_append Kd.oz (xs := []) (ys := xs) se_45 Tryz.underlying45 ⟨_, ze_oz, rfl⟩ tD rfl rfl tP hA tM rfl rfl (by show (2 * (0 + xs.length) + 768) * _ ≤ _; omega)) ?_
    rintro _ _ ⟨q', cap', rfl, rfl⟩
    refine KO.q rfl (q_assign rfl) <| KO.done ?_
    refine kr1 Tryz.func92 Tryz.results92 rfl (fun w hs => ?_)
    exact ⟨_, [RowO Kd.oz 62 q' cap' xs, A], rfl, ⟨q', cap', rfl, rfl, rowO_cap (List.Mem.head _) w hs⟩, hs.fitD⟩
set_option maxHeartbeats 1600000 in
theorem ins_oz (q : Option Addr) (cap : Nat) (l : List Oz) (i : Nat) (bv ev : Nat) (x : Oz) (hi : i ≤ l.length) (hc : l.length ≤ cap) (hb : l.length ≤ 1000000000) : Fn Tryz.prog 187 [.slice q l.length cap, .int .i64 i, .slice (some ⟨bv, 0, none⟩) 1 1].toArray [RowO Kd.oz 62 q cap l, pv bv ev x.cells]
    (fun r post => ∃ q' cap', r = .slice q' (insAt l i x).length cap' ∧ post = [RowO Kd.oz 62 q' cap' (insAt l i x)] ∧ (insAt l i x).length ≤ cap') := by
  have hil' : (insAt l i x).length = l.length + 1 := by
    unfold insAt
    rw [List.length_append, List.length_append, List.length_take, List.length_drop, List.length_singleton]; omega
  refine Fn.enter (N := 95) Tryz.func187 rfl Tryz.ntmps187 tK rfl (fun ρ L => ?_)
  refine K.seq <| K.region <| KO.q rfl (q_assign rfl) <| KO.done <| K.seq <| K.region <| KO.q rfl (q_move rfl) <| KO.q rfl (q_move rfl) <| KO.q rfl (q_cutL se_45 rfl rfl tN tN tN) <| KO.done ?_
  refine K.seq <| K.region <| KO.q rfl (q_move rfl) <| KO.q rfl (q_len Tryz.underlying45 rfl) <| KO.q rfl (q_assign rfl) <| KO.done <| K.seq <| K.seq <| K.region <| KO.q rfl (q_move rfl) <| KO.q rfl (q_eqF rfl rfl tD) ?_
  refine KO.done <| K.no rfl <| K.skip <| K.seq <| K.region <| KO.q rfl (q_move rfl) <| KO.q rfl (q_len Tryz.underlying45 rfl) <| KO.q rfl (q_assign rfl) <| KO.done <| K.seq <| K.seq <| K.region ?_
  refine KO.q rfl (q_move rfl) <| KO.q rfl (q_move rfl) <| KO.q rfl (q_eq rfl rfl) <| KO.done ?_
  refine K.dcond (s := 22) rfl (fun g22 => ?_) (fun g22 => ?_)
  · have hil : i = l.length := by omega
    have hins : insAt l i x = l ++ [x] := by unfold insAt; subst hil; simp
    refine K.seq <| K.region <| KO.q rfl (q_move rfl) <| KO.q rfl (q_move rfl) <| KO.loud rfl (l_append Kd.oz se_45 Tryz.underlying45 ⟨_, ze_oz, rfl⟩ tD rfl rfl tP isP tM rfl rfl (by show (2 * (l.length + 1) + 768) * _ ≤ _; omega)) ?_
    rintro _ _ ⟨px, capx, rfl, rfl⟩
    refine KO.q rfl (q_assign rfl) <| KO.done ?_
    refine kr1 Tryz.func187 Tryz.results187 rfl (fun w hs => ?_)
    first
      | exact ⟨_, [RowO Kd.oz 62 px capx (l ++ [x])], rfl, ⟨px, capx, by rw [hil']; simp, by rw [hins], by rw [hins]; exact rowO_cap (e := 62) (k := Kd.oz) (p := px) (cap := capx) (xs := l ++ [x]) tM w hs⟩, hs.fitD⟩
      | exact ⟨_, [RowO Kd.oz 62 (some ⟨bn, 0, none⟩) capn (l.take i ++ [x] ++ l.drop i)], rfl, ⟨_, _, by rw [hil']; exact congrArg (fun n => Value.slice _ n _) tO, rfl, rowO_cap (e := 62) (k := Kd.oz) (xs := l.take i ++ [x] ++ l.drop i) tM w hs⟩, hs.fitD⟩
      | exact ⟨_, [RowO Kd.oz 62 q cap (l.take i ++ [x] ++ l.drop i)], rfl, ⟨q, cap, by rw [hil']; exact congrArg (fun n => Value.slice _ n _) tO, rfl, rowO_cap (e := 62) (k := Kd.oz) (xs := l.take i ++ [x] ++ l.drop i) tM w hs⟩, hs.fitD⟩
  · refine K.skip <| K.seq <| K.seq <| K.region <| KO.q rfl (q_move rfl) <| KO.q rfl (q_move rfl) <| KO.q rfl (q_add rfl rfl tN tN) <| KO.q rfl (q_move rfl) <| KO.q rfl (q_cap Tryz.underlying45 rfl) <| KO.q rfl (q_gt rfl rfl) <| KO.done ?_
    refine K.dcond (s := 31) rfl (fun g31 => ?_) (fun g31 => ?_)
    · have hil : i < l.length := by omega
      refine K.seq <| K.region <| KO.q rfl (q_move rfl) <| KO.q rfl (q_move rfl) <| KO.q rfl (q_cutH se_45 rfl rfl tN tN) <| KO.q rfl (q_move rfl) <| KO.q rfl (q_move rfl) <| KO.q rfl (q_add rfl rfl tN tN) <| KO.q rfl (q_move rfl) <| KO.q rfl (q_sub rfl rfl tN tN) ?_
      refine KO.loud rfl (l_growPre (i := i) (n := l.length + 1 - i) Kd.oz ⟨Ob.zero,⟨none,0,none,0,none,0⟩⟩ se_45 Tryz.underlying3 ze_oz rfl (fun _ => rfl) rfl (congrArg (fun z => some (Value.int .i64 z)) (show (l.length : Int) + ((1 : Nat) : Int) - i = ((l.length + 1 - i : Nat) : Int) by omega)) tP hi tO tO tD tD tO) ?_
      rintro _ _ ⟨bn, capn, rfl, rfl⟩
      refine KO.fact (fun w h => rowO_cap List.mem_cons_self w h) (fun hcn => ?_)
      rw [List.length_append, List.length_take, List.length_replicate] at hcn
      refine KO.q rfl (q_assign rfl) <| KO.done <| K.seq <| K.region <| KO.q rfl (q_move rfl) <| KO.q rfl (q_move rfl) <| KO.q rfl (q_cutL se_45 rfl rfl tN tN tN) <| KO.q rfl (q_move rfl) <| KO.loud rfl (l_copyA (i := i) (m := 1) Kd.oz se_45 rfl rfl tP isP tM rfl (Nat.min_eq_left tO) (by rw [List.length_append, List.length_take, List.length_replicate]; omega) tO tO) ?_
      rintro _ _ ⟨rfl, rfl⟩
      refine KO.done ?_
      rw [ins_grow1 hi]
      refine K.seq <| K.draw [] mixed <| D.q 0 rfl tK tK (q_move rfl) (fun _ h => h.nil) <| D.q 1 rfl tK tK (q_move rfl) (fun _ h => h.nil) <| D.q 2 rfl tK tK (q_move rfl) (fun _ h => h.nil) <| D.q 3 rfl tK tK (q_add rfl rfl tN tN) (fun _ h => h.nil) <| D.q 4 rfl tK tK (q_cutL se_45 rfl rfl tN tN tN) (fun _ h => h.nil) <| D.q 5 rfl tK tK (q_move rfl) (fun _ h => h.nil) <| D.q 6 rfl tK tK (q_move rfl) (fun _ h => h.nil) <| D.q 7 rfl tK tK (q_cutL se_45 rfl rfl tN tN tN) (fun _ h => h.nil) ?_
      refine dq1 8 rfl (l_copyA (i := i + 1) (m := l.length - i) Kd.oz se_45 rfl rfl tP (isO_cut i) tM (by rw [List.length_drop]; omega) (by show min _ _ = _; omega) (by rw [List.length_append, List.length_append, List.length_take, List.length_replicate, List.length_singleton]; omega) tO tO) (.inr (fun _ _ _ _ h => h.nil)) ?_
      rintro _ _ ⟨rfl, rfl⟩
      refine D.done tK ?_
      rw [ins_grow2 hi]
      refine K.seq <| K.region <| KO.q rfl (q_move rfl) <| KO.q rfl (q_assign rfl) <| KO.done ?_
      refine kr1 Tryz.func187 Tryz.results187 rfl (fun w hs => ?_)
      first
        | exact ⟨_, [RowO Kd.oz 62 px capx (l ++ [x])], rfl, ⟨px, capx, by rw [hil']; simp, by rw [hins], by rw [hins]; exact rowO_cap (e := 62) (k := Kd.oz) (p := px) (cap := capx) (xs := l ++ [x]) tM w hs⟩, hs.fitD⟩
        | exact ⟨_, [RowO Kd.oz 62 (some ⟨bn, 0, none⟩) capn (l.take i ++ [x] ++ l.drop i)], rfl, ⟨_, _, by rw [hil']; exact congrArg (fun n => Value.slice _ n _) tO, rfl, rowO_cap (e := 62) (k := Kd.oz) (xs := l.take i ++ [x] ++ l.drop i) tM w hs⟩, hs.fitD⟩
        | exact ⟨_, [RowO Kd.oz 62 q cap (l.take i ++ [x] ++ l.drop i)], rfl, ⟨q, cap, by rw [hil']; exact congrArg (fun n => Value.slice _ n _) tO, rfl, rowO_cap (e := 62) (k := Kd.oz) (xs := l.take i ++ [x] ++ l.drop i) tM w hs⟩, hs.fitD⟩
    · have hil : i < l.length := by omega
      refine K.skip <| K.seq <| K.region <| KO.q rfl (q_move rfl) <| KO.q rfl (q_move rfl) <| KO.q rfl (q_move rfl) <| KO.q rfl (q_add rfl rfl tN tN) <| KO.q rfl (q_cutH se_45 rfl rfl tN tN) <| KO.q rfl (q_assign rfl) <| KO.done <| K.seq <| K.seq ?_
      refine K.region <| KO.q rfl (q_move rfl) <| KO.q rfl (q_move rfl) <| KO.q rfl (q_move rfl) <| KO.q rfl (q_move rfl) <| KO.q rfl (q_add rfl rfl tN tN) <| KO.q rfl (q_cutL se_45 rfl rfl tN tN tN) <| KO.q rfl (q_apartC (j := i + 1) (k := Kd.oz) (xs := l) Tryz.func208 (by decide +kernel) rfl (by decide +kernel) (by rfl) se_45 rfl rfl tP tM (by intro hz; rw [hz] at hil; exact absurd hil (Nat.not_lt_zero _)) tO tD) <| KO.q rfl (q_not rfl) <| KO.done ?_
      refine K.bcond (s := 68) rfl (fun g68 => ?_) (fun g68 => ?_)
      · refine K.seq <| K.draw [] mixed <| D.q 0 rfl tK tK (q_move rfl) (fun _ h => h.nil) <| D.q 1 rfl tK tK (q_move rfl) (fun _ h => h.nil) <| D.q 2 rfl tK tK (q_move rfl) (fun _ h => h.nil) <| D.q 3 rfl tK tK (q_add rfl rfl tN tN) (fun _ h => h.nil) <| D.q 4 rfl tK tK (q_cutL se_45 rfl rfl tN tN tN) (fun _ h => h.nil) <| D.q 5 rfl tK tK (q_move rfl) (fun _ h => h.nil) <| D.q 6 rfl tK tK (q_move rfl) (fun _ h => h.nil) <| D.q 7 rfl tK tK (q_cutL se_45 rfl rfl tN tN tN) (fun _ h => h.nil) ?_
        refine dq1 8 rfl (l_copyS (i := i + 1) (s0 := i) (m := l.length - i) Kd.oz se_45 rfl rfl tP (by show min _ _ = _; omega) tO tO tO tO) (.inr (fun _ _ _ _ h => h.nil)) ?_
        rintro _ _ ⟨rfl, rfl⟩
        refine D.done tK ?_
        rw [ins_room1 hil]
        refine K.seq <| K.region <| KO.q rfl (q_move rfl) <| KO.q rfl (q_move rfl) <| KO.q rfl (q_cutL se_45 rfl rfl tN tN tN) <| KO.q rfl (q_move rfl) <| KO.loud rfl (l_copyA (i := i) (m := 1) Kd.oz se_45 rfl rfl tP isP tM rfl (Nat.min_eq_left tO) (by rw [List.length_append, List.length_take, List.length_drop]; omega) tO tO) ?_
        rintro _ _ ⟨rfl, rfl⟩
        refine KO.done ?_
        rw [ins_room2 hil]
        refine K.seq <| K.region <| KO.q rfl (q_move rfl) <| KO.q rfl (q_assign rfl) <| KO.done ?_
        refine kr1 Tryz.func187 Tryz.results187 rfl (fun w hs => ?_)
        first
          | exact ⟨_, [RowO Kd.oz 62 px capx (l ++ [x])], rfl, ⟨px, capx, by rw [hil']; simp, by rw [hins], by rw [hins]; exact rowO_cap (e := 62) (k := Kd.oz) (p := px) (cap := capx) (xs := l ++ [x]) tM w hs⟩, hs.fitD⟩
          | exact ⟨_, [RowO Kd.oz 62 (some ⟨bn, 0, none⟩) capn (l.take i ++ [x] ++ l.drop i)], rfl, ⟨_, _, by rw [hil']; exact congrArg (fun n => Value.slice _ n _) tO, rfl, rowO_cap (e := 62) (k := Kd.oz) (xs := l.take i ++ [x] ++ l.drop i) tM w hs⟩, hs.fitD⟩
          | exact ⟨_, [RowO Kd.oz 62 q cap (l.take i ++ [x] ++ l.drop i)], rfl, ⟨q, cap, by rw [hil']; exact congrArg (fun n => Value.slice _ n _) tO, rfl, rowO_cap (e := 62) (k := Kd.oz) (xs := l.take i ++ [x] ++ l.drop i) tM w hs⟩, hs.fitD⟩
      · exact absurd g68 tD
set_option maxHeartbeats 800000 in
theorem del_rw (q : Option Addr) (cap : Nat) (l : List Rw) (i : Nat) (hi : i < l.length) (hc : l.length ≤ cap) (hb : l.length ≤ 1000000000000) : Fn Tryz.prog 223 [.slice q l.length cap, .int .i64 i, .int .i64 ((i : Int) + 1)].toArray [RowO Kd.rw 136 q cap l]
    (fun r post => r = .slice q (l.eraseIdx i).length cap ∧ post = [RowO Kd.rw 136 q cap (l.eraseIdx i)]) := by
  have her : l.eraseIdx i = l.take i ++ l.drop (i + 1) := List.eraseIdx_eq_take_drop_succ l i
  have hel : (l.take i ++ l.drop (i + 1)).length = l.length - 1 := by rw [List.length_append, List.length_take, List.length_drop]; omega
  refine Fn.enter (N := 33) Tryz.func223 rfl Tryz.ntmps223 tK rfl (fun ρ L => ?_)
  refine K.seq <| K.region <| KO.q rfl (q_assign rfl) <| KO.done <| K.seq <| K.region <| KO.q rfl (q_move rfl) <| KO.q rfl (q_move rfl) <| KO.q rfl (q_move rfl) <| KO.q rfl (q_move rfl) ?_
  refine KO.q rfl (q_len Tryz.underlying59 rfl) <| KO.q rfl (q_cut3 se_59 rfl rfl rfl rfl tO tO tO tO) <| KO.done <| K.seq <| K.seq <| K.region <| KO.q rfl (q_move rfl) <| KO.q rfl (q_move rfl) <| KO.q rfl (q_eq rfl rfl) <| KO.done ?_
  refine K.dcond (s := 16) rfl (fun g16 => ?_) (fun g16 => ?_)
  · exact absurd g16 tO
  · refine K.skip <| K.seq <| K.region <| KO.q rfl (q_move rfl) <| KO.q rfl (q_len Tryz.underlying59 rfl) <| KO.q rfl (q_assign rfl) <| KO.done <| K.seq <| K.draw [] mixed <| D.q 0 rfl tK tK (q_move rfl) (fun _ h => h.nil) <| D.q 1 rfl tK tK (q_move rfl) (fun _ h => h.nil) ?_
    refine D.q 2 rfl tK tK (q_cutH se_59 rfl rfl tN tN) (fun _ h => h.nil) <| D.q 3 rfl tK tK (q_move rfl) (fun _ h => h.nil) <| D.q 4 rfl tK tK (q_move rfl) (fun _ h => h.nil) <| D.q 5 rfl tK tK (q_cutL se_59 rfl rfl tN tN tN) (fun _ h => h.nil) <| dq1 6 rfl (l_appendIn (i := i) (s0 := i + 1) (m := l.length - (i + 1)) Kd.rw se_59 Tryz.underlying59 rfl rfl tP tO tO tO tO) (.inr (fun _ _ _ _ h => h.nil)) ?_
    rintro _ _ ⟨rfl, rfl⟩
    refine D.q 7 rfl tK tK (q_assign rfl) (fun _ h => h.nil) <| D.done tK ?_
    rw [show i + (l.length - (i + 1)) = l.length - 1 by omega, List.take_of_length_le (l := l.drop (i + 1)) (by rw [List.length_drop]; omega)]
    refine K.seq <| K.region <| KO.q rfl (q_move rfl) <| KO.q rfl (q_move rfl) <| KO.q rfl (q_len Tryz.underlying59 rfl) <| KO.q rfl (q_move rfl) <| KO.q rfl (q_cutB se_59 rfl rfl rfl tN tN tN) <| KO.loudN rfl (l_clearS (i := l.length - 1) Kd.rw se_59 ze_rw rfl (by simp [Value.oneCell', Rw.cells]) tD rfl tP (by rw [List.length_append, List.length_take, List.length_drop]; omega) tO (by simp only [Int.toNat_natCast]; omega)) ?_
    rintro _ _ ⟨rfl, rfl⟩
    refine KO.done <| K.seq <| K.region <| KO.q rfl (q_move rfl) <| KO.q rfl (q_assign rfl) <| KO.done ?_
    refine kr1 Tryz.func223 Tryz.results223 rfl (fun w hs => ?_)
    rw [her, hel]
    exact ⟨_, [RowO Kd.rw 136 q cap (l.take i ++ l.drop (i + 1))], rfl, ⟨rfl, rfl⟩, hs.fitD⟩
set_option maxHeartbeats 800000 in
theorem del_msg (q : Option Addr) (cap : Nat) (l : List Msg) (i : Nat) (hi : i < l.length) (hc : l.length ≤ cap) (hb : l.length ≤ 1000000000000) : Fn Tryz.prog 214 [.slice q l.length cap, .int .i64 i, .int .i64 ((i : Int) + 1)].toArray [RowO Kd.msg 56 q cap l]
    (fun r post => r = .slice q (l.eraseIdx i).length cap ∧ post = [RowO Kd.msg 56 q cap (l.eraseIdx i)]) := by
  have her : l.eraseIdx i = l.take i ++ l.drop (i + 1) := List.eraseIdx_eq_take_drop_succ l i
  have hel : (l.take i ++ l.drop (i + 1)).length = l.length - 1 := by rw [List.length_append, List.length_take, List.length_drop]; omega
  refine Fn.enter (N := 33) Tryz.func214 rfl Tryz.ntmps214 tK rfl (fun ρ L => ?_)
  refine K.seq <| K.region <| KO.q rfl (q_assign rfl) <| KO.done <| K.seq <| K.region <| KO.q rfl (q_move rfl) <| KO.q rfl (q_move rfl) <| KO.q rfl (q_move rfl) <| KO.q rfl (q_move rfl) ?_
  refine KO.q rfl (q_len Tryz.underlying60 rfl) <| KO.q rfl (q_cut3 se_60 rfl rfl rfl rfl tO tO tO tO) <| KO.done <| K.seq <| K.seq <| K.region <| KO.q rfl (q_move rfl) <| KO.q rfl (q_move rfl) <| KO.q rfl (q_eq rfl rfl) <| KO.done ?_
  refine K.dcond (s := 16) rfl (fun g16 => ?_) (fun g16 => ?_)
  · exact absurd g16 tO
  · refine K.skip <| K.seq <| K.region <| KO.q rfl (q_move rfl) <| KO.q rfl (q_len Tryz.underlying60 rfl) <| KO.q rfl (q_assign rfl) <| KO.done <| K.seq <| K.draw [] mixed <| D.q 0 rfl tK tK (q_move rfl) (fun _ h => h.nil) <| D.q 1 rfl tK tK (q_move rfl) (fun _ h => h.nil) ?_
    refine D.q 2 rfl tK tK (q_cutH se_60 rfl rfl tN tN) (fun _ h => h.nil) <| D.q 3 rfl tK tK (q_move rfl) (fun _ h => h.nil) <| D.q 4 rfl tK tK (q_move rfl) (fun _ h => h.nil) <| D.q 5 rfl tK tK (q_cutL se_60 rfl rfl tN tN tN) (fun _ h => h.nil) <| dq1 6 rfl (l_appendIn (i := i) (s0 := i + 1) (m := l.length - (i + 1)) Kd.msg se_60 Tryz.underlying60 rfl rfl tP tO tO tO tO) (.inr (fun _ _ _ _ h => h.nil)) ?_
    rintro _ _ ⟨rfl, rfl⟩
    refine D.q 7 rfl tK tK (q_assign rfl) (fun _ h => h.nil) <| D.done tK ?_
    rw [show i + (l.length - (i + 1)) = l.length - 1 by omega, List.take_of_length_le (l := l.drop (i + 1)) (by rw [List.length_drop]; omega)]
    refine K.seq <| K.region <| KO.q rfl (q_move rfl) <| KO.q rfl (q_move rfl) <| KO.q rfl (q_len Tryz.underlying60 rfl) <| KO.q rfl (q_move rfl) <| KO.q rfl (q_cutB se_60 rfl rfl rfl tN tN tN) <| KO.loudN rfl (l_clearS (i := l.length - 1) Kd.msg se_60 ze_msg rfl (by simp [Value.oneCell', Msg.cells]) tD rfl tP (by rw [List.length_append, List.length_take, List.length_drop]; omega) tO (by simp only [Int.toNat_natCast]; omega)) ?_
    rintro _ _ ⟨rfl, rfl⟩
    refine KO.done <| K.seq <| K.region <| KO.q rfl (q_move rfl) <| KO.q rfl (q_assign rfl) <| KO.done ?_
    refine kr1 Tryz.func214 Tryz.results214 rfl (fun w hs => ?_)
    rw [her, hel]
    exact ⟨_, [RowO Kd.msg 56 q cap (l.take i ++ l.drop (i + 1))], rfl, ⟨rfl, rfl⟩, hs.fitD⟩
theorem ixg_msg (A R N : HP) [Pers N] (q : Option Addr) (cap : Nat) (l : List Msg) (hA : IsRow A Kd.msg q l) (f : FuncId) (cs : List Value) (p : Msg → Bool) (hl : (l.length : Int) ≤ 9223372036854775807) (hf : ∀ x ∈ l, Fn Tryz.prog f (Value.agg x.cells.toArray :: cs).toArray [R, N] (fun v post => v = .bool (p x) ∧ post = [R])) :
    Fn Tryz.prog 206 [.slice q l.length cap, .func (.func f) #[] cs.toArray].toArray [A, R, N] (fun r post => r = .int .i64 (idxP p l) ∧ post = [A, R]) := by
  refine Fn.enter (N := 19) Tryz.func206 rfl Tryz.ntmps206 tK rfl (fun ρ L => ?_)
  refine K.seq <| K.region <| KO.q rfl (q_assign rfl) <| KO.done <| K.seq <| K.seq <| K.region <| KO.q rfl (q_move rfl) <| KO.q rfl (q_len Tryz.underlying60 rfl) <| KO.q rfl (q_move rfl) <| KO.done ?_
  refine K.block ?_
  refine K.rloop (ι := { i : Nat // i ≤ l.length ∧ (l.take i).any p = false }) (fun x => [(8, .int .i64 x.1), (7, .int .i64 l.length), (0, .slice q l.length cap), (1, .func (.func f) #[] cs.toArray)]) (fun x => l.length - x.1) ⟨0, Nat.zero_le _, rfl⟩ tS (fun x ih => ?_)
  obtain ⟨i, hi, hz⟩ := x
  dsimp only at hi hz ⊢
  refine K.seq <| K.region <| KO.q rfl (q_lt rfl rfl) <| KO.done <| K.seq ?_
  refine K.dcond (s := 9) rfl (fun g9 => ?_) (fun g9 => ?_)
  · obtain ⟨e, he⟩ : ∃ e, l[i]? = some e := ⟨_, List.getElem?_eq_getElem tO⟩
    refine K.skip <| K.seq <| K.block <| K.seq <| K.region <| KO.q rfl (q_move rfl) <| KO.q rfl (q_assign rfl) <| KO.done <| K.seq <| K.region <| KO.q rfl (q_move rfl) <| KO.q rfl (q_move rfl) <| KO.q rfl (q_move rfl) ?_
    refine KO.q rfl (q_ix i se_60 rfl rfl rfl hA tM rfl tO) <| KO.q rfl (q_ldEN ck_56 rfl hA tM he) ?_
    refine KO.loud rfl (OpL.callCG (first := []) (captured := cs) rfl rfl tG (hf e (List.mem_of_getElem? he))) ?_
    rintro _ _ ⟨_, ⟨rfl, rfl⟩, rfl⟩
    refine KO.done ?_
    refine K.bcond (s := 16) rfl (fun g16 => ?_) (fun g16 => ?_)
    · refine K.seq ?_
      have hr : idxP p l = i := idxP_some he g16 hz
      refine K.region <| KO.q rfl (q_move rfl) <| KO.q rfl (q_assign rfl) <| KO.done ?_
      refine kr1 Tryz.func206 Tryz.results206 rfl (fun w hs => ?_)
      rw [hr]
      exact ⟨_, [A, R], rfl, ⟨rfl, rfl⟩, hs.fitD⟩
    · refine K.skip <| K.inBlock <| K.region <| KO.q rfl (q_add rfl rfl tN tN) <| KO.q rfl (q_move rfl) <| KO.done ?_
      exact K.weak tS (fun w h => h.fitD) (ih ⟨i + 1, by omega, by rw [any_take_succ he, hz, g16]; rfl⟩ (by show l.length - (i + 1) < l.length - i; omega))
  · refine K.exit rfl <| K.seq ?_
    have hr : idxP p l = -1 := idxP_none (by rw [List.take_of_length_le tO] at hz; exact hz)
    refine K.region <| KO.q rfl (q_assign rfl) <| KO.done ?_
    refine kr1 Tryz.func206 Tryz.results206 rfl (fun w hs => ?_)
    rw [hr]
    exact ⟨_, [A, R], rfl, ⟨rfl, rfl⟩, hs.fitD⟩
theorem ixg_oz (A R N : HP) [Pers N] (q : Option Addr) (cap : Nat) (l : List Oz) (hA : IsRow A Kd.oz q l) (f : FuncId) (cs : List Value) (p : Oz → Bool) (hl : (l.length : Int) ≤ 9223372036854775807) (hf : ∀ x ∈ l, Fn Tryz.prog f (Value.agg x.cells.toArray :: cs).toArray [R, N] (fun v post => v = .bool (p x) ∧ post = [R])) :
    Fn Tryz.prog 185 [.slice q l.length cap, .func (.func f) #[] cs.toArray].toArray [A, R, N] (fun r post => r = .int .i64 (idxP p l) ∧ post = [A, R]) := by
  refine Fn.enter (N := 19) Tryz.func185 rfl Tryz.ntmps185 tK rfl (fun ρ L => ?_)
  refine K.seq <| K.region <| KO.q rfl (q_assign rfl) <| KO.done <| K.seq <| K.seq <| K.region <| KO.q rfl (q_move rfl) <| KO.q rfl (q_len Tryz.underlying45 rfl) <| KO.q rfl (q_move rfl) <| KO.done ?_
  refine K.block ?_
  refine K.rloop (ι := { i : Nat // i ≤ l.length ∧ (l.take i).any p = false }) (fun x => [(8, .int .i64 x.1), (7, .int .i64 l.length), (0, .slice q l.length cap), (1, .func (.func f) #[] cs.toArray)]) (fun x => l.length - x.1) ⟨0, Nat.zero_le _, rfl⟩ tS (fun x ih => ?_)
  obtain ⟨i, hi, hz⟩ := x
  dsimp only at hi hz ⊢
  refine K.seq <| K.region <| KO.q rfl (q_lt rfl rfl) <| KO.done <| K.seq ?_
  refine K.dcond (s := 9) rfl (fun g9 => ?_) (fun g9 => ?_)
  · obtain ⟨e, he⟩ : ∃ e, l[i]? = some e := ⟨_, List.getElem?_eq_getElem tO⟩
    refine K.skip <| K.seq <| K.block <| K.seq <| K.region <| KO.q rfl (q_move rfl) <| KO.q rfl (q_assign rfl) <| KO.done <| K.seq <| K.region <| KO.q rfl (q_move rfl) <| KO.q rfl (q_move rfl) <| KO.q rfl (q_move rfl) ?_
    refine KO.q rfl (q_ix i se_45 rfl rfl rfl hA tM rfl tO) <| KO.q rfl (q_ldEN ck_62 rfl hA tM he) ?_
    refine KO.loud rfl (OpL.callCG (first := []) (captured := cs) rfl rfl tG (hf e (List.mem_of_getElem? he))) ?_
    rintro _ _ ⟨_, ⟨rfl, rfl⟩, rfl⟩
    refine KO.done ?_
    refine K.bcond (s := 16) rfl (fun g16 => ?_) (fun g16 => ?_)
    · refine K.seq ?_
      have hr : idxP p l = i := idxP_some he g16 hz
      refine K.region <| KO.q rfl (q_move rfl) <| KO.q rfl (q_assign rfl) <| KO.done ?_
      refine kr1 Tryz.func185 Tryz.results185 rfl (fun w hs => ?_)
      rw [hr]
      exact ⟨_, [A, R], rfl, ⟨rfl, rfl⟩, hs.fitD⟩
    · refine K.skip <| K.inBlock <| K.region <| KO.q rfl (q_add rfl rfl tN tN) <| KO.q rfl (q_move rfl) <| KO.done ?_
      exact K.weak tS (fun w h => h.fitD) (ih ⟨i + 1, by omega, by rw [any_take_succ he, hz, g16]; rfl⟩ (by show l.length - (i + 1) < l.length - i; omega))
  · refine K.exit rfl <| K.seq ?_
    have hr : idxP p l = -1 := idxP_none (by rw [List.take_of_length_le tO] at hz; exact hz)
    refine K.region <| KO.q rfl (q_assign rfl) <| KO.done ?_
    refine kr1 Tryz.func185 Tryz.results185 rfl (fun w hs => ?_)
    rw [hr]
    exact ⟨_, [A, R], rfl, ⟨rfl, rfl⟩, hs.fitD⟩
theorem cog_oz (A R N : HP) [Pers N] (q : Option Addr) (cap : Nat) (l : List Oz) (hA : IsRow A Kd.oz q l) (f : FuncId) (cs : List Value) (p : Oz → Bool) (hl : (l.length : Int) ≤ 9223372036854775807) (hf : ∀ x ∈ l, Fn Tryz.prog f (Value.agg x.cells.toArray :: cs).toArray [R, N] (fun v post => v = .bool (p x) ∧ post = [R])) :
    Fn Tryz.prog 224 [.slice q l.length cap, .func (.func f) #[] cs.toArray].toArray [A, R, N] (fun r post => r = .bool (l.any p) ∧ post = [A, R]) := by
  refine Fn.enter (N := 9) Tryz.func224 rfl Tryz.ntmps224 tK rfl (fun ρ L => ?_)
  refine K.seq <| K.region <| KO.q rfl (q_assign rfl) <| KO.done <| K.seq <| K.region <| KO.q rfl (q_move rfl) <| KO.q rfl (q_move rfl) <| KO.loud rfl (OpL.callD rfl (h := ixg_oz A R N q cap l hA f cs p hl hf)) ?_
  rintro _ _ ⟨_, ⟨rfl, rfl⟩, rfl⟩
  refine KO.q rfl (q_ge rfl rfl) <| KO.q rfl (q_assign rfl) <| KO.done ?_
  refine kr1 Tryz.func224 Tryz.results224 rfl (fun w hs => ?_)
  exact ⟨_, [A, R], rfl, ⟨by rw [← idxP_any], rfl⟩, hs.fitD⟩
end Go.Proofs.YtkbhldicnamcdaaGreat.L
namespace Go.Proofs.YtkbhldicnamcdaaGreat.L
open Go Go.Proofs
attribute [local irreducible] pv fv pt fz RowF RowO rowP old pure_ elA Rd.int Rd.text Rd.flag Rd.msg Rd.rint Rd.rtext Rd.rflag Rd.rmsg
set_option maxRecDepth 100000
set_option linter.unusedSimpArgs false
set_option linter.unusedVariables false
theorem idxP_nat {α : Type} {p : α → Bool} {l : List α} (h : ¬ idxP p l < 0) : ∃ (i : Nat) (x : α), l[i]? = some x ∧ idxP p l = (i : Int) ∧ p x = true := by
  unfold idxP at h ⊢
  cases hf : l.findIdx? p with
  | none => rw [hf] at h; exact absurd tD h
  | some i =>
    rw [List.findIdx?_eq_some_iff_getElem] at hf
    obtain ⟨hi, h1, _⟩ := hf
    exact ⟨i, l[i], List.getElem?_eq_getElem hi, rfl, h1⟩
theorem gd_at {α : Type} {l : List α} {i : Nat} {x d : α} (h : l[i]? = some x) : l.getD i d = x := by rw [List.getD_eq_getElem?_getD, h]; rfl
theorem qf1 (b : Nat) (id : Int) (x : Msg) : Fn Tryz.prog 215 [.agg x.cells.toArray, .pointer (some ⟨b, 0, none⟩)].toArray [pv b 3 [.int .i64 id], NestF []] (fun v post => v = .bool (decide (x.id = id)) ∧ post = [pv b 3 [.int .i64 id]]) := by
  refine Fn.enter (N := 8) Tryz.func215 rfl Tryz.ntmps215 tK rfl (fun ρ L => ?_)
  refine K.seq <| K.region <| KO.loud rfl (l_box rfl rfl) ?_
  rintro _ _ ⟨b2, rfl, rfl⟩
  refine KO.q rfl (q_assign rfl) <| KO.done <| K.seq <| K.region <| KO.q rfl (q_field fo_56_0 rfl) <| KO.q rfl (q_load1D ck_3 rfl) <| KO.q rfl (q_load1D ck_3 rfl) <| KO.q rfl (q_eq rfl rfl) <| KO.q rfl (q_assign rfl) <| KO.done ?_
  refine kr1 Tryz.func215 Tryz.results215 rfl (fun w hs => ?_)
  exact ⟨_, [pv b 3 [.int .i64 id]], rfl, ⟨rfl, rfl⟩, hs.fitD⟩
theorem qu_Find (A : HP) (q : Option Addr) (cap : Nat) (l : List Msg) (id : Int) (hA : IsRow A Kd.msg q l) (hl : l.length ≤ 1000000000) : Fn Tryz.prog 194 [.slice q l.length cap, .int .i64 id].toArray [A] (fun r post => r = .int .i64 (findM l id) ∧ post = [A]) := by
  refine Fn.enter (N := 8) Tryz.func194 rfl Tryz.ntmps194 tK rfl (fun ρ L => ?_)
  refine K.seq <| K.region <| KO.loud rfl (l_box rfl rfl) ?_
  rintro _ _ ⟨b3, rfl, rfl⟩
  refine KO.q rfl (q_assign rfl) <| KO.done <| K.seq <| K.region <| KO.q rfl (q_move rfl) <| KO.q rfl (q_func rfl rfl) <| KO.st (fun w h => nestF_nil h) <| KO.loud rfl (OpL.callD rfl (h := ixg_msg A (pv b3 3 [.int .i64 id]) (NestF []) q cap l hA 215 [.pointer (some ⟨b3, 0, none⟩)] (fun x => decide (x.id = id)) tO (fun x _ => qf1 b3 id x))) ?_
  rintro _ _ ⟨_, ⟨rfl, rfl⟩, rfl⟩
  refine KO.q rfl (q_assign rfl) <| KO.done ?_
  refine kr1 Tryz.func194 Tryz.results194 rfl (fun w hs => ?_)
  exact ⟨_, [A], rfl, ⟨rfl, rfl⟩, hs.fitD⟩
theorem qa1 (b : Nat) (m x : Msg) : Fn Tryz.prog 227 [.agg x.cells.toArray, .pointer (some ⟨b, 0, none⟩)].toArray [pv b 56 m.cells, NestF []] (fun v post => v = .bool (decide (0 < cmpM x m)) ∧ post = [pv b 56 m.cells]) := by
  refine Fn.enter (N := 8) Tryz.func227 rfl Tryz.ntmps227 tK rfl (fun ρ L => ?_)
  refine K.seq <| K.region <| KO.loud rfl (l_box rfl rfl) ?_
  rintro _ _ ⟨b2, rfl, rfl⟩
  refine KO.q rfl (q_assign rfl) <| KO.done <| K.seq <| K.region <| KO.q rfl (q_loadN ck_56 rfl rfl tC) <| KO.q rfl (q_loadN ck_56 rfl rfl tC) <| KO.loud rfl (OpL.callD rfl (h := ord_Msgs _ _)) ?_
  rintro _ _ ⟨_, ⟨rfl, rfl⟩, rfl⟩
  refine KO.q rfl (q_gt rfl rfl) <| KO.q rfl (q_assign rfl) <| KO.done ?_
  refine kr1 Tryz.func227 Tryz.results227 rfl (fun w hs => ?_)
  exact ⟨_, [pv b 56 m.cells], rfl, ⟨rfl, rfl⟩, hs.fitD⟩
set_option maxHeartbeats 800000 in
theorem qu_Add (q : Option Addr) (cap : Nat) (l : List Msg) (m : Msg) (hl : l.length ≤ 1000000000) : Fn Tryz.prog 213 [.slice q l.length cap, .agg m.cells.toArray].toArray [RowF Kd.msg q l] (fun r post => ∃ q' c', r = .slice q' (addM l m).length c' ∧ post = [RowO Kd.msg 56 q' c' (addM l m)] ∧ (addM l m).length ≤ c') := by
  refine Fn.enter (N := 19) Tryz.func213 rfl Tryz.ntmps213 tK rfl (fun ρ L => ?_)
  refine K.seq <| K.region <| KO.loud rfl (l_box rfl rfl) ?_
  rintro _ _ ⟨b3, rfl, rfl⟩
  refine KO.q rfl (q_assign rfl) <| KO.done <| K.seq <| K.region <| KO.q rfl (q_move rfl) <| KO.q rfl (q_func rfl rfl) <| KO.st (fun w h => nestF_nil h) <| KO.loud rfl (OpL.callD rfl (h := ixg_msg (RowF Kd.msg q l) (pv b3 56 m.cells) (NestF []) q cap l isF 227 [.pointer (some ⟨b3, 0, none⟩)] (fun x => decide (0 < cmpM x m)) tO (fun x _ => qa1 b3 m x))) ?_
  rintro _ _ ⟨_, ⟨rfl, rfl⟩, rfl⟩
  refine KO.q rfl (q_assign rfl) <| KO.done <| K.seq <| K.seq <| K.region <| KO.q rfl (q_move rfl) <| KO.q rfl (q_lt rfl rfl) <| KO.done ?_
  refine K.dcond (s := 10) rfl (fun g10 => ?_) (fun g10 => ?_)
  · have hpl : plc (fun x => decide (0 < cmpM x m)) l = l.length := by unfold plc; rw [if_pos g10]
    have had : addM l m = insAt l l.length m := by unfold addM; rw [hpl]
    refine K.region <| KO.q rfl (q_move rfl) <| KO.q rfl (q_len Tryz.underlying60 rfl) <| KO.q rfl (q_assign rfl) <| KO.done <| K.seq ?_
    refine K.drawU (by repeat (first | apply SubL.pers | apply SubL.own (b := b3) | apply SubL.drop | exact SubL.none)) mixed ?_
    refine dq 0 rfl (q_move rfl) <| dq 2 rfl (q_move rfl) <| dq 3 rfl (q_loadN ck_56 rfl rfl tC) ?_
    refine D.all (rs := [1, 4]) tK rfl (DAll.cons rfl tK (OpL.callD rfl (h := clone_msg (RowF Kd.msg q l) q cap l isF hl)) (.inr (by rintro _ _ ⟨_, ⟨q1, c1, rfl, rfl, hc1⟩, rfl⟩ w h; exact h.subD)) rfl ?_ (DAll.cons rfl tK (l_slice1 sz_60_1 rfl rfl ⟨rfl, rfl, rfl⟩) (.inr (by rintro _ _ ⟨b17, rfl, rfl⟩ w h; exact h.subD)) rfl ?_ DAll.nil))
    · rintro _ _ ⟨_, ⟨q1, c1, rfl, rfl, hc1⟩, rfl⟩
      refine dq1 4 rfl (l_slice1 sz_60_1 rfl rfl ⟨rfl, rfl, rfl⟩) (.inr (by rintro _ _ ⟨b17, rfl, rfl⟩ w h; exact h.subD)) ?_
      rintro _ _ ⟨b17, rfl, rfl⟩
      refine dq1 5 rfl (OpL.callD rfl (h := ins_msg q1 c1 l l.length b17 _ m (Nat.le_refl _) hc1 hl)) (.inl tK) ?_
      rintro _ _ ⟨_, ⟨qn, cn, rfl, rfl, hcn⟩, rfl⟩
      refine dq 6 rfl (q_assign rfl) <| D.done tK ?_
      refine kr1 Tryz.func213 Tryz.results213 rfl (fun w hs => ?_)
      rw [had]
      exact ⟨_, [RowO Kd.msg 56 qn cn _], rfl, ⟨qn, cn, rfl, rfl, hcn⟩, hs.fitD⟩
    · rintro _ _ ⟨b17, rfl, rfl⟩
      refine dq1 1 rfl (OpL.callD rfl (h := clone_msg (RowF Kd.msg q l) q cap l isF hl)) (.inr (by rintro _ _ ⟨_, ⟨q1, c1, rfl, rfl, hc1⟩, rfl⟩ w h; exact h.subD)) ?_
      rintro _ _ ⟨_, ⟨q1, c1, rfl, rfl, hc1⟩, rfl⟩
      refine dq1 5 rfl (OpL.callD rfl (h := ins_msg q1 c1 l l.length b17 _ m (Nat.le_refl _) hc1 hl)) (.inl tK) ?_
      rintro _ _ ⟨_, ⟨qn, cn, rfl, rfl, hcn⟩, rfl⟩
      refine dq 6 rfl (q_assign rfl) <| D.done tK ?_
      refine kr1 Tryz.func213 Tryz.results213 rfl (fun w hs => ?_)
      rw [had]
      exact ⟨_, [RowO Kd.msg 56 qn cn _], rfl, ⟨qn, cn, rfl, rfl, hcn⟩, hs.fitD⟩
  · obtain ⟨i, x, hx, hi, _⟩ := idxP_nat g10
    have hpl : plc (fun x => decide (0 < cmpM x m)) l = i := by unfold plc; rw [if_neg g10, hi]; rfl
    have hile : i ≤ l.length := by have := (List.getElem?_eq_some_iff.1 hx).1; omega
    have had : addM l m = insAt l i m := by unfold addM; rw [hpl]
    rw [hi]
    refine K.skip <| K.seq ?_
    refine K.drawU (by repeat (first | apply SubL.pers | apply SubL.own (b := b3) | apply SubL.drop | exact SubL.none)) mixed ?_
    refine dq 0 rfl (q_move rfl) <| dq 2 rfl (q_move rfl) <| dq 3 rfl (q_loadN ck_56 rfl rfl tC) ?_
    refine D.all (rs := [1, 4]) tK rfl (DAll.cons rfl tK (OpL.callD rfl (h := clone_msg (RowF Kd.msg q l) q cap l isF hl)) (.inr (by rintro _ _ ⟨_, ⟨q1, c1, rfl, rfl, hc1⟩, rfl⟩ w h; exact h.subD)) rfl ?_ (DAll.cons rfl tK (l_slice1 sz_60_1 rfl rfl ⟨rfl, rfl, rfl⟩) (.inr (by rintro _ _ ⟨b17, rfl, rfl⟩ w h; exact h.subD)) rfl ?_ DAll.nil))
    · rintro _ _ ⟨_, ⟨q1, c1, rfl, rfl, hc1⟩, rfl⟩
      refine dq1 4 rfl (l_slice1 sz_60_1 rfl rfl ⟨rfl, rfl, rfl⟩) (.inr (by rintro _ _ ⟨b17, rfl, rfl⟩ w h; exact h.subD)) ?_
      rintro _ _ ⟨b17, rfl, rfl⟩
      refine dq1 5 rfl (OpL.callD rfl (h := ins_msg q1 c1 l i b17 _ m hile hc1 hl)) (.inl tK) ?_
      rintro _ _ ⟨_, ⟨qn, cn, rfl, rfl, hcn⟩, rfl⟩
      refine dq 6 rfl (q_assign rfl) <| D.done tK ?_
      refine kr1 Tryz.func213 Tryz.results213 rfl (fun w hs => ?_)
      rw [had]
      exact ⟨_, [RowO Kd.msg 56 qn cn _], rfl, ⟨qn, cn, rfl, rfl, hcn⟩, hs.fitD⟩
    · rintro _ _ ⟨b17, rfl, rfl⟩
      refine dq1 1 rfl (OpL.callD rfl (h := clone_msg (RowF Kd.msg q l) q cap l isF hl)) (.inr (by rintro _ _ ⟨_, ⟨q1, c1, rfl, rfl, hc1⟩, rfl⟩ w h; exact h.subD)) ?_
      rintro _ _ ⟨_, ⟨q1, c1, rfl, rfl, hc1⟩, rfl⟩
      refine dq1 5 rfl (OpL.callD rfl (h := ins_msg q1 c1 l i b17 _ m hile hc1 hl)) (.inl tK) ?_
      rintro _ _ ⟨_, ⟨qn, cn, rfl, rfl, hcn⟩, rfl⟩
      refine dq 6 rfl (q_assign rfl) <| D.done tK ?_
      refine kr1 Tryz.func213 Tryz.results213 rfl (fun w hs => ?_)
      rw [had]
      exact ⟨_, [RowO Kd.msg 56 qn cn _], rfl, ⟨qn, cn, rfl, rfl, hcn⟩, hs.fitD⟩
set_option maxHeartbeats 800000 in
theorem qu_Cut (q : Option Addr) (cap : Nat) (l : List Msg) (id : Int) (hl : l.length ≤ 1000000000) : Fn Tryz.prog 193 [.slice q l.length cap, .int .i64 id].toArray [RowF Kd.msg q l] (fun r post => ∃ q' c', r = .tuple #[.slice q' (cutM l id).1.length c', .bool (cutM l id).2] ∧ post = [RowO Kd.msg 56 q' c' (cutM l id).1] ∧ (cutM l id).1.length ≤ c') := by
  refine Fn.enter (N := 20) Tryz.func193 rfl Tryz.ntmps193 tK rfl (fun ρ L => ?_)
  refine K.seq <| K.region <| KO.q rfl (q_assign rfl) <| KO.q rfl (q_assign rfl) <| KO.done <| K.seq <| K.region <| KO.q rfl (q_move rfl) <| KO.q rfl (q_move rfl) <| KO.loud rfl (OpL.callD rfl (h := qu_Find (RowF Kd.msg q l) q cap l id isF hl)) ?_
  rintro _ _ ⟨_, ⟨rfl, rfl⟩, rfl⟩
  refine KO.q rfl (q_assign rfl) <| KO.done <| K.seq <| K.region <| KO.q rfl (q_move rfl) <| KO.loud rfl (OpL.callD rfl (h := clone_msg (RowF Kd.msg q l) q cap l isF hl)) ?_
  rintro _ _ ⟨_, ⟨q1, c1, rfl, rfl, hc1⟩, rfl⟩
  refine KO.q rfl (q_assign rfl) <| KO.done <| K.seq <| K.seq <| K.region <| KO.q rfl (q_move rfl) <| KO.q rfl (q_lt rfl rfl) <| KO.done ?_
  refine K.dcond (s := 13) rfl (fun g13 => ?_) (fun g13 => ?_)
  · have hr : cutM l id = (l, false) := by unfold cutM; rw [if_pos g13]
    refine K.seq <| K.region <| KO.q rfl (q_move rfl) <| KO.q rfl (q_assign rfl) <| KO.q rfl (q_assign rfl) <| KO.done ?_
    refine kr2 Tryz.func193 Tryz.results193 rfl rfl (fun w hs => ?_)
    rw [hr]
    first
      | exact ⟨_, [RowO Kd.msg 56 q1 c1 (l.eraseIdx i)], rfl, ⟨q1, c1, rfl, rfl, rowO_cap (e := 56) (k := Kd.msg) (p := q1) (cap := c1) (xs := l.eraseIdx i) tM w hs⟩, hs.fitD⟩
      | exact ⟨_, [RowO Kd.msg 56 q1 c1 l], rfl, ⟨q1, c1, rfl, rfl, hc1⟩, hs.fitD⟩
  · obtain ⟨i, x, hx, hi, _⟩ := idxP_nat g13
    have hi : findM l id = (i : Int) := hi
    have hil := (List.getElem?_eq_some_iff.1 hx).1
    have hr : cutM l id = (l.eraseIdx i, true) := by unfold cutM; rw [if_neg g13, hi]; rfl
    rw [hi]
    refine K.skip <| K.seq <| K.region <| KO.q rfl (q_move rfl) <| KO.q rfl (q_move rfl) <| KO.q rfl (q_move rfl) <| KO.q rfl (q_add rfl rfl tN tN) <| KO.loud rfl (OpL.callD rfl (h := del_msg q1 c1 l i hil hc1 tO)) ?_
    rintro _ _ ⟨_, ⟨rfl, rfl⟩, rfl⟩
    refine KO.q rfl (q_assign rfl) <| KO.q rfl (q_assign rfl) <| KO.done ?_
    refine kr2 Tryz.func193 Tryz.results193 rfl rfl (fun w hs => ?_)
    rw [hr]
    first
      | exact ⟨_, [RowO Kd.msg 56 q1 c1 (l.eraseIdx i)], rfl, ⟨q1, c1, rfl, rfl, rowO_cap (e := 56) (k := Kd.msg) (p := q1) (cap := c1) (xs := l.eraseIdx i) tM w hs⟩, hs.fitD⟩
      | exact ⟨_, [RowO Kd.msg 56 q1 c1 l], rfl, ⟨q1, c1, rfl, rfl, hc1⟩, hs.fitD⟩
set_option maxHeartbeats 800000 in
theorem qu_Claim (q : Option Addr) (cap : Nat) (l : List Msg) (id : Int) (on : Bool) (hl : l.length ≤ 1000000000) : Fn Tryz.prog 195 [.slice q l.length cap, .int .i64 id, .bool on].toArray [RowF Kd.msg q l] (fun r post => ∃ q' c', r = .tuple #[.slice q' (claimM l id on).1.length c', .bool (claimM l id on).2] ∧ post = [RowO Kd.msg 56 q' c' (claimM l id on).1] ∧ (claimM l id on).1.length ≤ c') := by
  refine Fn.enter (N := 32) Tryz.func195 rfl Tryz.ntmps195 tK rfl (fun ρ L => ?_)
  refine K.seq <| K.region <| KO.q rfl (q_assign rfl) <| KO.q rfl (q_assign rfl) <| KO.done <| K.seq <| K.region <| KO.q rfl (q_move rfl) <| KO.q rfl (q_move rfl) <| KO.loud rfl (OpL.callD rfl (h := qu_Find (RowF Kd.msg q l) q cap l id isF hl)) ?_
  rintro _ _ ⟨_, ⟨rfl, rfl⟩, rfl⟩
  refine KO.q rfl (q_assign rfl) <| KO.done <| K.seq <| K.region <| KO.q rfl (q_move rfl) <| KO.loud rfl (OpL.callD rfl (h := clone_msg (RowF Kd.msg q l) q cap l isF hl)) ?_
  rintro _ _ ⟨_, ⟨q1, c1, rfl, rfl, hc1⟩, rfl⟩
  refine KO.q rfl (q_assign rfl) <| KO.done <| K.seq <| K.seq <| K.region <| KO.q rfl (q_move rfl) <| KO.q rfl (q_lt rfl rfl) <| KO.q rfl (q_move rfl) ?_
  refine KO.dsplit 16 rfl (fun g16 => ?_) (fun g16 => ?_)
  · have hr : claimM l id on = (l, false) := by unfold claimM; rw [if_pos g16]
    refine KO.skip rfl <| KO.skip rfl <| KO.skip rfl <| KO.skip rfl <| KO.skip rfl <| KO.skip rfl <| KO.skip rfl <| KO.q rfl (q_pickT rfl rfl) <| KO.done <| K.yes rfl ?_
    refine K.seq <| K.region <| KO.q rfl (q_move rfl) <| KO.q rfl (q_assign rfl) <| KO.q rfl (q_assign rfl) <| KO.done ?_
    refine kr2 Tryz.func195 Tryz.results195 rfl rfl (fun w hs => ?_)
    rw [hr]
    exact ⟨_, [RowO Kd.msg 56 q1 c1 l], rfl, ⟨q1, c1, rfl, rfl, hc1⟩, hs.fitD⟩
  · obtain ⟨i, x, hx, hi, _⟩ := idxP_nat g16
    have hi : findM l id = (i : Int) := hi
    have hil := (List.getElem?_eq_some_iff.1 hx).1
    have hgd : l.getD (findM l id).toNat ⟨0, 0, 0, false, ⟨#[]⟩, ⟨#[]⟩⟩ = x := by rw [hi, Int.toNat_natCast]; exact gd_at hx
    refine KO.q rfl (q_move rfl) <| KO.q rfl (q_move rfl) <| KO.q rfl (q_ix (xs := l) i se_60 rfl rfl hi isO tM rfl hil) <| KO.q rfl (q_fieldE fo_56_3 rfl) <| KO.q rfl (q_ldE (xs := l) ck_4 rfl isO tM hx rfl) <| KO.q rfl (q_move rfl) <| KO.q rfl (q_beq Tryz.underlying4 rfl rfl) <| KO.q rfl (q_pickF rfl rfl) <| KO.done ?_
    refine K.bcond (s := 24) rfl (fun g24 => ?_) (fun g24 => ?_)
    · have hr : claimM l id on = (l, false) := by unfold claimM; rw [if_neg g16, hgd, if_pos (by simpa using g24)]
      refine K.seq <| K.region <| KO.q rfl (q_move rfl) <| KO.q rfl (q_assign rfl) <| KO.q rfl (q_assign rfl) <| KO.done ?_
      refine kr2 Tryz.func195 Tryz.results195 rfl rfl (fun w hs => ?_)
      rw [hr]
      exact ⟨_, [RowO Kd.msg 56 q1 c1 l], rfl, ⟨q1, c1, rfl, rfl, hc1⟩, hs.fitD⟩
    · have hr : claimM l id on = (l.set i { x with claimed := on }, true) := by unfold claimM; rw [if_neg g16, hgd, if_neg (by simpa using g24), hi]; rfl
      have hsl : (l.set i { x with claimed := on }).length = l.length := List.length_set
      refine K.skip <| K.seq <| K.region <| KO.q rfl (q_move rfl) <| KO.q rfl (q_move rfl) <| KO.q rfl (q_move rfl) <| KO.q rfl (q_ix (xs := l) i se_60 rfl rfl hi isO tM rfl hil) <| KO.q rfl (q_fieldE fo_56_3 rfl) <| KO.loudN rfl (l_storeE (el := x) { x with claimed := on } ck_4 rfl rfl rfl tP hx tD rfl) ?_
      rintro _ _ ⟨rfl, rfl⟩
      refine KO.done <| K.seq <| K.region <| KO.q rfl (q_move rfl) <| KO.q rfl (q_assign rfl) <| KO.q rfl (q_assign rfl) <| KO.done ?_
      refine kr2 Tryz.func195 Tryz.results195 rfl rfl (fun w hs => ?_)
      rw [hr, hsl]
      exact ⟨_, [RowO Kd.msg 56 q1 c1 (l.set i { x with claimed := on })], rfl, ⟨q1, c1, rfl, rfl, hc1⟩, hs.fitD⟩
theorem nd_Find (q : Option Addr) (cap : Nat) (l : List Rw) (key : ByteArray) (hl : l.length ≤ 1000000000) : Fn Tryz.prog 221 [.slice q l.length cap, .string key].toArray [RowF Kd.rw q l] (fun r post => r = .tuple #[.int .i64 (lbR l key), .bool (fndR l key)] ∧ post = []) := by
  refine Fn.enter (N := 28) Tryz.func221 rfl Tryz.ntmps221 tK rfl (fun ρ L => ?_)
  refine K.seq <| K.region <| KO.q rfl (q_assign rfl) <| KO.q rfl (q_assign rfl) <| KO.done <| K.seq <| K.seq <| K.region <| KO.q rfl (q_move rfl) <| KO.q rfl (q_len Tryz.underlying59 rfl) <| KO.q rfl (q_move rfl) ?_
  refine KO.done <| K.block ?_
  refine K.rloop (ι := { i : Nat // i ≤ l.length ∧ (l.take i).all (fun r => decide (cmpB r.key key < 0)) = true }) (fun x => [(11, .int .i64 x.1), (10, .int .i64 l.length), (9, .slice q l.length cap), (0, .slice q l.length cap), (1, .string key)]) (fun x => l.length - x.1) ⟨0, Nat.zero_le _, rfl⟩ tS (fun x ih => ?_)
  obtain ⟨i, hi, hz⟩ := x
  dsimp only at hi hz ⊢
  refine K.seq <| K.region <| KO.q rfl (q_lt rfl rfl) <| KO.done <| K.seq ?_
  refine K.dcond (s := 12) rfl (fun g12 => ?_) (fun g12 => ?_)
  · obtain ⟨e, he⟩ : ∃ e, l[i]? = some e := ⟨_, List.getElem?_eq_getElem tO⟩
    refine K.skip <| K.seq <| K.block <| K.seq <| K.region <| KO.q rfl (q_move rfl) ?_
    first | refine KO.q rfl (q_ix _ se_59 rfl rfl rfl isF tM rfl tL) ?_ | refine KO.q rfl (q_ix _ se_59 rfl rfl rfl isO tM rfl tL) ?_
    first | refine KO.q rfl (q_ldEN ck_136 rfl isF tM tE) ?_ | refine KO.q rfl (q_ldEN ck_136 rfl isO tM tE) ?_
    refine KO.loud rfl (l_alloc zo_136) ?_
    rintro _ _ ⟨b7, rfl, rfl⟩
    refine KO.q rfl (q_assign rfl) <| KO.loudN rfl (l_storeAll ck_136 rfl rfl ⟨rfl, rfl⟩ (rw_one _) tP) ?_
    rintro _ _ ⟨rfl, rfl⟩
    refine KO.done <| K.seq <| K.region <| KO.q rfl (q_field fo_136_0 rfl) <| KO.q rfl (q_load1D ck_9 rfl) <| KO.q rfl (q_move rfl) <| KO.loud rfl (OpL.callD rfl (h := ord_Keys _ _)) ?_
    rintro _ _ ⟨_, ⟨rfl, rfl⟩, rfl⟩
    refine KO.q rfl (q_assign rfl) <| KO.done <| K.seq <| K.region <| KO.q rfl (q_move rfl) <| KO.q rfl (q_ge rfl rfl) <| KO.done ?_
    refine K.dcond (s := 21) rfl (fun g21 => ?_) (fun g21 => ?_)
    · have hlb : lbR l key = i := tw_eq hz hi (fun x hx => by rw [he] at hx; cases hx; exact decide_eq_false tO)
      have hfn : fndR l key = decide (cmpB e.key key = 0) := by unfold fndR; rw [hlb, he]; rfl
      refine K.seq <| K.region <| KO.q rfl (q_move rfl) <| KO.q rfl (q_move rfl) <| KO.q rfl (q_eq rfl rfl) <| KO.q rfl (q_assign rfl) <| KO.q rfl (q_assign rfl) <| KO.done ?_
      refine kr2 Tryz.func221 Tryz.results221 rfl rfl (fun w hs => ?_)
      rw [hlb, hfn]
      exact ⟨_, [], rfl, ⟨rfl, rfl⟩, hs.fitD⟩
    · refine K.skip <| K.inBlock <| K.region <| KO.q rfl (q_add rfl rfl tN tN) <| KO.q rfl (q_move rfl) <| KO.done ?_
      exact K.weak tS (fun w h => h.fitD) (ih ⟨i + 1, by omega, by rw [all_take_succ he, hz, decide_eq_true tO]; rfl⟩ (by show l.length - (i + 1) < l.length - i; omega))
  · have hlb : lbR l key = l.length := by rw [show l.length = i by omega]; exact tw_eq hz hi (fun x hx => by rw [List.getElem?_eq_none tO] at hx; cases hx)
    have hfn : fndR l key = false := by unfold fndR; rw [hlb, List.getElem?_eq_none (Nat.le_refl _)]; rfl
    refine K.exit rfl <| K.seq <| K.region <| KO.q rfl (q_move rfl) <| KO.q rfl (q_len Tryz.underlying59 rfl) <| KO.q rfl (q_assign rfl) <| KO.q rfl (q_assign rfl) <| KO.done ?_
    refine kr2 Tryz.func221 Tryz.results221 rfl rfl (fun w hs => ?_)
    rw [hlb, hfn]
    exact ⟨_, [], rfl, ⟨rfl, rfl⟩, hs.fitD⟩
theorem lbR_le (l : List Rw) (key : ByteArray) : lbR l key ≤ l.length := (List.takeWhile_prefix _).length_le
theorem fndR_lt {l : List Rw} {key : ByteArray} (h : fndR l key = true) : lbR l key < l.length := by
  unfold fndR at h
  cases hg : l[lbR l key]? with
  | none => rw [hg] at h; cases h
  | some e => exact (List.getElem?_eq_some_iff.1 hg).1
set_option maxHeartbeats 800000 in
theorem nd_Put (q : Option Addr) (cap : Nat) (l : List Rw) (r : Rw) (hl : l.length ≤ 1000000000) : Fn Tryz.prog 210 [.slice q l.length cap, .agg r.cells.toArray].toArray [RowF Kd.rw q l] (fun v post => ∃ q' c', v = .slice q' (putR l r).length c' ∧ post = [RowO Kd.rw 136 q' c' (putR l r)] ∧ (putR l r).length ≤ c') := by
  refine Fn.enter (N := 27) Tryz.func210 rfl Tryz.ntmps210 tK rfl (fun ρ L => ?_)
  refine K.seq <| K.region <| KO.loud rfl (l_box rfl rfl) ?_
  rintro _ _ ⟨b3, rfl, rfl⟩
  refine KO.q rfl (q_assign rfl) <| KO.done <| K.seq <| K.region <| KO.q rfl (q_move rfl) <| KO.q rfl (q_field fo_136_0 rfl) <| KO.q rfl (q_load1D ck_9 rfl) <| KO.loud rfl (OpL.callD rfl (h := nd_Find _ _ _ _ (by assumption))) ?_
  rintro _ _ ⟨_, ⟨rfl, rfl⟩, rfl⟩
  refine KO.q rfl (q_move rfl) <| KO.q rfl (q_extract rfl rfl) <| KO.q rfl (q_extract rfl rfl) <| KO.q rfl (q_assign rfl) <| KO.q rfl (q_assign rfl) <| KO.done <| K.seq <| K.region <| KO.q rfl (q_move rfl) <| KO.loud rfl (OpL.callD rfl (h := clone_rw (RowF Kd.rw q l) q cap l isF hl)) ?_
  rintro _ _ ⟨_, ⟨q1, c1, rfl, rfl, hc1⟩, rfl⟩
  refine KO.q rfl (q_assign rfl) <| KO.done <| K.seq <| K.seq <| K.region <| KO.q rfl (q_move rfl) <| KO.done ?_
  first | refine K.dcond (s := 16) rfl (fun g16 => ?_) (fun g16 => ?_) | refine K.bcond (s := 16) rfl (fun g16 => ?_) (fun g16 => ?_)
  · have hil := fndR_lt g16
    have hr : putR l r = l.set (lbR l r.key) r := by unfold putR; rw [if_pos g16]
    have hsl : (l.set (lbR l r.key) r).length = l.length := List.length_set
    refine K.seq <| K.region <| KO.q rfl (q_move rfl) <| KO.q rfl (q_move rfl) <| KO.q rfl (q_loadN ck_136 rfl rfl tC) <| KO.q rfl (q_ix (xs := l) (lbR l r.key) se_59 rfl rfl rfl isO tM rfl hil) <| KO.loudN rfl (l_storeEN r ck_136 rfl rfl tP hil) ?_
    rintro _ _ ⟨rfl, rfl⟩
    refine KO.done <| K.seq <| K.region <| KO.q rfl (q_move rfl) <| KO.q rfl (q_assign rfl) <| KO.done ?_
    refine kr1 Tryz.func210 Tryz.results210 rfl (fun w hs => ?_)
    rw [hr, hsl]
    exact ⟨_, [RowO Kd.rw 136 q1 c1 (l.set (lbR l r.key) r)], rfl, ⟨q1, c1, rfl, rfl, hc1⟩, hs.fitD⟩
  · have hile := lbR_le l r.key
    have hr : putR l r = insAt l (lbR l r.key) r := by unfold putR; rw [if_neg (by rw [g16]; decide)]
    refine K.skip <| K.seq <| K.region <| KO.q rfl (q_move rfl) <| KO.q rfl (q_move rfl) <| KO.q rfl (q_loadN ck_136 rfl rfl tC) <| KO.loud rfl (l_slice1 sz_59_1 rfl rfl ⟨rfl, rfl, rfl⟩) ?_
    rintro _ _ ⟨b25, rfl, rfl⟩
    refine KO.loud rfl (OpL.callD rfl (h := ins_rw q1 c1 l (lbR l r.key) b25 _ r hile hc1 hl)) ?_
    rintro _ _ ⟨_, ⟨qn, cn, rfl, rfl, hcn⟩, rfl⟩
    refine KO.q rfl (q_assign rfl) <| KO.done ?_
    refine kr1 Tryz.func210 Tryz.results210 rfl (fun w hs => ?_)
    rw [hr]
    exact ⟨_, [RowO Kd.rw 136 qn cn (insAt l (lbR l r.key) r)], rfl, ⟨qn, cn, rfl, rfl, hcn⟩, hs.fitD⟩
set_option maxHeartbeats 800000 in
theorem nd_Cut (q : Option Addr) (cap : Nat) (l : List Rw) (key : ByteArray) (hl : l.length ≤ 1000000000) : Fn Tryz.prog 211 [.slice q l.length cap, .string key].toArray [RowF Kd.rw q l] (fun v post => ∃ q' c', v = .tuple #[.slice q' (cutR l key).1.length c', .bool (cutR l key).2] ∧ post = [RowO Kd.rw 136 q' c' (cutR l key).1] ∧ (cutR l key).1.length ≤ c') := by
  refine Fn.enter (N := 24) Tryz.func211 rfl Tryz.ntmps211 tK rfl (fun ρ L => ?_)
  refine K.seq <| K.region <| KO.q rfl (q_assign rfl) <| KO.q rfl (q_assign rfl) <| KO.done <| K.seq <| K.region <| KO.q rfl (q_move rfl) <| KO.q rfl (q_move rfl) <| KO.loud rfl (OpL.callD rfl (h := nd_Find _ _ _ _ (by assumption))) ?_
  rintro _ _ ⟨_, ⟨rfl, rfl⟩, rfl⟩
  refine KO.q rfl (q_move rfl) <| KO.q rfl (q_extract rfl rfl) <| KO.q rfl (q_extract rfl rfl) <| KO.q rfl (q_assign rfl) <| KO.q rfl (q_assign rfl) <| KO.done <| K.seq <| K.region <| KO.q rfl (q_move rfl) <| KO.loud rfl (OpL.callD rfl (h := clone_rw (RowF Kd.rw q l) q cap l isF hl)) ?_
  rintro _ _ ⟨_, ⟨q1, c1, rfl, rfl, hc1⟩, rfl⟩
  refine KO.q rfl (q_assign rfl) <| KO.done <| K.seq <| K.seq <| K.region <| KO.q rfl (q_move rfl) <| KO.q rfl (q_not rfl) <| KO.done ?_
  refine K.bcond (s := 17) rfl (fun g17 => ?_) (fun g17 => ?_)
  · have hr : cutR l key = (l, false) := by unfold cutR; rw [if_neg (by simpa using g17)]
    refine K.seq <| K.region <| KO.q rfl (q_move rfl) <| KO.q rfl (q_assign rfl) <| KO.q rfl (q_assign rfl) <| KO.done ?_
    refine kr2 Tryz.func211 Tryz.results211 rfl rfl (fun w hs => ?_)
    rw [hr]
    first
      | exact ⟨_, [RowO Kd.rw 136 q1 c1 (l.eraseIdx (lbR l key))], rfl, ⟨q1, c1, rfl, rfl, rowO_cap (e := 136) (k := Kd.rw) (p := q1) (cap := c1) (xs := l.eraseIdx (lbR l key)) tM w hs⟩, hs.fitD⟩
      | exact ⟨_, [RowO Kd.rw 136 q1 c1 l], rfl, ⟨q1, c1, rfl, rfl, hc1⟩, hs.fitD⟩
  · have hfn : fndR l key = true := by simpa using g17
    have hil := fndR_lt hfn
    have hr : cutR l key = (l.eraseIdx (lbR l key), true) := by unfold cutR; rw [if_pos hfn]
    refine K.skip <| K.seq <| K.region <| KO.q rfl (q_move rfl) <| KO.q rfl (q_move rfl) <| KO.q rfl (q_move rfl) <| KO.q rfl (q_add rfl rfl tN tN) <| KO.loud rfl (OpL.callD rfl (h := del_rw q1 c1 l (lbR l key) hil hc1 tO)) ?_
    rintro _ _ ⟨_, ⟨rfl, rfl⟩, rfl⟩
    refine KO.q rfl (q_assign rfl) <| KO.q rfl (q_assign rfl) <| KO.done ?_
    refine kr2 Tryz.func211 Tryz.results211 rfl rfl (fun w hs => ?_)
    rw [hr]
    first
      | exact ⟨_, [RowO Kd.rw 136 q1 c1 (l.eraseIdx (lbR l key))], rfl, ⟨q1, c1, rfl, rfl, rowO_cap (e := 136) (k := Kd.rw) (p := q1) (cap := c1) (xs := l.eraseIdx (lbR l key)) tM w hs⟩, hs.fitD⟩
      | exact ⟨_, [RowO Kd.rw 136 q1 c1 l], rfl, ⟨q1, c1, rfl, rfl, hc1⟩, hs.fitD⟩
theorem rw_Put (q : Option Addr) (cap : Nat) (l : List Rw) (r : Rw) (hl : l.length ≤ 1000000000) : Fn Tryz.prog 189 [.slice q l.length cap, .agg r.cells.toArray].toArray [RowF Kd.rw q l] (fun v post => ∃ q' c', v = .slice q' (putR l r).length c' ∧ post = [RowO Kd.rw 136 q' c' (putR l r)] ∧ (putR l r).length ≤ c') := by
  refine Fn.enter (N := 8) Tryz.func189 rfl Tryz.ntmps189 tK rfl (fun ρ L => ?_)
  refine K.seq <| K.region <| KO.loud rfl (l_box rfl rfl) ?_
  rintro _ _ ⟨b3, rfl, rfl⟩
  refine KO.q rfl (q_assign rfl) <| KO.done <| K.seq <| K.region <| KO.q rfl (q_move rfl) <| KO.q rfl (q_loadN ck_136 rfl rfl tC) <| KO.loud rfl (OpL.callD rfl (h := nd_Put q cap l r hl)) ?_
  rintro _ _ ⟨_, ⟨q1, c1, rfl, rfl, hc1⟩, rfl⟩
  refine KO.q rfl (q_assign rfl) <| KO.done ?_
  refine kr1 Tryz.func189 Tryz.results189 rfl (fun w hs => ?_)
  exact ⟨_, [RowO Kd.rw 136 q1 c1 (putR l r)], rfl, ⟨q1, c1, rfl, rfl, hc1⟩, hs.fitD⟩
theorem rw_Cut (q : Option Addr) (cap : Nat) (l : List Rw) (key : ByteArray) (hl : l.length ≤ 1000000000) : Fn Tryz.prog 190 [.slice q l.length cap, .string key].toArray [RowF Kd.rw q l] (fun v post => ∃ q' c', v = .tuple #[.slice q' (cutR l key).1.length c', .bool (cutR l key).2] ∧ post = [RowO Kd.rw 136 q' c' (cutR l key).1] ∧ (cutR l key).1.length ≤ c') := by
  refine Fn.enter (N := 11) Tryz.func190 rfl Tryz.ntmps190 tK rfl (fun ρ L => ?_)
  refine K.seq <| K.region <| KO.q rfl (q_assign rfl) <| KO.q rfl (q_assign rfl) <| KO.done <| K.seq <| K.region <| KO.q rfl (q_move rfl) <| KO.q rfl (q_move rfl) <| KO.loud rfl (OpL.callD rfl (h := nd_Cut q cap l key hl)) ?_
  rintro _ _ ⟨_, ⟨q1, c1, rfl, rfl, hc1⟩, rfl⟩
  refine KO.q rfl (q_extract rfl rfl) <| KO.q rfl (q_extract rfl rfl) <| KO.q rfl (q_assign rfl) <| KO.q rfl (q_assign rfl) <| KO.done ?_
  refine kr2 Tryz.func190 Tryz.results190 rfl rfl (fun w hs => ?_)
  exact ⟨_, [RowO Kd.rw 136 q1 c1 (cutR l key).1], rfl, ⟨q1, c1, rfl, rfl, hc1⟩, hs.fitD⟩
end Go.Proofs.YtkbhldicnamcdaaGreat.L
namespace Go.Proofs.YtkbhldicnamcdaaGreat.L
open Go Go.Proofs
attribute [local irreducible] pv fv pt fz RowF RowO rowP old pure_ elA Rd.int Rd.text Rd.flag Rd.msg Rd.rint Rd.rtext Rd.rflag Rd.rmsg
set_option maxRecDepth 100000
set_option linter.unusedSimpArgs false
set_option linter.unusedVariables false
def Oz.cap (o : Oz) : Prop := o.x.rows.length ≤ o.z.c1 ∧ o.x.msgs.length ≤ o.z.c2 ∧ o.x.dead.length ≤ o.z.c3
def Oz.le (o : Oz) (n : Nat) : Prop := o.x.rows.length ≤ n ∧ o.x.msgs.length ≤ n ∧ o.x.dead.length ≤ n
abbrev ObO (o : Oz) : List HP := [RowO Kd.rw 136 o.z.q1 o.z.c1 o.x.rows, RowO Kd.msg 56 o.z.q2 o.z.c2 o.x.msgs, RowO Kd.msg 56 o.z.q3 o.z.c3 o.x.dead]
theorem obO_freeze {o : Oz} {ρ : World} {L : List HP} {w : World} (h : St ρ (ObO o ++ L) w) : St ρ (ObL o ++ L) w := by
  have h1 := rowO_freeze h
  have h2 := rowO_freeze (h1.pick (.there .here))
  have h3 := rowO_freeze (h2.pick (.there (.there .here)))
  exact h3.fitD
set_option maxHeartbeats 1600000 in
theorem dd_clone (o : Oz) (hl : o.le 1000000000) : Fn Tryz.prog 216 [.agg o.cells.toArray].toArray (ObL o) (fun r post => ∃ z, r = .agg (Oz.cells ⟨o.x, z⟩).toArray ∧ post = ObO ⟨o.x, z⟩ ∧ Oz.cap ⟨o.x, z⟩) := by
  obtain ⟨hl1, hl2, hl3⟩ := hl
  refine Fn.enter (N := 16) Tryz.func216 rfl Tryz.ntmps216 tK rfl (fun ρ L => ?_)
  refine K.seq <| K.region <| KO.loud rfl (l_box rfl rfl) ?_
  rintro _ _ ⟨b1, rfl, rfl⟩
  refine KO.loud rfl (l_alloc zo_62) ?_
  rintro _ _ ⟨b2, rfl, rfl⟩
  refine KO.done <| K.seq ?_
  refine K.drawU (by repeat (first | apply SubL.pers | apply SubL.drop | exact SubL.none)) mixed ?_
  refine dq 0 rfl (q_field fo_62_3 rfl) <| dq 3 rfl (q_field fo_62_4 rfl) <| dq 6 rfl (q_field fo_62_5 rfl) ?_
  refine D.all (rs := [1, 4, 7]) tK rfl (DAll.cons rfl tK (OpQ.loud (q_load1D ck_59 rfl)) (.inr (by rintro _ _ ⟨rfl, rfl⟩ w h; exact h.subD)) rfl ?_ (DAll.cons rfl tK (OpQ.loud (q_load1D ck_60 rfl)) (.inr (by rintro _ _ ⟨rfl, rfl⟩ w h; exact h.subD)) rfl ?_ (DAll.cons rfl tK (OpQ.loud (q_load1D ck_60 rfl)) (.inr (by rintro _ _ ⟨rfl, rfl⟩ w h; exact h.subD)) rfl ?_ DAll.nil)))
  · rintro _ _ ⟨rfl, rfl⟩
    refine D.all (rs := [2, 4, 7]) tK rfl (DAll.cons rfl tK (OpL.callD rfl (h := clone_rw (RowF Kd.rw o.z.q1 o.x.rows) o.z.q1 o.z.c1 o.x.rows isF hl1)) (.inr (by rintro _ _ ⟨_, ⟨qa, ca, rfl, rfl, ha⟩, rfl⟩ w h; exact h.subD)) rfl ?_ (DAll.cons rfl tK (OpQ.loud (q_load1D ck_60 rfl)) (.inr (by rintro _ _ ⟨rfl, rfl⟩ w h; exact h.subD)) rfl ?_ (DAll.cons rfl tK (OpQ.loud (q_load1D ck_60 rfl)) (.inr (by rintro _ _ ⟨rfl, rfl⟩ w h; exact h.subD)) rfl ?_ DAll.nil)))
    · rintro _ _ ⟨_, ⟨qa, ca, rfl, rfl, ha⟩, rfl⟩
      refine D.all (rs := [4, 7]) tK rfl (DAll.cons rfl tK (OpQ.loud (q_load1D ck_60 rfl)) (.inr (by rintro _ _ ⟨rfl, rfl⟩ w h; exact h.subD)) rfl ?_ (DAll.cons rfl tK (OpQ.loud (q_load1D ck_60 rfl)) (.inr (by rintro _ _ ⟨rfl, rfl⟩ w h; exact h.subD)) rfl ?_ DAll.nil))
      · rintro _ _ ⟨rfl, rfl⟩
        refine D.all (rs := [5, 7]) tK rfl (DAll.cons rfl tK (OpL.callD rfl (h := clone_msg (RowF Kd.msg o.z.q2 o.x.msgs) o.z.q2 o.z.c2 o.x.msgs isF hl2)) (.inr (by rintro _ _ ⟨_, ⟨qb, cb, rfl, rfl, hb⟩, rfl⟩ w h; exact h.subD)) rfl ?_ (DAll.cons rfl tK (OpQ.loud (q_load1D ck_60 rfl)) (.inl tK) rfl ?_ DAll.nil))
        · rintro _ _ ⟨_, ⟨qb, cb, rfl, rfl, hb⟩, rfl⟩
          refine dq1 7 rfl (OpQ.loud (q_load1D ck_60 rfl)) (.inl tK) ?_
          rintro _ _ ⟨rfl, rfl⟩
          refine dq 9 rfl (q_field fo_62_3 rfl) <| dq1 8 rfl (OpL.callD rfl (h := clone_msg (RowF Kd.msg o.z.q3 o.x.dead) o.z.q3 o.z.c3 o.x.dead isF hl3)) (.inr (by rintro _ _ ⟨_, ⟨qc, cc, rfl, rfl, hc⟩, rfl⟩ w h; exact h.subD)) ?_
          rintro _ _ ⟨_, ⟨qc, cc, rfl, rfl, hc⟩, rfl⟩
          refine dq1N 10 rfl (l_store1 ck_59 rfl rfl rfl tP tA) (.inl tK) ?_
          rintro _ _ ⟨rfl, rfl⟩
          refine dq 11 rfl (q_field fo_62_4 rfl) <| dq1N 12 rfl (l_store1 ck_60 rfl rfl rfl tP tA) (.inl tK) ?_
          rintro _ _ ⟨rfl, rfl⟩
          refine dq 13 rfl (q_field fo_62_5 rfl) <| dq1N 14 rfl (l_store1 ck_60 rfl rfl rfl tP tA) (.inl tK) ?_
          rintro _ _ ⟨rfl, rfl⟩
          refine D.done tK <| K.seq <| K.region <| KO.q rfl (q_as (q_loadN ck_62 rfl rfl tC) (show _ = Oz.cells ⟨o.x, ⟨qa, ca, qb, cb, qc, cc⟩⟩ from rfl)) <| KO.loudN rfl (l_storeAll ck_62 rfl rfl ⟨rfl, rfl⟩ (oz_one _) tP) ?_
          rintro _ _ ⟨rfl, rfl⟩
          refine KO.done ?_
          refine K.ret (fn := Tryz.f216) Tryz.func216 (fun a w hk hs => resC Tryz.results216 hk rfl ck_62 rfl (cells_pv tM w hs)) (fun w hs => ?_)
          exact ⟨_, ObO ⟨o.x, ⟨qa, ca, qb, cb, qc, cc⟩⟩, rfl, ⟨⟨qa, ca, qb, cb, qc, cc⟩, rfl, rfl, ha, hb, hc⟩, hs.fitD⟩
        · rintro _ _ ⟨rfl, rfl⟩
          refine dq 9 rfl (q_field fo_62_3 rfl) <| dq1 5 rfl (OpL.callD rfl (h := clone_msg (RowF Kd.msg o.z.q2 o.x.msgs) o.z.q2 o.z.c2 o.x.msgs isF hl2)) (.inr (by rintro _ _ ⟨_, ⟨qb, cb, rfl, rfl, hb⟩, rfl⟩ w h; exact h.subD)) ?_
          rintro _ _ ⟨_, ⟨qb, cb, rfl, rfl, hb⟩, rfl⟩
          refine dq1 8 rfl (OpL.callD rfl (h := clone_msg (RowF Kd.msg o.z.q3 o.x.dead) o.z.q3 o.z.c3 o.x.dead isF hl3)) (.inr (by rintro _ _ ⟨_, ⟨qc, cc, rfl, rfl, hc⟩, rfl⟩ w h; exact h.subD)) ?_
          rintro _ _ ⟨_, ⟨qc, cc, rfl, rfl, hc⟩, rfl⟩
          refine dq1N 10 rfl (l_store1 ck_59 rfl rfl rfl tP tA) (.inl tK) ?_
          rintro _ _ ⟨rfl, rfl⟩
          refine dq 11 rfl (q_field fo_62_4 rfl) <| dq1N 12 rfl (l_store1 ck_60 rfl rfl rfl tP tA) (.inl tK) ?_
          rintro _ _ ⟨rfl, rfl⟩
          refine dq 13 rfl (q_field fo_62_5 rfl) <| dq1N 14 rfl (l_store1 ck_60 rfl rfl rfl tP tA) (.inl tK) ?_
          rintro _ _ ⟨rfl, rfl⟩
          refine D.done tK <| K.seq <| K.region <| KO.q rfl (q_as (q_loadN ck_62 rfl rfl tC) (show _ = Oz.cells ⟨o.x, ⟨qa, ca, qb, cb, qc, cc⟩⟩ from rfl)) <| KO.loudN rfl (l_storeAll ck_62 rfl rfl ⟨rfl, rfl⟩ (oz_one _) tP) ?_
          rintro _ _ ⟨rfl, rfl⟩
          refine KO.done ?_
          refine K.ret (fn := Tryz.f216) Tryz.func216 (fun a w hk hs => resC Tryz.results216 hk rfl ck_62 rfl (cells_pv tM w hs)) (fun w hs => ?_)
          exact ⟨_, ObO ⟨o.x, ⟨qa, ca, qb, cb, qc, cc⟩⟩, rfl, ⟨⟨qa, ca, qb, cb, qc, cc⟩, rfl, rfl, ha, hb, hc⟩, hs.fitD⟩
      · rintro _ _ ⟨rfl, rfl⟩
        refine dq1 4 rfl (OpQ.loud (q_load1D ck_60 rfl)) (.inl tK) ?_
        rintro _ _ ⟨rfl, rfl⟩
        refine dq 9 rfl (q_field fo_62_3 rfl) <| dq1 5 rfl (OpL.callD rfl (h := clone_msg (RowF Kd.msg o.z.q2 o.x.msgs) o.z.q2 o.z.c2 o.x.msgs isF hl2)) (.inr (by rintro _ _ ⟨_, ⟨qb, cb, rfl, rfl, hb⟩, rfl⟩ w h; exact h.subD)) ?_
        rintro _ _ ⟨_, ⟨qb, cb, rfl, rfl, hb⟩, rfl⟩
        refine dq1 8 rfl (OpL.callD rfl (h := clone_msg (RowF Kd.msg o.z.q3 o.x.dead) o.z.q3 o.z.c3 o.x.dead isF hl3)) (.inr (by rintro _ _ ⟨_, ⟨qc, cc, rfl, rfl, hc⟩, rfl⟩ w h; exact h.subD)) ?_
        rintro _ _ ⟨_, ⟨qc, cc, rfl, rfl, hc⟩, rfl⟩
        refine dq1N 10 rfl (l_store1 ck_59 rfl rfl rfl tP tA) (.inl tK) ?_
        rintro _ _ ⟨rfl, rfl⟩
        refine dq 11 rfl (q_field fo_62_4 rfl) <| dq1N 12 rfl (l_store1 ck_60 rfl rfl rfl tP tA) (.inl tK) ?_
        rintro _ _ ⟨rfl, rfl⟩
        refine dq 13 rfl (q_field fo_62_5 rfl) <| dq1N 14 rfl (l_store1 ck_60 rfl rfl rfl tP tA) (.inl tK) ?_
        rintro _ _ ⟨rfl, rfl⟩
        refine D.done tK <| K.seq <| K.region <| KO.q rfl (q_as (q_loadN ck_62 rfl rfl tC) (show _ = Oz.cells ⟨o.x, ⟨qa, ca, qb, cb, qc, cc⟩⟩ from rfl)) <| KO.loudN rfl (l_storeAll ck_62 rfl rfl ⟨rfl, rfl⟩ (oz_one _) tP) ?_
        rintro _ _ ⟨rfl, rfl⟩
        refine KO.done ?_
        refine K.ret (fn := Tryz.f216) Tryz.func216 (fun a w hk hs => resC Tryz.results216 hk rfl ck_62 rfl (cells_pv tM w hs)) (fun w hs => ?_)
        exact ⟨_, ObO ⟨o.x, ⟨qa, ca, qb, cb, qc, cc⟩⟩, rfl, ⟨⟨qa, ca, qb, cb, qc, cc⟩, rfl, rfl, ha, hb, hc⟩, hs.fitD⟩
    · rintro _ _ ⟨rfl, rfl⟩
      refine D.all (rs := [2, 7]) tK rfl (DAll.cons rfl tK (OpL.callD rfl (h := clone_rw (RowF Kd.rw o.z.q1 o.x.rows) o.z.q1 o.z.c1 o.x.rows isF hl1)) (.inr (by rintro _ _ ⟨_, ⟨qa, ca, rfl, rfl, ha⟩, rfl⟩ w h; exact h.subD)) rfl ?_ (DAll.cons rfl tK (OpQ.loud (q_load1D ck_60 rfl)) (.inl tK) rfl ?_ DAll.nil))
      · rintro _ _ ⟨_, ⟨qa, ca, rfl, rfl, ha⟩, rfl⟩
        refine D.all (rs := [5, 7]) tK rfl (DAll.cons rfl tK (OpL.callD rfl (h := clone_msg (RowF Kd.msg o.z.q2 o.x.msgs) o.z.q2 o.z.c2 o.x.msgs isF hl2)) (.inr (by rintro _ _ ⟨_, ⟨qb, cb, rfl, rfl, hb⟩, rfl⟩ w h; exact h.subD)) rfl ?_ (DAll.cons rfl tK (OpQ.loud (q_load1D ck_60 rfl)) (.inl tK) rfl ?_ DAll.nil))
        · rintro _ _ ⟨_, ⟨qb, cb, rfl, rfl, hb⟩, rfl⟩
          refine dq1 7 rfl (OpQ.loud (q_load1D ck_60 rfl)) (.inl tK) ?_
          rintro _ _ ⟨rfl, rfl⟩
          refine dq 9 rfl (q_field fo_62_3 rfl) <| dq1 8 rfl (OpL.callD rfl (h := clone_msg (RowF Kd.msg o.z.q3 o.x.dead) o.z.q3 o.z.c3 o.x.dead isF hl3)) (.inr (by rintro _ _ ⟨_, ⟨qc, cc, rfl, rfl, hc⟩, rfl⟩ w h; exact h.subD)) ?_
          rintro _ _ ⟨_, ⟨qc, cc, rfl, rfl, hc⟩, rfl⟩
          refine dq1N 10 rfl (l_store1 ck_59 rfl rfl rfl tP tA) (.inl tK) ?_
          rintro _ _ ⟨rfl, rfl⟩
          refine dq 11 rfl (q_field fo_62_4 rfl) <| dq1N 12 rfl (l_store1 ck_60 rfl rfl rfl tP tA) (.inl tK) ?_
          rintro _ _ ⟨rfl, rfl⟩
          refine dq 13 rfl (q_field fo_62_5 rfl) <| dq1N 14 rfl (l_store1 ck_60 rfl rfl rfl tP tA) (.inl tK) ?_
          rintro _ _ ⟨rfl, rfl⟩
          refine D.done tK <| K.seq <| K.region <| KO.q rfl (q_as (q_loadN ck_62 rfl rfl tC) (show _ = Oz.cells ⟨o.x, ⟨qa, ca, qb, cb, qc, cc⟩⟩ from rfl)) <| KO.loudN rfl (l_storeAll ck_62 rfl rfl ⟨rfl, rfl⟩ (oz_one _) tP) ?_
          rintro _ _ ⟨rfl, rfl⟩
          refine KO.done ?_
          refine K.ret (fn := Tryz.f216) Tryz.func216 (fun a w hk hs => resC Tryz.results216 hk rfl ck_62 rfl (cells_pv tM w hs)) (fun w hs => ?_)
          exact ⟨_, ObO ⟨o.x, ⟨qa, ca, qb, cb, qc, cc⟩⟩, rfl, ⟨⟨qa, ca, qb, cb, qc, cc⟩, rfl, rfl, ha, hb, hc⟩, hs.fitD⟩
        · rintro _ _ ⟨rfl, rfl⟩
          refine dq 9 rfl (q_field fo_62_3 rfl) <| dq1 5 rfl (OpL.callD rfl (h := clone_msg (RowF Kd.msg o.z.q2 o.x.msgs) o.z.q2 o.z.c2 o.x.msgs isF hl2)) (.inr (by rintro _ _ ⟨_, ⟨qb, cb, rfl, rfl, hb⟩, rfl⟩ w h; exact h.subD)) ?_
          rintro _ _ ⟨_, ⟨qb, cb, rfl, rfl, hb⟩, rfl⟩
          refine dq1 8 rfl (OpL.callD rfl (h := clone_msg (RowF Kd.msg o.z.q3 o.x.dead) o.z.q3 o.z.c3 o.x.dead isF hl3)) (.inr (by rintro _ _ ⟨_, ⟨qc, cc, rfl, rfl, hc⟩, rfl⟩ w h; exact h.subD)) ?_
          rintro _ _ ⟨_, ⟨qc, cc, rfl, rfl, hc⟩, rfl⟩
          refine dq1N 10 rfl (l_store1 ck_59 rfl rfl rfl tP tA) (.inl tK) ?_
          rintro _ _ ⟨rfl, rfl⟩
          refine dq 11 rfl (q_field fo_62_4 rfl) <| dq1N 12 rfl (l_store1 ck_60 rfl rfl rfl tP tA) (.inl tK) ?_
          rintro _ _ ⟨rfl, rfl⟩
          refine dq 13 rfl (q_field fo_62_5 rfl) <| dq1N 14 rfl (l_store1 ck_60 rfl rfl rfl tP tA) (.inl tK) ?_
          rintro _ _ ⟨rfl, rfl⟩
          refine D.done tK <| K.seq <| K.region <| KO.q rfl (q_as (q_loadN ck_62 rfl rfl tC) (show _ = Oz.cells ⟨o.x, ⟨qa, ca, qb, cb, qc, cc⟩⟩ from rfl)) <| KO.loudN rfl (l_storeAll ck_62 rfl rfl ⟨rfl, rfl⟩ (oz_one _) tP) ?_
          rintro _ _ ⟨rfl, rfl⟩
          refine KO.done ?_
          refine K.ret (fn := Tryz.f216) Tryz.func216 (fun a w hk hs => resC Tryz.results216 hk rfl ck_62 rfl (cells_pv tM w hs)) (fun w hs => ?_)
          exact ⟨_, ObO ⟨o.x, ⟨qa, ca, qb, cb, qc, cc⟩⟩, rfl, ⟨⟨qa, ca, qb, cb, qc, cc⟩, rfl, rfl, ha, hb, hc⟩, hs.fitD⟩
      · rintro _ _ ⟨rfl, rfl⟩
        refine dq1 2 rfl (OpL.callD rfl (h := clone_rw (RowF Kd.rw o.z.q1 o.x.rows) o.z.q1 o.z.c1 o.x.rows isF hl1)) (.inl tK) ?_
        rintro _ _ ⟨_, ⟨qa, ca, rfl, rfl, ha⟩, rfl⟩
        refine dq 9 rfl (q_field fo_62_3 rfl) <| dq1 5 rfl (OpL.callD rfl (h := clone_msg (RowF Kd.msg o.z.q2 o.x.msgs) o.z.q2 o.z.c2 o.x.msgs isF hl2)) (.inr (by rintro _ _ ⟨_, ⟨qb, cb, rfl, rfl, hb⟩, rfl⟩ w h; exact h.subD)) ?_
        rintro _ _ ⟨_, ⟨qb, cb, rfl, rfl, hb⟩, rfl⟩
        refine dq1 8 rfl (OpL.callD rfl (h := clone_msg (RowF Kd.msg o.z.q3 o.x.dead) o.z.q3 o.z.c3 o.x.dead isF hl3)) (.inr (by rintro _ _ ⟨_, ⟨qc, cc, rfl, rfl, hc⟩, rfl⟩ w h; exact h.subD)) ?_
        rintro _ _ ⟨_, ⟨qc, cc, rfl, rfl, hc⟩, rfl⟩
        refine dq1N 10 rfl (l_store1 ck_59 rfl rfl rfl tP tA) (.inl tK) ?_
        rintro _ _ ⟨rfl, rfl⟩
        refine dq 11 rfl (q_field fo_62_4 rfl) <| dq1N 12 rfl (l_store1 ck_60 rfl rfl rfl tP tA) (.inl tK) ?_
        rintro _ _ ⟨rfl, rfl⟩
        refine dq 13 rfl (q_field fo_62_5 rfl) <| dq1N 14 rfl (l_store1 ck_60 rfl rfl rfl tP tA) (.inl tK) ?_
        rintro _ _ ⟨rfl, rfl⟩
        refine D.done tK <| K.seq <| K.region <| KO.q rfl (q_as (q_loadN ck_62 rfl rfl tC) (show _ = Oz.cells ⟨o.x, ⟨qa, ca, qb, cb, qc, cc⟩⟩ from rfl)) <| KO.loudN rfl (l_storeAll ck_62 rfl rfl ⟨rfl, rfl⟩ (oz_one _) tP) ?_
        rintro _ _ ⟨rfl, rfl⟩
        refine KO.done ?_
        refine K.ret (fn := Tryz.f216) Tryz.func216 (fun a w hk hs => resC Tryz.results216 hk rfl ck_62 rfl (cells_pv tM w hs)) (fun w hs => ?_)
        exact ⟨_, ObO ⟨o.x, ⟨qa, ca, qb, cb, qc, cc⟩⟩, rfl, ⟨⟨qa, ca, qb, cb, qc, cc⟩, rfl, rfl, ha, hb, hc⟩, hs.fitD⟩
    · rintro _ _ ⟨rfl, rfl⟩
      refine D.all (rs := [2, 4]) tK rfl (DAll.cons rfl tK (OpL.callD rfl (h := clone_rw (RowF Kd.rw o.z.q1 o.x.rows) o.z.q1 o.z.c1 o.x.rows isF hl1)) (.inr (by rintro _ _ ⟨_, ⟨qa, ca, rfl, rfl, ha⟩, rfl⟩ w h; exact h.subD)) rfl ?_ (DAll.cons rfl tK (OpQ.loud (q_load1D ck_60 rfl)) (.inl tK) rfl ?_ DAll.nil))
      · rintro _ _ ⟨_, ⟨qa, ca, rfl, rfl, ha⟩, rfl⟩
        refine dq1 4 rfl (OpQ.loud (q_load1D ck_60 rfl)) (.inl tK) ?_
        rintro _ _ ⟨rfl, rfl⟩
        refine dq 9 rfl (q_field fo_62_3 rfl) <| dq1 5 rfl (OpL.callD rfl (h := clone_msg (RowF Kd.msg o.z.q2 o.x.msgs) o.z.q2 o.z.c2 o.x.msgs isF hl2)) (.inr (by rintro _ _ ⟨_, ⟨qb, cb, rfl, rfl, hb⟩, rfl⟩ w h; exact h.subD)) ?_
        rintro _ _ ⟨_, ⟨qb, cb, rfl, rfl, hb⟩, rfl⟩
        refine dq1 8 rfl (OpL.callD rfl (h := clone_msg (RowF Kd.msg o.z.q3 o.x.dead) o.z.q3 o.z.c3 o.x.dead isF hl3)) (.inr (by rintro _ _ ⟨_, ⟨qc, cc, rfl, rfl, hc⟩, rfl⟩ w h; exact h.subD)) ?_
        rintro _ _ ⟨_, ⟨qc, cc, rfl, rfl, hc⟩, rfl⟩
        refine dq1N 10 rfl (l_store1 ck_59 rfl rfl rfl tP tA) (.inl tK) ?_
        rintro _ _ ⟨rfl, rfl⟩
        refine dq 11 rfl (q_field fo_62_4 rfl) <| dq1N 12 rfl (l_store1 ck_60 rfl rfl rfl tP tA) (.inl tK) ?_
        rintro _ _ ⟨rfl, rfl⟩
        refine dq 13 rfl (q_field fo_62_5 rfl) <| dq1N 14 rfl (l_store1 ck_60 rfl rfl rfl tP tA) (.inl tK) ?_
        rintro _ _ ⟨rfl, rfl⟩
        refine D.done tK <| K.seq <| K.region <| KO.q rfl (q_as (q_loadN ck_62 rfl rfl tC) (show _ = Oz.cells ⟨o.x, ⟨qa, ca, qb, cb, qc, cc⟩⟩ from rfl)) <| KO.loudN rfl (l_storeAll ck_62 rfl rfl ⟨rfl, rfl⟩ (oz_one _) tP) ?_
        rintro _ _ ⟨rfl, rfl⟩
        refine KO.done ?_
        refine K.ret (fn := Tryz.f216) Tryz.func216 (fun a w hk hs => resC Tryz.results216 hk rfl ck_62 rfl (cells_pv tM w hs)) (fun w hs => ?_)
        exact ⟨_, ObO ⟨o.x, ⟨qa, ca, qb, cb, qc, cc⟩⟩, rfl, ⟨⟨qa, ca, qb, cb, qc, cc⟩, rfl, rfl, ha, hb, hc⟩, hs.fitD⟩
      · rintro _ _ ⟨rfl, rfl⟩
        refine dq1 2 rfl (OpL.callD rfl (h := clone_rw (RowF Kd.rw o.z.q1 o.x.rows) o.z.q1 o.z.c1 o.x.rows isF hl1)) (.inl tK) ?_
        rintro _ _ ⟨_, ⟨qa, ca, rfl, rfl, ha⟩, rfl⟩
        refine dq 9 rfl (q_field fo_62_3 rfl) <| dq1 5 rfl (OpL.callD rfl (h := clone_msg (RowF Kd.msg o.z.q2 o.x.msgs) o.z.q2 o.z.c2 o.x.msgs isF hl2)) (.inr (by rintro _ _ ⟨_, ⟨qb, cb, rfl, rfl, hb⟩, rfl⟩ w h; exact h.subD)) ?_
        rintro _ _ ⟨_, ⟨qb, cb, rfl, rfl, hb⟩, rfl⟩
        refine dq1 8 rfl (OpL.callD rfl (h := clone_msg (RowF Kd.msg o.z.q3 o.x.dead) o.z.q3 o.z.c3 o.x.dead isF hl3)) (.inr (by rintro _ _ ⟨_, ⟨qc, cc, rfl, rfl, hc⟩, rfl⟩ w h; exact h.subD)) ?_
        rintro _ _ ⟨_, ⟨qc, cc, rfl, rfl, hc⟩, rfl⟩
        refine dq1N 10 rfl (l_store1 ck_59 rfl rfl rfl tP tA) (.inl tK) ?_
        rintro _ _ ⟨rfl, rfl⟩
        refine dq 11 rfl (q_field fo_62_4 rfl) <| dq1N 12 rfl (l_store1 ck_60 rfl rfl rfl tP tA) (.inl tK) ?_
        rintro _ _ ⟨rfl, rfl⟩
        refine dq 13 rfl (q_field fo_62_5 rfl) <| dq1N 14 rfl (l_store1 ck_60 rfl rfl rfl tP tA) (.inl tK) ?_
        rintro _ _ ⟨rfl, rfl⟩
        refine D.done tK <| K.seq <| K.region <| KO.q rfl (q_as (q_loadN ck_62 rfl rfl tC) (show _ = Oz.cells ⟨o.x, ⟨qa, ca, qb, cb, qc, cc⟩⟩ from rfl)) <| KO.loudN rfl (l_storeAll ck_62 rfl rfl ⟨rfl, rfl⟩ (oz_one _) tP) ?_
        rintro _ _ ⟨rfl, rfl⟩
        refine KO.done ?_
        refine K.ret (fn := Tryz.f216) Tryz.func216 (fun a w hk hs => resC Tryz.results216 hk rfl ck_62 rfl (cells_pv tM w hs)) (fun w hs => ?_)
        exact ⟨_, ObO ⟨o.x, ⟨qa, ca, qb, cb, qc, cc⟩⟩, rfl, ⟨⟨qa, ca, qb, cb, qc, cc⟩, rfl, rfl, ha, hb, hc⟩, hs.fitD⟩
  · rintro _ _ ⟨rfl, rfl⟩
    refine D.all (rs := [1, 7]) tK rfl (DAll.cons rfl tK (OpQ.loud (q_load1D ck_59 rfl)) (.inr (by rintro _ _ ⟨rfl, rfl⟩ w h; exact h.subD)) rfl ?_ (DAll.cons rfl tK (OpQ.loud (q_load1D ck_60 rfl)) (.inr (by rintro _ _ ⟨rfl, rfl⟩ w h; exact h.subD)) rfl ?_ DAll.nil))
    · rintro _ _ ⟨rfl, rfl⟩
      refine D.all (rs := [2, 7]) tK rfl (DAll.cons rfl tK (OpL.callD rfl (h := clone_rw (RowF Kd.rw o.z.q1 o.x.rows) o.z.q1 o.z.c1 o.x.rows isF hl1)) (.inr (by rintro _ _ ⟨_, ⟨qa, ca, rfl, rfl, ha⟩, rfl⟩ w h; exact h.subD)) rfl ?_ (DAll.cons rfl tK (OpQ.loud (q_load1D ck_60 rfl)) (.inl tK) rfl ?_ DAll.nil))
      · rintro _ _ ⟨_, ⟨qa, ca, rfl, rfl, ha⟩, rfl⟩
        refine D.all (rs := [5, 7]) tK rfl (DAll.cons rfl tK (OpL.callD rfl (h := clone_msg (RowF Kd.msg o.z.q2 o.x.msgs) o.z.q2 o.z.c2 o.x.msgs isF hl2)) (.inr (by rintro _ _ ⟨_, ⟨qb, cb, rfl, rfl, hb⟩, rfl⟩ w h; exact h.subD)) rfl ?_ (DAll.cons rfl tK (OpQ.loud (q_load1D ck_60 rfl)) (.inl tK) rfl ?_ DAll.nil))
        · rintro _ _ ⟨_, ⟨qb, cb, rfl, rfl, hb⟩, rfl⟩
          refine dq1 7 rfl (OpQ.loud (q_load1D ck_60 rfl)) (.inl tK) ?_
          rintro _ _ ⟨rfl, rfl⟩
          refine dq 9 rfl (q_field fo_62_3 rfl) <| dq1 8 rfl (OpL.callD rfl (h := clone_msg (RowF Kd.msg o.z.q3 o.x.dead) o.z.q3 o.z.c3 o.x.dead isF hl3)) (.inr (by rintro _ _ ⟨_, ⟨qc, cc, rfl, rfl, hc⟩, rfl⟩ w h; exact h.subD)) ?_
          rintro _ _ ⟨_, ⟨qc, cc, rfl, rfl, hc⟩, rfl⟩
          refine dq1N 10 rfl (l_store1 ck_59 rfl rfl rfl tP tA) (.inl tK) ?_
          rintro _ _ ⟨rfl, rfl⟩
          refine dq 11 rfl (q_field fo_62_4 rfl) <| dq1N 12 rfl (l_store1 ck_60 rfl rfl rfl tP tA) (.inl tK) ?_
          rintro _ _ ⟨rfl, rfl⟩
          refine dq 13 rfl (q_field fo_62_5 rfl) <| dq1N 14 rfl (l_store1 ck_60 rfl rfl rfl tP tA) (.inl tK) ?_
          rintro _ _ ⟨rfl, rfl⟩
          refine D.done tK <| K.seq <| K.region <| KO.q rfl (q_as (q_loadN ck_62 rfl rfl tC) (show _ = Oz.cells ⟨o.x, ⟨qa, ca, qb, cb, qc, cc⟩⟩ from rfl)) <| KO.loudN rfl (l_storeAll ck_62 rfl rfl ⟨rfl, rfl⟩ (oz_one _) tP) ?_
          rintro _ _ ⟨rfl, rfl⟩
          refine KO.done ?_
          refine K.ret (fn := Tryz.f216) Tryz.func216 (fun a w hk hs => resC Tryz.results216 hk rfl ck_62 rfl (cells_pv tM w hs)) (fun w hs => ?_)
          exact ⟨_, ObO ⟨o.x, ⟨qa, ca, qb, cb, qc, cc⟩⟩, rfl, ⟨⟨qa, ca, qb, cb, qc, cc⟩, rfl, rfl, ha, hb, hc⟩, hs.fitD⟩
        · rintro _ _ ⟨rfl, rfl⟩
          refine dq 9 rfl (q_field fo_62_3 rfl) <| dq1 5 rfl (OpL.callD rfl (h := clone_msg (RowF Kd.msg o.z.q2 o.x.msgs) o.z.q2 o.z.c2 o.x.msgs isF hl2)) (.inr (by rintro _ _ ⟨_, ⟨qb, cb, rfl, rfl, hb⟩, rfl⟩ w h; exact h.subD)) ?_
          rintro _ _ ⟨_, ⟨qb, cb, rfl, rfl, hb⟩, rfl⟩
          refine dq1 8 rfl (OpL.callD rfl (h := clone_msg (RowF Kd.msg o.z.q3 o.x.dead) o.z.q3 o.z.c3 o.x.dead isF hl3)) (.inr (by rintro _ _ ⟨_, ⟨qc, cc, rfl, rfl, hc⟩, rfl⟩ w h; exact h.subD)) ?_
          rintro _ _ ⟨_, ⟨qc, cc, rfl, rfl, hc⟩, rfl⟩
          refine dq1N 10 rfl (l_store1 ck_59 rfl rfl rfl tP tA) (.inl tK) ?_
          rintro _ _ ⟨rfl, rfl⟩
          refine dq 11 rfl (q_field fo_62_4 rfl) <| dq1N 12 rfl (l_store1 ck_60 rfl rfl rfl tP tA) (.inl tK) ?_
          rintro _ _ ⟨rfl, rfl⟩
          refine dq 13 rfl (q_field fo_62_5 rfl) <| dq1N 14 rfl (l_store1 ck_60 rfl rfl rfl tP tA) (.inl tK) ?_
          rintro _ _ ⟨rfl, rfl⟩
          refine D.done tK <| K.seq <| K.region <| KO.q rfl (q_as (q_loadN ck_62 rfl rfl tC) (show _ = Oz.cells ⟨o.x, ⟨qa, ca, qb, cb, qc, cc⟩⟩ from rfl)) <| KO.loudN rfl (l_storeAll ck_62 rfl rfl ⟨rfl, rfl⟩ (oz_one _) tP) ?_
          rintro _ _ ⟨rfl, rfl⟩
          refine KO.done ?_
          refine K.ret (fn := Tryz.f216) Tryz.func216 (fun a w hk hs => resC Tryz.results216 hk rfl ck_62 rfl (cells_pv tM w hs)) (fun w hs => ?_)
          exact ⟨_, ObO ⟨o.x, ⟨qa, ca, qb, cb, qc, cc⟩⟩, rfl, ⟨⟨qa, ca, qb, cb, qc, cc⟩, rfl, rfl, ha, hb, hc⟩, hs.fitD⟩
      · rintro _ _ ⟨rfl, rfl⟩
        refine dq1 2 rfl (OpL.callD rfl (h := clone_rw (RowF Kd.rw o.z.q1 o.x.rows) o.z.q1 o.z.c1 o.x.rows isF hl1)) (.inl tK) ?_
        rintro _ _ ⟨_, ⟨qa, ca, rfl, rfl, ha⟩, rfl⟩
        refine dq 9 rfl (q_field fo_62_3 rfl) <| dq1 5 rfl (OpL.callD rfl (h := clone_msg (RowF Kd.msg o.z.q2 o.x.msgs) o.z.q2 o.z.c2 o.x.msgs isF hl2)) (.inr (by rintro _ _ ⟨_, ⟨qb, cb, rfl, rfl, hb⟩, rfl⟩ w h; exact h.subD)) ?_
        rintro _ _ ⟨_, ⟨qb, cb, rfl, rfl, hb⟩, rfl⟩
        refine dq1 8 rfl (OpL.callD rfl (h := clone_msg (RowF Kd.msg o.z.q3 o.x.dead) o.z.q3 o.z.c3 o.x.dead isF hl3)) (.inr (by rintro _ _ ⟨_, ⟨qc, cc, rfl, rfl, hc⟩, rfl⟩ w h; exact h.subD)) ?_
        rintro _ _ ⟨_, ⟨qc, cc, rfl, rfl, hc⟩, rfl⟩
        refine dq1N 10 rfl (l_store1 ck_59 rfl rfl rfl tP tA) (.inl tK) ?_
        rintro _ _ ⟨rfl, rfl⟩
        refine dq 11 rfl (q_field fo_62_4 rfl) <| dq1N 12 rfl (l_store1 ck_60 rfl rfl rfl tP tA) (.inl tK) ?_
        rintro _ _ ⟨rfl, rfl⟩
        refine dq 13 rfl (q_field fo_62_5 rfl) <| dq1N 14 rfl (l_store1 ck_60 rfl rfl rfl tP tA) (.inl tK) ?_
        rintro _ _ ⟨rfl, rfl⟩
        refine D.done tK <| K.seq <| K.region <| KO.q rfl (q_as (q_loadN ck_62 rfl rfl tC) (show _ = Oz.cells ⟨o.x, ⟨qa, ca, qb, cb, qc, cc⟩⟩ from rfl)) <| KO.loudN rfl (l_storeAll ck_62 rfl rfl ⟨rfl, rfl⟩ (oz_one _) tP) ?_
        rintro _ _ ⟨rfl, rfl⟩
        refine KO.done ?_
        refine K.ret (fn := Tryz.f216) Tryz.func216 (fun a w hk hs => resC Tryz.results216 hk rfl ck_62 rfl (cells_pv tM w hs)) (fun w hs => ?_)
        exact ⟨_, ObO ⟨o.x, ⟨qa, ca, qb, cb, qc, cc⟩⟩, rfl, ⟨⟨qa, ca, qb, cb, qc, cc⟩, rfl, rfl, ha, hb, hc⟩, hs.fitD⟩
    · rintro _ _ ⟨rfl, rfl⟩
      refine dq1 1 rfl (OpQ.loud (q_load1D ck_59 rfl)) (.inl tK) ?_
      rintro _ _ ⟨rfl, rfl⟩
      refine dq1 2 rfl (OpL.callD rfl (h := clone_rw (RowF Kd.rw o.z.q1 o.x.rows) o.z.q1 o.z.c1 o.x.rows isF hl1)) (.inl tK) ?_
      rintro _ _ ⟨_, ⟨qa, ca, rfl, rfl, ha⟩, rfl⟩
      refine dq 9 rfl (q_field fo_62_3 rfl) <| dq1 5 rfl (OpL.callD rfl (h := clone_msg (RowF Kd.msg o.z.q2 o.x.msgs) o.z.q2 o.z.c2 o.x.msgs isF hl2)) (.inr (by rintro _ _ ⟨_, ⟨qb, cb, rfl, rfl, hb⟩, rfl⟩ w h; exact h.subD)) ?_
      rintro _ _ ⟨_, ⟨qb, cb, rfl, rfl, hb⟩, rfl⟩
      refine dq1 8 rfl (OpL.callD rfl (h := clone_msg (RowF Kd.msg o.z.q3 o.x.dead) o.z.q3 o.z.c3 o.x.dead isF hl3)) (.inr (by rintro _ _ ⟨_, ⟨qc, cc, rfl, rfl, hc⟩, rfl⟩ w h; exact h.subD)) ?_
      rintro _ _ ⟨_, ⟨qc, cc, rfl, rfl, hc⟩, rfl⟩
      refine dq1N 10 rfl (l_store1 ck_59 rfl rfl rfl tP tA) (.inl tK) ?_
      rintro _ _ ⟨rfl, rfl⟩
      refine dq 11 rfl (q_field fo_62_4 rfl) <| dq1N 12 rfl (l_store1 ck_60 rfl rfl rfl tP tA) (.inl tK) ?_
      rintro _ _ ⟨rfl, rfl⟩
      refine dq 13 rfl (q_field fo_62_5 rfl) <| dq1N 14 rfl (l_store1 ck_60 rfl rfl rfl tP tA) (.inl tK) ?_
      rintro _ _ ⟨rfl, rfl⟩
      refine D.done tK <| K.seq <| K.region <| KO.q rfl (q_as (q_loadN ck_62 rfl rfl tC) (show _ = Oz.cells ⟨o.x, ⟨qa, ca, qb, cb, qc, cc⟩⟩ from rfl)) <| KO.loudN rfl (l_storeAll ck_62 rfl rfl ⟨rfl, rfl⟩ (oz_one _) tP) ?_
      rintro _ _ ⟨rfl, rfl⟩
      refine KO.done ?_
      refine K.ret (fn := Tryz.f216) Tryz.func216 (fun a w hk hs => resC Tryz.results216 hk rfl ck_62 rfl (cells_pv tM w hs)) (fun w hs => ?_)
      exact ⟨_, ObO ⟨o.x, ⟨qa, ca, qb, cb, qc, cc⟩⟩, rfl, ⟨⟨qa, ca, qb, cb, qc, cc⟩, rfl, rfl, ha, hb, hc⟩, hs.fitD⟩
  · rintro _ _ ⟨rfl, rfl⟩
    refine D.all (rs := [1, 4]) tK rfl (DAll.cons rfl tK (OpQ.loud (q_load1D ck_59 rfl)) (.inr (by rintro _ _ ⟨rfl, rfl⟩ w h; exact h.subD)) rfl ?_ (DAll.cons rfl tK (OpQ.loud (q_load1D ck_60 rfl)) (.inr (by rintro _ _ ⟨rfl, rfl⟩ w h; exact h.subD)) rfl ?_ DAll.nil))
    · rintro _ _ ⟨rfl, rfl⟩
      refine D.all (rs := [2, 4]) tK rfl (DAll.cons rfl tK (OpL.callD rfl (h := clone_rw (RowF Kd.rw o.z.q1 o.x.rows) o.z.q1 o.z.c1 o.x.rows isF hl1)) (.inr (by rintro _ _ ⟨_, ⟨qa, ca, rfl, rfl, ha⟩, rfl⟩ w h; exact h.subD)) rfl ?_ (DAll.cons rfl tK (OpQ.loud (q_load1D ck_60 rfl)) (.inl tK) rfl ?_ DAll.nil))
      · rintro _ _ ⟨_, ⟨qa, ca, rfl, rfl, ha⟩, rfl⟩
        refine dq1 4 rfl (OpQ.loud (q_load1D ck_60 rfl)) (.inl tK) ?_
        rintro _ _ ⟨rfl, rfl⟩
        refine dq 9 rfl (q_field fo_62_3 rfl) <| dq1 5 rfl (OpL.callD rfl (h := clone_msg (RowF Kd.msg o.z.q2 o.x.msgs) o.z.q2 o.z.c2 o.x.msgs isF hl2)) (.inr (by rintro _ _ ⟨_, ⟨qb, cb, rfl, rfl, hb⟩, rfl⟩ w h; exact h.subD)) ?_
        rintro _ _ ⟨_, ⟨qb, cb, rfl, rfl, hb⟩, rfl⟩
        refine dq1 8 rfl (OpL.callD rfl (h := clone_msg (RowF Kd.msg o.z.q3 o.x.dead) o.z.q3 o.z.c3 o.x.dead isF hl3)) (.inr (by rintro _ _ ⟨_, ⟨qc, cc, rfl, rfl, hc⟩, rfl⟩ w h; exact h.subD)) ?_
        rintro _ _ ⟨_, ⟨qc, cc, rfl, rfl, hc⟩, rfl⟩
        refine dq1N 10 rfl (l_store1 ck_59 rfl rfl rfl tP tA) (.inl tK) ?_
        rintro _ _ ⟨rfl, rfl⟩
        refine dq 11 rfl (q_field fo_62_4 rfl) <| dq1N 12 rfl (l_store1 ck_60 rfl rfl rfl tP tA) (.inl tK) ?_
        rintro _ _ ⟨rfl, rfl⟩
        refine dq 13 rfl (q_field fo_62_5 rfl) <| dq1N 14 rfl (l_store1 ck_60 rfl rfl rfl tP tA) (.inl tK) ?_
        rintro _ _ ⟨rfl, rfl⟩
        refine D.done tK <| K.seq <| K.region <| KO.q rfl (q_as (q_loadN ck_62 rfl rfl tC) (show _ = Oz.cells ⟨o.x, ⟨qa, ca, qb, cb, qc, cc⟩⟩ from rfl)) <| KO.loudN rfl (l_storeAll ck_62 rfl rfl ⟨rfl, rfl⟩ (oz_one _) tP) ?_
        rintro _ _ ⟨rfl, rfl⟩
        refine KO.done ?_
        refine K.ret (fn := Tryz.f216) Tryz.func216 (fun a w hk hs => resC Tryz.results216 hk rfl ck_62 rfl (cells_pv tM w hs)) (fun w hs => ?_)
        exact ⟨_, ObO ⟨o.x, ⟨qa, ca, qb, cb, qc, cc⟩⟩, rfl, ⟨⟨qa, ca, qb, cb, qc, cc⟩, rfl, rfl, ha, hb, hc⟩, hs.fitD⟩
      · rintro _ _ ⟨rfl, rfl⟩
        refine dq1 2 rfl (OpL.callD rfl (h := clone_rw (RowF Kd.rw o.z.q1 o.x.rows) o.z.q1 o.z.c1 o.x.rows isF hl1)) (.inl tK) ?_
        rintro _ _ ⟨_, ⟨qa, ca, rfl, rfl, ha⟩, rfl⟩
        refine dq 9 rfl (q_field fo_62_3 rfl) <| dq1 5 rfl (OpL.callD rfl (h := clone_msg (RowF Kd.msg o.z.q2 o.x.msgs) o.z.q2 o.z.c2 o.x.msgs isF hl2)) (.inr (by rintro _ _ ⟨_, ⟨qb, cb, rfl, rfl, hb⟩, rfl⟩ w h; exact h.subD)) ?_
        rintro _ _ ⟨_, ⟨qb, cb, rfl, rfl, hb⟩, rfl⟩
        refine dq1 8 rfl (OpL.callD rfl (h := clone_msg (RowF Kd.msg o.z.q3 o.x.dead) o.z.q3 o.z.c3 o.x.dead isF hl3)) (.inr (by rintro _ _ ⟨_, ⟨qc, cc, rfl, rfl, hc⟩, rfl⟩ w h; exact h.subD)) ?_
        rintro _ _ ⟨_, ⟨qc, cc, rfl, rfl, hc⟩, rfl⟩
        refine dq1N 10 rfl (l_store1 ck_59 rfl rfl rfl tP tA) (.inl tK) ?_
        rintro _ _ ⟨rfl, rfl⟩
        refine dq 11 rfl (q_field fo_62_4 rfl) <| dq1N 12 rfl (l_store1 ck_60 rfl rfl rfl tP tA) (.inl tK) ?_
        rintro _ _ ⟨rfl, rfl⟩
        refine dq 13 rfl (q_field fo_62_5 rfl) <| dq1N 14 rfl (l_store1 ck_60 rfl rfl rfl tP tA) (.inl tK) ?_
        rintro _ _ ⟨rfl, rfl⟩
        refine D.done tK <| K.seq <| K.region <| KO.q rfl (q_as (q_loadN ck_62 rfl rfl tC) (show _ = Oz.cells ⟨o.x, ⟨qa, ca, qb, cb, qc, cc⟩⟩ from rfl)) <| KO.loudN rfl (l_storeAll ck_62 rfl rfl ⟨rfl, rfl⟩ (oz_one _) tP) ?_
        rintro _ _ ⟨rfl, rfl⟩
        refine KO.done ?_
        refine K.ret (fn := Tryz.f216) Tryz.func216 (fun a w hk hs => resC Tryz.results216 hk rfl ck_62 rfl (cells_pv tM w hs)) (fun w hs => ?_)
        exact ⟨_, ObO ⟨o.x, ⟨qa, ca, qb, cb, qc, cc⟩⟩, rfl, ⟨⟨qa, ca, qb, cb, qc, cc⟩, rfl, rfl, ha, hb, hc⟩, hs.fitD⟩
    · rintro _ _ ⟨rfl, rfl⟩
      refine dq1 1 rfl (OpQ.loud (q_load1D ck_59 rfl)) (.inl tK) ?_
      rintro _ _ ⟨rfl, rfl⟩
      refine dq1 2 rfl (OpL.callD rfl (h := clone_rw (RowF Kd.rw o.z.q1 o.x.rows) o.z.q1 o.z.c1 o.x.rows isF hl1)) (.inl tK) ?_
      rintro _ _ ⟨_, ⟨qa, ca, rfl, rfl, ha⟩, rfl⟩
      refine dq 9 rfl (q_field fo_62_3 rfl) <| dq1 5 rfl (OpL.callD rfl (h := clone_msg (RowF Kd.msg o.z.q2 o.x.msgs) o.z.q2 o.z.c2 o.x.msgs isF hl2)) (.inr (by rintro _ _ ⟨_, ⟨qb, cb, rfl, rfl, hb⟩, rfl⟩ w h; exact h.subD)) ?_
      rintro _ _ ⟨_, ⟨qb, cb, rfl, rfl, hb⟩, rfl⟩
      refine dq1 8 rfl (OpL.callD rfl (h := clone_msg (RowF Kd.msg o.z.q3 o.x.dead) o.z.q3 o.z.c3 o.x.dead isF hl3)) (.inr (by rintro _ _ ⟨_, ⟨qc, cc, rfl, rfl, hc⟩, rfl⟩ w h; exact h.subD)) ?_
      rintro _ _ ⟨_, ⟨qc, cc, rfl, rfl, hc⟩, rfl⟩
      refine dq1N 10 rfl (l_store1 ck_59 rfl rfl rfl tP tA) (.inl tK) ?_
      rintro _ _ ⟨rfl, rfl⟩
      refine dq 11 rfl (q_field fo_62_4 rfl) <| dq1N 12 rfl (l_store1 ck_60 rfl rfl rfl tP tA) (.inl tK) ?_
      rintro _ _ ⟨rfl, rfl⟩
      refine dq 13 rfl (q_field fo_62_5 rfl) <| dq1N 14 rfl (l_store1 ck_60 rfl rfl rfl tP tA) (.inl tK) ?_
      rintro _ _ ⟨rfl, rfl⟩
      refine D.done tK <| K.seq <| K.region <| KO.q rfl (q_as (q_loadN ck_62 rfl rfl tC) (show _ = Oz.cells ⟨o.x, ⟨qa, ca, qb, cb, qc, cc⟩⟩ from rfl)) <| KO.loudN rfl (l_storeAll ck_62 rfl rfl ⟨rfl, rfl⟩ (oz_one _) tP) ?_
      rintro _ _ ⟨rfl, rfl⟩
      refine KO.done ?_
      refine K.ret (fn := Tryz.f216) Tryz.func216 (fun a w hk hs => resC Tryz.results216 hk rfl ck_62 rfl (cells_pv tM w hs)) (fun w hs => ?_)
      exact ⟨_, ObO ⟨o.x, ⟨qa, ca, qb, cb, qc, cc⟩⟩, rfl, ⟨⟨qa, ca, qb, cb, qc, cc⟩, rfl, rfl, ha, hb, hc⟩, hs.fitD⟩
theorem dd_Where (o : Oz) (id : Int) (hl : o.le 1000000000) : Fn Tryz.prog 226 [.agg o.cells.toArray, .int .i64 id].toArray (ObL o) (fun r post => r = .int .i64 (whereM o.x id) ∧ post = []) := by
  obtain ⟨hl1, hl2, hl3⟩ := hl
  refine Fn.enter (N := 17) Tryz.func226 rfl Tryz.ntmps226 tK rfl (fun ρ L => ?_)
  refine K.seq <| K.region <| KO.loud rfl (l_box rfl rfl) ?_
  rintro _ _ ⟨b2, rfl, rfl⟩
  refine KO.q rfl (q_assign rfl) <| KO.done <| K.seq <| K.block <| K.seq <| K.region <| KO.q rfl (q_field fo_62_4 rfl) <| KO.q rfl (q_load1D ck_60 rfl) <| KO.q rfl (q_move rfl) <| KO.loud rfl (OpL.callD rfl (h := qu_Find (RowF Kd.msg o.z.q2 o.x.msgs) o.z.q2 o.z.c2 o.x.msgs id isF hl2)) ?_
  rintro _ _ ⟨_, ⟨rfl, rfl⟩, rfl⟩
  refine KO.q rfl (q_ge rfl rfl) <| KO.q rfl (q_assign rfl) <| KO.done ?_
  refine K.dcond (s := 5) rfl (fun g5 => ?_) (fun g5 => ?_)
  · have hr : whereM o.x id = 1 := by unfold whereM; rw [if_pos g5]
    refine K.seq <| K.region <| KO.q rfl (q_assign rfl) <| KO.done ?_
    refine kr1 Tryz.func226 Tryz.results226 rfl (fun w hs => ?_)
    rw [hr]
    exact ⟨_, [], rfl, ⟨rfl, rfl⟩, hs.fitD⟩
  · refine K.seq <| K.region <| KO.q rfl (q_field fo_62_5 rfl) <| KO.q rfl (q_load1D ck_60 rfl) <| KO.q rfl (q_move rfl) <| KO.loud rfl (OpL.callD rfl (h := qu_Find (RowF Kd.msg o.z.q3 o.x.dead) o.z.q3 o.z.c3 o.x.dead id isF hl3)) ?_
    rintro _ _ ⟨_, ⟨rfl, rfl⟩, rfl⟩
    refine KO.q rfl (q_ge rfl rfl) <| KO.q rfl (q_assign rfl) <| KO.done ?_
    refine K.dcond (s := 11) rfl (fun g11 => ?_) (fun g11 => ?_)
    · have hr : whereM o.x id = 2 := by unfold whereM; rw [if_neg g5, if_pos g11]
      refine K.seq <| K.region <| KO.q rfl (q_assign rfl) <| KO.done ?_
      refine kr1 Tryz.func226 Tryz.results226 rfl (fun w hs => ?_)
      rw [hr]
      exact ⟨_, [], rfl, ⟨rfl, rfl⟩, hs.fitD⟩
    · have hr : whereM o.x id = 0 := by unfold whereM; rw [if_neg g5, if_neg g11]
      refine K.skip <| K.inBlock <| K.seq <| K.region <| KO.q rfl (q_assign rfl) <| KO.done ?_
      refine kr1 Tryz.func226 Tryz.results226 rfl (fun w hs => ?_)
      rw [hr]
      exact ⟨_, [], rfl, ⟨rfl, rfl⟩, hs.fitD⟩
set_option maxHeartbeats 3200000 in
theorem dd_Free (o : Oz) (id : Int) (tried : Bool) (hl : o.le 1000000000) (hs0 : ∀ m ∈ o.x.msgs, -9223372036854775808 ≤ m.retry) : Fn Tryz.prog 196 [.agg o.cells.toArray, .int .i64 id, .bool tried].toArray (ObL o) (fun r post => ∃ z, r = .tuple #[.agg (Oz.cells ⟨(freeO o.x id tried).1, z⟩).toArray, .bool (freeO o.x id tried).2] ∧ post = ObL ⟨(freeO o.x id tried).1, z⟩ ∧ Oz.cap ⟨(freeO o.x id tried).1, z⟩) := by
  have hl' := hl
  obtain ⟨hl1, hl2, hl3⟩ := hl
  refine Fn.enter (N := 68) Tryz.func196 rfl Tryz.ntmps196 tK rfl (fun ρ L => ?_)
  refine K.seq <| K.region <| KO.loud rfl (l_box rfl rfl) ?_
  rintro _ _ ⟨b3, rfl, rfl⟩
  refine KO.loud rfl (l_alloc zo_62) ?_
  rintro _ _ ⟨b6, rfl, rfl⟩
  refine KO.q rfl (q_assign rfl) <| KO.done <| K.seq <| K.region <| KO.q rfl (q_loadN ck_62 rfl rfl tC) <| KO.loud rfl (OpL.callD rfl (h := dd_clone o hl')) ?_
  rintro _ _ ⟨_, ⟨z, rfl, rfl, hcap⟩, rfl⟩
  refine KO.loudN rfl (l_storeAll ck_62 rfl rfl ⟨rfl, rfl⟩ (oz_one _) tP) ?_
  rintro _ _ ⟨rfl, rfl⟩
  refine KO.done <| K.seq ?_
  obtain ⟨qa, ca, qb, cb, qc, cc⟩ := z
  obtain ⟨ha, hb, hc⟩ := hcap
  have ha : o.x.rows.length ≤ ca := ha
  have hb : o.x.msgs.length ≤ cb := hb
  have hc : o.x.dead.length ≤ cc := hc
  refine K.region <| KO.q rfl (q_field fo_62_4 rfl) <| KO.q rfl (q_load1D ck_60 rfl) <| KO.q rfl (q_move rfl) <| KO.loud rfl (OpL.callD rfl (h := qu_Find (RowO Kd.msg 56 qb cb o.x.msgs) qb cb o.x.msgs id isO hl2)) ?_
  rintro _ _ ⟨_, ⟨rfl, rfl⟩, rfl⟩
  refine KO.q rfl (q_assign rfl) <| KO.done <| K.seq <| K.seq <| K.region <| KO.q rfl (q_move rfl) <| KO.q rfl (q_lt rfl rfl) <| KO.q rfl (q_move rfl) ?_
  refine KO.dsplit 19 rfl (fun g19 => ?_) (fun g19 => ?_)
  · have hr : freeO o.x id tried = (o.x, false) := by unfold freeO; rw [if_pos g19]
    refine KO.skip rfl <| KO.skip rfl <| KO.skip rfl <| KO.skip rfl <| KO.skip rfl <| KO.skip rfl <| KO.skip rfl <| KO.q rfl (q_pickT rfl rfl) <| KO.done <| K.yes rfl ?_
    refine K.seq <| K.region <| KO.q rfl (q_loadN ck_62 rfl rfl tC) <| KO.loudN rfl (l_storeAll ck_62 rfl rfl ⟨rfl, rfl⟩ (oz_one _) tP) ?_
    rintro _ _ ⟨rfl, rfl⟩
    refine KO.q rfl (q_assign rfl) <| KO.done ?_
    refine K.ret (fn := Tryz.f196) Tryz.func196 (fun a w hk hs => resCT Tryz.results196 hk rfl ck_62 rfl (cells_pv tM w hs) rfl) (fun w hs => ?_)
    rw [hr]
    exact ⟨_, ObL ⟨o.x, ⟨qa, ca, qb, cb, qc, cc⟩⟩, rfl, ⟨⟨qa, ca, qb, cb, qc, cc⟩, rfl, rfl, ha, hb, hc⟩, obO_freeze (o := ⟨o.x, ⟨qa, ca, qb, cb, qc, cc⟩⟩) (hs.fit (M := ObO ⟨o.x, ⟨qa, ca, qb, cb, qc, cc⟩⟩) tG (by repeat (first | exact Drop.refl | apply Drop.skip)))⟩
  · obtain ⟨i, x, hx, hi, _⟩ := idxP_nat g19
    have hi : findM o.x.msgs id = (i : Int) := hi
    have hil := (List.getElem?_eq_some_iff.1 hx).1
    have hgd : o.x.msgs.getD (findM o.x.msgs id).toNat ⟨0, 0, 0, false, ⟨#[]⟩, ⟨#[]⟩⟩ = x := by rw [hi, Int.toNat_natCast]; exact gd_at hx
    have hx0 := hs0 x (List.mem_of_getElem? hx)
    refine KO.q rfl (q_field fo_62_4 rfl) <| KO.q rfl (q_load1D ck_60 rfl) <| KO.q rfl (q_move rfl) <| KO.q rfl (q_ix (xs := o.x.msgs) i se_60 rfl rfl hi isO tM rfl hil) <| KO.q rfl (q_fieldE fo_56_3 rfl) <| KO.q rfl (q_ldE (xs := o.x.msgs) ck_4 rfl isO tM hx rfl) <| KO.q rfl (q_not rfl) <| KO.q rfl (q_pickF rfl rfl) <| KO.done ?_
    refine K.bcond (s := 27) rfl (fun g27 => ?_) (fun g27 => ?_)
    · have hr : freeO o.x id tried = (o.x, false) := by unfold freeO; rw [if_neg g19, hgd, if_pos (by simpa using g27)]
      refine K.seq <| K.region <| KO.q rfl (q_loadN ck_62 rfl rfl tC) <| KO.loudN rfl (l_storeAll ck_62 rfl rfl ⟨rfl, rfl⟩ (oz_one _) tP) ?_
      rintro _ _ ⟨rfl, rfl⟩
      refine KO.q rfl (q_assign rfl) <| KO.done ?_
      refine K.ret (fn := Tryz.f196) Tryz.func196 (fun a w hk hs => resCT Tryz.results196 hk rfl ck_62 rfl (cells_pv tM w hs) rfl) (fun w hs => ?_)
      rw [hr]
      exact ⟨_, ObL ⟨o.x, ⟨qa, ca, qb, cb, qc, cc⟩⟩, rfl, ⟨⟨qa, ca, qb, cb, qc, cc⟩, rfl, rfl, ha, hb, hc⟩, obO_freeze (o := ⟨o.x, ⟨qa, ca, qb, cb, qc, cc⟩⟩) (hs.fit (M := ObO ⟨o.x, ⟨qa, ca, qb, cb, qc, cc⟩⟩) tG (by repeat (first | exact Drop.refl | apply Drop.skip)))⟩
    · have hcl : ¬ x.claimed = false := by simpa using g27
      refine K.skip <| K.seq <| K.seq <| K.region <| KO.q rfl (q_move rfl) <| KO.q rfl (q_not rfl) <| KO.done ?_
      refine K.bcond (s := 30) rfl (fun g30 => ?_) (fun g30 => ?_)
      · have hr : freeO o.x id tried = ({ o.x with msgs := o.x.msgs.set i { x with claimed := false } }, true) := by unfold freeO; rw [if_neg g19, hgd, if_neg hcl, if_pos (by simpa using g30), hi]; rfl
        have hsl : (o.x.msgs.set i { x with claimed := false }).length = o.x.msgs.length := List.length_set
        refine K.seq <| K.region <| KO.q rfl (q_field fo_62_4 rfl) <| KO.q rfl (q_load1D ck_60 rfl) <| KO.q rfl (q_move rfl) <| KO.q rfl (q_ix (xs := o.x.msgs) i se_60 rfl rfl hi isO tM rfl hil) <| KO.q rfl (q_fieldE fo_56_3 rfl) <| KO.loudN rfl (l_storeE (el := x) { x with claimed := false } ck_4 rfl rfl rfl tP hx tD rfl) ?_
        rintro _ _ ⟨rfl, rfl⟩
        refine KO.done <| K.seq <| K.region <| KO.q rfl (q_as (q_loadN ck_62 rfl rfl tC) (show _ = Oz.cells ⟨{ o.x with msgs := o.x.msgs.set i { x with claimed := false } }, ⟨qa, ca, qb, cb, qc, cc⟩⟩ by show _ = [_, _, _, _, Value.slice qb (o.x.msgs.set i { x with claimed := false }).length cb, _]; rw [hsl]; rfl)) <| KO.loudN rfl (l_storeAll ck_62 rfl rfl ⟨rfl, rfl⟩ (oz_one _) tP) ?_
        rintro _ _ ⟨rfl, rfl⟩
        refine KO.q rfl (q_assign rfl) <| KO.done ?_
        refine K.ret (fn := Tryz.f196) Tryz.func196 (fun a w hk hs => resCT Tryz.results196 hk rfl ck_62 rfl (cells_pv tM w hs) rfl) (fun w hs => ?_)
        rw [hr]
        exact ⟨_, ObL ⟨{ o.x with msgs := o.x.msgs.set i { x with claimed := false } }, ⟨qa, ca, qb, cb, qc, cc⟩⟩, rfl, ⟨⟨qa, ca, qb, cb, qc, cc⟩, rfl, rfl, ha, by show (o.x.msgs.set i _).length ≤ cb; rw [hsl]; exact hb, hc⟩, obO_freeze (o := ⟨{ o.x with msgs := o.x.msgs.set i { x with claimed := false } }, ⟨qa, ca, qb, cb, qc, cc⟩⟩) (hs.fit (M := ObO ⟨{ o.x with msgs := o.x.msgs.set i { x with claimed := false } }, ⟨qa, ca, qb, cb, qc, cc⟩⟩) tG (by repeat (first | exact Drop.refl | apply Drop.skip)))⟩
      · have htr : ¬ tried = false := by simpa using g30
        refine K.skip <| K.seq <| K.drawS [pv b3 62 (Oz.cells ⟨o.x, ⟨qa, ca, qb, cb, qc, cc⟩⟩), RowO Kd.msg 56 qb cb o.x.msgs] (fun _ h => h.subD) mixed <| dq 0 rfl (q_field fo_62_4 rfl) <| dq 1 rfl (q_load1D ck_60 rfl) <| dq 2 rfl (q_move rfl) <| dq 3 rfl (q_ix (xs := o.x.msgs) i se_60 rfl rfl hi isO tM rfl hil) <| dq 4 rfl (q_ldEN (xs := o.x.msgs) ck_56 rfl isO tM hx) <| dq 5 rfl (q_field fo_62_2 rfl) <| dq 6 rfl (q_load1D ck_3 rfl) ?_
        refine D.all (rs := [7, 11]) tK rfl (DAll.cons rfl tK (OpL.callD rfl (h := msg_Tried x o.x.limit hx0)) (.inr (by rintro _ _ ⟨_, ⟨rfl, rfl⟩, rfl⟩ w h; exact h.subD)) rfl ?_ (DAll.cons rfl tK (l_alloc zo_56) (.inr (by rintro _ _ ⟨b9, rfl, rfl⟩ w h; exact h.subD)) rfl ?_ DAll.nil))
        · rintro _ _ ⟨_, ⟨rfl, rfl⟩, rfl⟩
          refine dq 8 rfl (q_move rfl) <| dq 9 rfl (q_extract rfl rfl) <| dq 10 rfl (q_extract rfl rfl) <| dq1 11 rfl (l_alloc zo_56) (.inr (by rintro _ _ ⟨b9, rfl, rfl⟩ w h; exact h.subD)) ?_
          rintro _ _ ⟨b9, rfl, rfl⟩
          refine dq1N 12 rfl (l_storeAll ck_56 rfl rfl ⟨rfl, rfl⟩ (msg_one _) tP) (.inr (by rintro _ _ ⟨rfl, rfl⟩ w h; exact h.subD)) ?_
          rintro _ _ ⟨rfl, rfl⟩
          refine dq 13 rfl (q_assign rfl) <| D.done tK <| K.seq <| K.seq <| K.region <| KO.q rfl (q_move rfl) <| KO.done ?_
          first | refine K.dcond (s := 48) rfl (fun g48 => ?_) (fun g48 => ?_) | refine K.bcond (s := 48) rfl (fun g48 => ?_) (fun g48 => ?_)
          · have hr : freeO o.x id tried = ({ o.x with msgs := o.x.msgs.eraseIdx i, dead := o.x.dead ++ [x.tried] }, true) := by unfold freeO; rw [if_neg g19, hgd, if_neg hcl, if_neg htr, if_pos g48, hi]; rfl
            rw [hi]
            refine K.seq <| K.region <| KO.q rfl (q_field fo_62_4 rfl) <| KO.q rfl (q_load1D ck_60 rfl) <| KO.q rfl (q_move rfl) <| KO.q rfl (q_move rfl) <| KO.q rfl (q_add rfl rfl tN tN) <| KO.loud rfl (OpL.callD rfl (h := del_msg qb cb o.x.msgs i hil hb tO)) ?_
            rintro _ _ ⟨_, ⟨rfl, rfl⟩, rfl⟩
            refine KO.q rfl (q_field fo_62_4 rfl) <| KO.loudN rfl (l_store1 ck_60 rfl rfl rfl tP tA) ?_
            rintro _ _ ⟨rfl, rfl⟩
            refine KO.done <| K.region <| KO.q rfl (q_field fo_62_5 rfl) <| KO.q rfl (q_load1D ck_60 rfl) <| KO.q rfl (q_loadN ck_56 rfl rfl tC) <| KO.loud rfl (l_slice1 sz_60_1 rfl rfl ⟨rfl, rfl, rfl⟩) ?_
            rintro _ _ ⟨b59, rfl, rfl⟩
            refine KO.loud rfl (l_append Kd.msg (ys := [x.tried]) se_60 Tryz.underlying60 ⟨_, ze_msg, rfl⟩ tD rfl rfl tP isP tM rfl rfl (by show (2 * (o.x.dead.length + 1) + 768) * 64 ≤ _; omega)) ?_
            rintro _ _ ⟨pn, dn, rfl, rfl⟩
            refine KO.q rfl (q_field fo_62_5 rfl) <| KO.loudN rfl (l_store1 ck_60 rfl rfl rfl tP tA) ?_
            rintro _ _ ⟨rfl, rfl⟩
            refine KO.done <| K.seq <| K.region <| KO.q rfl (q_as (q_loadN ck_62 rfl rfl tC) (show _ = Oz.cells ⟨{ o.x with msgs := o.x.msgs.eraseIdx i, dead := o.x.dead ++ [x.tried] }, ⟨qa, ca, qb, cb, pn, dn⟩⟩ from rfl)) <| KO.loudN rfl (l_storeAll ck_62 rfl rfl ⟨rfl, rfl⟩ (oz_one _) tP) ?_
            rintro _ _ ⟨rfl, rfl⟩
            refine KO.q rfl (q_assign rfl) <| KO.done ?_
            refine K.ret (fn := Tryz.f196) Tryz.func196 (fun a w hk hs => resCT Tryz.results196 hk rfl ck_62 rfl (cells_pv tM w hs) rfl) (fun w hs => ?_)
            rw [hr]
            have hc1 := rowO_cap (e := 56) (k := Kd.msg) (p := qb) (cap := cb) (xs := o.x.msgs.eraseIdx i) tM w hs
            have hc2 := rowO_cap (e := 56) (k := Kd.msg) (p := pn) (cap := dn) (xs := o.x.dead ++ [x.tried]) tM w hs
            exact ⟨_, ObL ⟨{ o.x with msgs := o.x.msgs.eraseIdx i, dead := o.x.dead ++ [x.tried] }, ⟨qa, ca, qb, cb, pn, dn⟩⟩, rfl, ⟨⟨qa, ca, qb, cb, pn, dn⟩, rfl, rfl, ha, hc1, hc2⟩, obO_freeze (o := ⟨{ o.x with msgs := o.x.msgs.eraseIdx i, dead := o.x.dead ++ [x.tried] }, ⟨qa, ca, qb, cb, pn, dn⟩⟩) (hs.fit (M := ObO ⟨{ o.x with msgs := o.x.msgs.eraseIdx i, dead := o.x.dead ++ [x.tried] }, ⟨qa, ca, qb, cb, pn, dn⟩⟩) tG (by repeat (first | exact Drop.refl | apply Drop.skip)))⟩
          · have hr : freeO o.x id tried = ({ o.x with msgs := o.x.msgs.set i x.tried }, true) := by unfold freeO; rw [if_neg g19, hgd, if_neg hcl, if_neg htr, if_neg g48, hi]; rfl
            have hsl : (o.x.msgs.set i x.tried).length = o.x.msgs.length := List.length_set
            refine K.region <| KO.q rfl (q_field fo_62_4 rfl) <| KO.q rfl (q_load1D ck_60 rfl) <| KO.q rfl (q_move rfl) <| KO.q rfl (q_loadN ck_56 rfl rfl tC) <| KO.q rfl (q_ix (xs := o.x.msgs) i se_60 rfl rfl hi isO tM rfl hil) <| KO.loudN rfl (l_storeEN x.tried ck_56 rfl rfl tP hil) ?_
            rintro _ _ ⟨rfl, rfl⟩
            refine KO.done <| K.seq <| K.region <| KO.q rfl (q_as (q_loadN ck_62 rfl rfl tC) (show _ = Oz.cells ⟨{ o.x with msgs := o.x.msgs.set i x.tried }, ⟨qa, ca, qb, cb, qc, cc⟩⟩ by show _ = [_, _, _, _, Value.slice qb (o.x.msgs.set i x.tried).length cb, _]; rw [hsl]; rfl)) <| KO.loudN rfl (l_storeAll ck_62 rfl rfl ⟨rfl, rfl⟩ (oz_one _) tP) ?_
            rintro _ _ ⟨rfl, rfl⟩
            refine KO.q rfl (q_assign rfl) <| KO.done ?_
            refine K.ret (fn := Tryz.f196) Tryz.func196 (fun a w hk hs => resCT Tryz.results196 hk rfl ck_62 rfl (cells_pv tM w hs) rfl) (fun w hs => ?_)
            rw [hr]
            exact ⟨_, ObL ⟨{ o.x with msgs := o.x.msgs.set i x.tried }, ⟨qa, ca, qb, cb, qc, cc⟩⟩, rfl, ⟨⟨qa, ca, qb, cb, qc, cc⟩, rfl, rfl, ha, by show (o.x.msgs.set i _).length ≤ cb; rw [hsl]; exact hb, hc⟩, obO_freeze (o := ⟨{ o.x with msgs := o.x.msgs.set i x.tried }, ⟨qa, ca, qb, cb, qc, cc⟩⟩) (hs.fit (M := ObO ⟨{ o.x with msgs := o.x.msgs.set i x.tried }, ⟨qa, ca, qb, cb, qc, cc⟩⟩) tG (by repeat (first | exact Drop.refl | apply Drop.skip)))⟩
        · rintro _ _ ⟨b9, rfl, rfl⟩
          refine dq1 7 rfl (OpL.callD rfl (h := msg_Tried x o.x.limit hx0)) (.inr (by rintro _ _ ⟨_, ⟨rfl, rfl⟩, rfl⟩ w h; exact h.subD)) ?_
          rintro _ _ ⟨_, ⟨rfl, rfl⟩, rfl⟩
          refine dq 8 rfl (q_move rfl) <| dq 9 rfl (q_extract rfl rfl) <| dq 10 rfl (q_extract rfl rfl) <| dq1N 12 rfl (l_storeAll ck_56 rfl rfl ⟨rfl, rfl⟩ (msg_one _) tP) (.inr (by rintro _ _ ⟨rfl, rfl⟩ w h; exact h.subD)) ?_
          rintro _ _ ⟨rfl, rfl⟩
          refine dq 13 rfl (q_assign rfl) <| D.done tK <| K.seq <| K.seq <| K.region <| KO.q rfl (q_move rfl) <| KO.done ?_
          first | refine K.dcond (s := 48) rfl (fun g48 => ?_) (fun g48 => ?_) | refine K.bcond (s := 48) rfl (fun g48 => ?_) (fun g48 => ?_)
          · have hr : freeO o.x id tried = ({ o.x with msgs := o.x.msgs.eraseIdx i, dead := o.x.dead ++ [x.tried] }, true) := by unfold freeO; rw [if_neg g19, hgd, if_neg hcl, if_neg htr, if_pos g48, hi]; rfl
            rw [hi]
            refine K.seq <| K.region <| KO.q rfl (q_field fo_62_4 rfl) <| KO.q rfl (q_load1D ck_60 rfl) <| KO.q rfl (q_move rfl) <| KO.q rfl (q_move rfl) <| KO.q rfl (q_add rfl rfl tN tN) <| KO.loud rfl (OpL.callD rfl (h := del_msg qb cb o.x.msgs i hil hb tO)) ?_
            rintro _ _ ⟨_, ⟨rfl, rfl⟩, rfl⟩
            refine KO.q rfl (q_field fo_62_4 rfl) <| KO.loudN rfl (l_store1 ck_60 rfl rfl rfl tP tA) ?_
            rintro _ _ ⟨rfl, rfl⟩
            refine KO.done <| K.region <| KO.q rfl (q_field fo_62_5 rfl) <| KO.q rfl (q_load1D ck_60 rfl) <| KO.q rfl (q_loadN ck_56 rfl rfl tC) <| KO.loud rfl (l_slice1 sz_60_1 rfl rfl ⟨rfl, rfl, rfl⟩) ?_
            rintro _ _ ⟨b59, rfl, rfl⟩
            refine KO.loud rfl (l_append Kd.msg (ys := [x.tried]) se_60 Tryz.underlying60 ⟨_, ze_msg, rfl⟩ tD rfl rfl tP isP tM rfl rfl (by show (2 * (o.x.dead.length + 1) + 768) * 64 ≤ _; omega)) ?_
            rintro _ _ ⟨pn, dn, rfl, rfl⟩
            refine KO.q rfl (q_field fo_62_5 rfl) <| KO.loudN rfl (l_store1 ck_60 rfl rfl rfl tP tA) ?_
            rintro _ _ ⟨rfl, rfl⟩
            refine KO.done <| K.seq <| K.region <| KO.q rfl (q_as (q_loadN ck_62 rfl rfl tC) (show _ = Oz.cells ⟨{ o.x with msgs := o.x.msgs.eraseIdx i, dead := o.x.dead ++ [x.tried] }, ⟨qa, ca, qb, cb, pn, dn⟩⟩ from rfl)) <| KO.loudN rfl (l_storeAll ck_62 rfl rfl ⟨rfl, rfl⟩ (oz_one _) tP) ?_
            rintro _ _ ⟨rfl, rfl⟩
            refine KO.q rfl (q_assign rfl) <| KO.done ?_
            refine K.ret (fn := Tryz.f196) Tryz.func196 (fun a w hk hs => resCT Tryz.results196 hk rfl ck_62 rfl (cells_pv tM w hs) rfl) (fun w hs => ?_)
            rw [hr]
            have hc1 := rowO_cap (e := 56) (k := Kd.msg) (p := qb) (cap := cb) (xs := o.x.msgs.eraseIdx i) tM w hs
            have hc2 := rowO_cap (e := 56) (k := Kd.msg) (p := pn) (cap := dn) (xs := o.x.dead ++ [x.tried]) tM w hs
            exact ⟨_, ObL ⟨{ o.x with msgs := o.x.msgs.eraseIdx i, dead := o.x.dead ++ [x.tried] }, ⟨qa, ca, qb, cb, pn, dn⟩⟩, rfl, ⟨⟨qa, ca, qb, cb, pn, dn⟩, rfl, rfl, ha, hc1, hc2⟩, obO_freeze (o := ⟨{ o.x with msgs := o.x.msgs.eraseIdx i, dead := o.x.dead ++ [x.tried] }, ⟨qa, ca, qb, cb, pn, dn⟩⟩) (hs.fit (M := ObO ⟨{ o.x with msgs := o.x.msgs.eraseIdx i, dead := o.x.dead ++ [x.tried] }, ⟨qa, ca, qb, cb, pn, dn⟩⟩) tG (by repeat (first | exact Drop.refl | apply Drop.skip)))⟩
          · have hr : freeO o.x id tried = ({ o.x with msgs := o.x.msgs.set i x.tried }, true) := by unfold freeO; rw [if_neg g19, hgd, if_neg hcl, if_neg htr, if_neg g48, hi]; rfl
            have hsl : (o.x.msgs.set i x.tried).length = o.x.msgs.length := List.length_set
            refine K.region <| KO.q rfl (q_field fo_62_4 rfl) <| KO.q rfl (q_load1D ck_60 rfl) <| KO.q rfl (q_move rfl) <| KO.q rfl (q_loadN ck_56 rfl rfl tC) <| KO.q rfl (q_ix (xs := o.x.msgs) i se_60 rfl rfl hi isO tM rfl hil) <| KO.loudN rfl (l_storeEN x.tried ck_56 rfl rfl tP hil) ?_
            rintro _ _ ⟨rfl, rfl⟩
            refine KO.done <| K.seq <| K.region <| KO.q rfl (q_as (q_loadN ck_62 rfl rfl tC) (show _ = Oz.cells ⟨{ o.x with msgs := o.x.msgs.set i x.tried }, ⟨qa, ca, qb, cb, qc, cc⟩⟩ by show _ = [_, _, _, _, Value.slice qb (o.x.msgs.set i x.tried).length cb, _]; rw [hsl]; rfl)) <| KO.loudN rfl (l_storeAll ck_62 rfl rfl ⟨rfl, rfl⟩ (oz_one _) tP) ?_
            rintro _ _ ⟨rfl, rfl⟩
            refine KO.q rfl (q_assign rfl) <| KO.done ?_
            refine K.ret (fn := Tryz.f196) Tryz.func196 (fun a w hk hs => resCT Tryz.results196 hk rfl ck_62 rfl (cells_pv tM w hs) rfl) (fun w hs => ?_)
            rw [hr]
            exact ⟨_, ObL ⟨{ o.x with msgs := o.x.msgs.set i x.tried }, ⟨qa, ca, qb, cb, qc, cc⟩⟩, rfl, ⟨⟨qa, ca, qb, cb, qc, cc⟩, rfl, rfl, ha, by show (o.x.msgs.set i _).length ≤ cb; rw [hsl]; exact hb, hc⟩, obO_freeze (o := ⟨{ o.x with msgs := o.x.msgs.set i x.tried }, ⟨qa, ca, qb, cb, qc, cc⟩⟩) (hs.fit (M := ObO ⟨{ o.x with msgs := o.x.msgs.set i x.tried }, ⟨qa, ca, qb, cb, qc, cc⟩⟩) tG (by repeat (first | exact Drop.refl | apply Drop.skip)))⟩
end Go.Proofs.YtkbhldicnamcdaaGreat.L
namespace Go.Proofs.YtkbhldicnamcdaaGreat.L
open Go Go.Proofs
attribute [local irreducible] pv fv pt fz RowF RowO rowP old pure_ elA Rd.int Rd.text Rd.flag Rd.msg Rd.rint Rd.rtext Rd.rflag Rd.rmsg
set_option maxRecDepth 100000
set_option linter.unusedSimpArgs false
set_option linter.unusedVariables false
theorem idxP_map {α β : Type} (p : β → Bool) (f : α → β) (l : List α) : idxP p (l.map f) = idxP (fun x => p (f x)) l := by
  unfold idxP
  rw [List.findIdx?_map]
  rfl
abbrev StO (b : Nat) (s : Sz) : List HP := [pv b 47 s.cells, RowO Kd.oz 62 s.q s.c s.l, NestF s.l]
theorem st_told (ok : Bool) (n : Int) : Fn Tryz.prog 191 [.bool ok, .int .i64 n].toArray [] (fun r post => r = .int .i64 (if ok = true then 0 else n) ∧ post = []) := by
  refine Fn.enter (N := 7) Tryz.func191 rfl Tryz.ntmps191 tK rfl (fun ρ L => ?_)
  refine K.seq <| K.region <| KO.q rfl (q_assign rfl) <| KO.done <| K.seq <| K.seq <| K.region <| KO.q rfl (q_move rfl) <| KO.done ?_
  first | refine K.dcond (s := 5) rfl (fun g5 => ?_) (fun g5 => ?_) | refine K.bcond (s := 5) rfl (fun g5 => ?_) (fun g5 => ?_)
  · rw [if_pos (by simpa using g5)]
    refine K.seq <| K.region <| KO.q rfl (q_assign rfl) <| KO.done ?_
    refine kr1 Tryz.func191 Tryz.results191 rfl (fun w hs => ?_)
    exact ⟨_, [], rfl, ⟨rfl, rfl⟩, hs.fitD⟩
  · rw [if_neg (by simpa using g5)]
    refine K.skip <| K.seq <| K.region <| KO.q rfl (q_move rfl) <| KO.q rfl (q_assign rfl) <| KO.done ?_
    refine kr1 Tryz.func191 Tryz.results191 rfl (fun w hs => ?_)
    exact ⟨_, [], rfl, ⟨rfl, rfl⟩, hs.fitD⟩
theorem st_next (b : Nat) (s : Sz) (n : Int) : Fn Tryz.prog 137 [.pointer (some ⟨b, 0, none⟩), .int .i64 n].toArray (StO b s) (fun r post => ∃ s' : Sz, r = .int .i64 (nextS s.st n).2 ∧ s'.st = (nextS s.st n).1 ∧ s'.q = s.q ∧ s'.c = s.c ∧ s'.l = s.l ∧ post = StO b s') := by
  obtain ⟨nx, q, c, l⟩ := s
  refine Fn.enter (N := 15) Tryz.func137 rfl Tryz.ntmps137 tK rfl (fun ρ L => ?_)
  refine K.seq <| K.region <| KO.q rfl (q_assign rfl) <| KO.done <| K.seq <| K.seq <| K.region <| KO.q rfl (q_move rfl) <| KO.q rfl (q_move rfl) <| KO.q rfl (q_nilCheck rfl) <| KO.q rfl (q_field fo_47_0 rfl) ?_
  refine KO.q rfl (q_load1D ck_3 rfl) <| KO.q rfl (q_lt rfl rfl) <| KO.done ?_
  refine K.dcond (s := 10) rfl (fun g10 => ?_) (fun g10 => ?_)
  · have hr : nextS (Sz.st ⟨nx, q, c, l⟩) n = (Sz.st ⟨nx, q, c, l⟩, 1) := by unfold nextS; rw [if_pos (show n < (Sz.st ⟨nx, q, c, l⟩).next from g10)]
    refine K.seq <| K.region <| KO.q rfl (q_assign rfl) <| KO.done ?_
    refine kr1 Tryz.func137 Tryz.results137 rfl (fun w hs => ?_)
    rw [hr]
    first
      | exact ⟨_, StO b ⟨nx, q, c, l⟩, rfl, ⟨⟨nx, q, c, l⟩, rfl, rfl, rfl, rfl, rfl, rfl⟩, hs.fitD⟩
      | exact ⟨_, StO b ⟨n, q, c, l⟩, rfl, ⟨⟨n, q, c, l⟩, rfl, rfl, rfl, rfl, rfl, rfl⟩, hs.fitD⟩
  · have hr : nextS (Sz.st ⟨nx, q, c, l⟩) n = (Sz.st ⟨n, q, c, l⟩, 0) := by unfold nextS; rw [if_neg (show ¬ n < (Sz.st ⟨nx, q, c, l⟩).next from g10)]; rfl
    refine K.skip <| K.seq <| K.region <| KO.q rfl (q_move rfl) <| KO.q rfl (q_move rfl) <| KO.q rfl (q_nilCheck rfl) <| KO.q rfl (q_field fo_47_0 rfl) <| KO.loudN rfl (l_store1 ck_3 rfl rfl rfl tP tA) ?_
    rintro _ _ ⟨rfl, rfl⟩
    refine KO.done <| K.seq <| K.region <| KO.q rfl (q_assign rfl) <| KO.done ?_
    refine kr1 Tryz.func137 Tryz.results137 rfl (fun w hs => ?_)
    rw [hr]
    first
      | exact ⟨_, StO b ⟨nx, q, c, l⟩, rfl, ⟨⟨nx, q, c, l⟩, rfl, rfl, rfl, rfl, rfl, rfl⟩, hs.fitD⟩
      | exact ⟨_, StO b ⟨n, q, c, l⟩, rfl, ⟨⟨n, q, c, l⟩, rfl, rfl, rfl, rfl, rfl, rfl⟩, hs.fitD⟩
theorem sf1 (l : List Oz) (b : Nat) (name : ByteArray) (x : Oz) : Fn Tryz.prog 188 [.agg x.cells.toArray, .pointer (some ⟨b, 0, none⟩)].toArray [pv b 9 [.string name], NestF l] (fun v post => v = .bool (decide (x.x.name = name)) ∧ post = [pv b 9 [.string name]]) := by
  refine Fn.enter (N := 8) Tryz.func188 rfl Tryz.ntmps188 tK rfl (fun ρ L => ?_)
  refine K.seq <| K.region <| KO.loud rfl (l_box rfl rfl) ?_
  rintro _ _ ⟨b2, rfl, rfl⟩
  refine KO.q rfl (q_assign rfl) <| KO.done <| K.seq <| K.region <| KO.q rfl (q_field fo_62_0 rfl) <| KO.q rfl (q_load1D ck_9 rfl) <| KO.q rfl (q_load1D ck_9 rfl) <| KO.q rfl (q_seq rfl rfl) <| KO.q rfl (q_assign rfl) <| KO.done ?_
  refine kr1 Tryz.func188 Tryz.results188 rfl (fun w hs => ?_)
  exact ⟨_, [pv b 9 [.string name]], rfl, ⟨rfl, rfl⟩, hs.fitD⟩
theorem st_Find (A : HP) (s : Sz) (name : ByteArray) (hA : IsRow A Kd.oz s.q s.l) (hl : s.l.length ≤ 1000000000) : Fn Tryz.prog 138 [.agg s.cells.toArray, .string name].toArray [A, NestF s.l] (fun r post => r = .int .i64 (findO s.st name) ∧ post = [A]) := by
  have hm : findO s.st name = idxP (fun o : Oz => decide (o.x.name = name)) s.l := idxP_map _ _ _
  refine Fn.enter (N := 9) Tryz.func138 rfl Tryz.ntmps138 tK rfl (fun ρ L => ?_)
  refine K.seq <| K.region <| KO.loud rfl (l_box rfl rfl) ?_
  rintro _ _ ⟨b2, rfl, rfl⟩
  refine KO.loud rfl (l_box rfl rfl) ?_
  rintro _ _ ⟨b3, rfl, rfl⟩
  refine KO.q rfl (q_assign rfl) <| KO.done <| K.seq <| K.region <| KO.q rfl (q_field fo_47_1 rfl) <| KO.q rfl (q_load1D ck_45 rfl) <| KO.q rfl (q_func rfl rfl) <| KO.loud rfl (OpL.callD rfl (h := ixg_oz A (pv b3 9 [.string name]) (NestF s.l) s.q s.c s.l hA 188 [.pointer (some ⟨b3, 0, none⟩)] (fun o => decide (o.x.name = name)) tO (fun x _ => sf1 s.l b3 name x))) ?_
  rintro _ _ ⟨_, ⟨rfl, rfl⟩, rfl⟩
  refine KO.q rfl (q_assign rfl) <| KO.done ?_
  refine kr1 Tryz.func138 Tryz.results138 rfl (fun w hs => ?_)
  rw [hm]
  exact ⟨_, [A], rfl, ⟨rfl, rfl⟩, hs.fitD⟩
theorem sh1 (l : List Oz) (b : Nat) (id : Int) (x : Oz) (hx : x ∈ l) (hl : x.le 1000000000) : Fn Tryz.prog 225 [.agg x.cells.toArray, .pointer (some ⟨b, 0, none⟩)].toArray [pv b 3 [.int .i64 id], NestF l] (fun v post => v = .bool (decide (whereM x.x id ≠ 0)) ∧ post = [pv b 3 [.int .i64 id]]) := by
  refine Fn.enter (N := 8) Tryz.func225 rfl Tryz.ntmps225 tK rfl (fun ρ L => ?_)
  refine K.seq <| K.region <| KO.loud rfl (l_box rfl rfl) ?_
  rintro _ _ ⟨b2, rfl, rfl⟩
  refine KO.q rfl (q_assign rfl) <| KO.done <| K.seq <| K.st (fun w h => nestF_at (l := l) tM hx h) <| K.region <| KO.q rfl (q_loadN ck_62 rfl rfl tC) <| KO.q rfl (q_load1D ck_3 rfl) <| KO.loud rfl (OpL.callD rfl (h := dd_Where x id hl)) ?_
  rintro _ _ ⟨_, ⟨rfl, rfl⟩, rfl⟩
  refine KO.q rfl (q_ne rfl rfl) <| KO.q rfl (q_assign rfl) <| KO.done ?_
  refine kr1 Tryz.func225 Tryz.results225 rfl (fun w hs => ?_)
  exact ⟨_, [pv b 3 [.int .i64 id]], rfl, ⟨rfl, rfl⟩, hs.fitD⟩
theorem st_has (A : HP) (s : Sz) (id : Int) (hA : IsRow A Kd.oz s.q s.l) (hl : s.l.length ≤ 1000000000) (hle : ∀ o ∈ s.l, o.le 1000000000) : Fn Tryz.prog 212 [.agg s.cells.toArray, .int .i64 id].toArray [A, NestF s.l] (fun r post => r = .bool (hasM s.st id) ∧ post = [A]) := by
  have hm : hasM s.st id = s.l.any (fun o : Oz => decide (whereM o.x id ≠ 0)) := List.any_map
  refine Fn.enter (N := 9) Tryz.func212 rfl Tryz.ntmps212 tK rfl (fun ρ L => ?_)
  refine K.seq <| K.region <| KO.loud rfl (l_box rfl rfl) ?_
  rintro _ _ ⟨b2, rfl, rfl⟩
  refine KO.loud rfl (l_box rfl rfl) ?_
  rintro _ _ ⟨b3, rfl, rfl⟩
  refine KO.q rfl (q_assign rfl) <| KO.done <| K.seq <| K.region <| KO.q rfl (q_field fo_47_1 rfl) <| KO.q rfl (q_load1D ck_45 rfl) <| KO.q rfl (q_func rfl rfl) <| KO.loud rfl (OpL.callD rfl (h := cog_oz A (pv b3 3 [.int .i64 id]) (NestF s.l) s.q s.c s.l hA 225 [.pointer (some ⟨b3, 0, none⟩)] (fun o => decide (whereM o.x id ≠ 0)) tO (fun x hx => sh1 s.l b3 id x hx (hle x hx)))) ?_
  rintro _ _ ⟨_, ⟨rfl, rfl⟩, rfl⟩
  refine KO.q rfl (q_assign rfl) <| KO.done ?_
  refine kr1 Tryz.func212 Tryz.results212 rfl (fun w hs => ?_)
  rw [hm]
  exact ⟨_, [A], rfl, ⟨rfl, rfl⟩, hs.fitD⟩
theorem sm1 (l : List Oz) (b : Nat) (e : Eff) (x : Oz) : Fn Tryz.prog 186 [.agg x.cells.toArray, .pointer (some ⟨b, 0, none⟩)].toArray [pv b 58 e.cells, NestF l] (fun v post => v = .bool (decide (0 < cmpB x.x.name e.object)) ∧ post = [pv b 58 e.cells]) := by
  refine Fn.enter (N := 10) Tryz.func186 rfl Tryz.ntmps186 tK rfl (fun ρ L => ?_)
  refine K.seq <| K.region <| KO.loud rfl (l_box rfl rfl) ?_
  rintro _ _ ⟨b2, rfl, rfl⟩
  refine KO.q rfl (q_assign rfl) <| KO.done <| K.seq <| K.region <| KO.q rfl (q_field fo_62_0 rfl) <| KO.q rfl (q_load1D ck_9 rfl) <| KO.q rfl (q_field fo_58_1 rfl) <| KO.q rfl (q_load1D ck_9 rfl) <| KO.loud rfl (OpL.callD rfl (h := ord_Keys _ _)) ?_
  rintro _ _ ⟨_, ⟨rfl, rfl⟩, rfl⟩
  refine KO.q rfl (q_gt rfl rfl) <| KO.q rfl (q_assign rfl) <| KO.done ?_
  refine kr1 Tryz.func186 Tryz.results186 rfl (fun w hs => ?_)
  exact ⟨_, [pv b 58 e.cells], rfl, ⟨rfl, rfl⟩, hs.fitD⟩
set_option maxHeartbeats 1600000 in
theorem st_make1 (b : Nat) (s : Sz) (e : Eff) (hc : s.l.length ≤ s.c) (hl : s.l.length ≤ 1000000000) (hcap : ∀ o ∈ s.l, o.cap) : Fn Tryz.prog 136 [.pointer (some ⟨b, 0, none⟩), .agg e.cells.toArray].toArray (StO b s) (fun r post => ∃ s' : Sz, r = .int .i64 (makeS s.st e).2 ∧ s'.st = (makeS s.st e).1 ∧ post = StO b s' ∧ s'.l.length ≤ s'.c ∧ ∀ o ∈ s'.l, o.cap) := by
  obtain ⟨nx, q, c, l⟩ := s
  have hc : l.length ≤ c := hc
  have hl : l.length ≤ 1000000000 := hl
  have hpm : plc (fun o : Ob => decide (0 < cmpB o.name e.object)) (Sz.st ⟨nx, q, c, l⟩).objs = plc (fun o : Oz => decide (0 < cmpB o.x.name e.object)) l := by
    unfold plc
    rw [show (Sz.st ⟨nx, q, c, l⟩).objs = l.map (·.x) from rfl, idxP_map, List.length_map]
  refine Fn.enter (N := 49) Tryz.func136 rfl Tryz.ntmps136 tK rfl (fun ρ L => ?_)
  refine K.seq <| K.region <| KO.loud rfl (l_box rfl rfl) ?_
  rintro _ _ ⟨b3, rfl, rfl⟩
  refine KO.q rfl (q_assign rfl) <| KO.done <| K.seq <| K.seq <| K.drawS [pv b 47 (Sz.cells ⟨nx, q, c, l⟩), pv b3 58 e.cells] (fun _ h => h.subD) mixed <| dq 0 rfl (q_move rfl) <| dq 1 rfl (q_nilCheck rfl) <| dq 2 rfl (q_as_sz (q_loadN ck_47 rfl rfl tC) (by rfl)) <| dq 3 rfl (q_field fo_58_1 rfl) <| dq 4 rfl (q_load1D ck_9 rfl) <| dq1 5 rfl (OpL.callD rfl (h := st_Find (RowO Kd.oz 62 q c l) ⟨nx, q, c, l⟩ e.object isO hl)) (.inr (by rintro _ _ ⟨_, ⟨rfl, rfl⟩, rfl⟩ w h; exact h.subD)) ?_
  rintro _ _ ⟨_, ⟨rfl, rfl⟩, rfl⟩
  refine dq 6 rfl (q_ge rfl rfl) <| D.done tK ?_
  refine K.dcond (s := 12) rfl (fun g12 => ?_) (fun g12 => ?_)
  · have hr : makeS (Sz.st ⟨nx, q, c, l⟩) e = (Sz.st ⟨nx, q, c, l⟩, 4) := by unfold makeS; rw [if_pos g12]
    refine K.seq <| K.region <| KO.q rfl (q_assign rfl) <| KO.done ?_
    refine kr1 Tryz.func136 Tryz.results136 rfl (fun w hs => ?_)
    rw [hr]
    exact ⟨_, StO b ⟨nx, q, c, l⟩, rfl, ⟨⟨nx, q, c, l⟩, rfl, rfl, rfl, hc, hcap⟩, hs.fitD⟩
  · refine K.skip <| K.seq <| K.seq <| K.region <| KO.q rfl (q_move rfl) <| KO.q rfl (q_nilCheck rfl) <| KO.q rfl (q_field fo_47_1 rfl) <| KO.q rfl (q_load1D ck_45 rfl) <| KO.q rfl (q_len Tryz.underlying45 rfl) <| KO.q rfl (q_ge rfl rfl) <| KO.done ?_
    refine K.dcond (s := 18) rfl (fun g18 => ?_) (fun g18 => ?_)
    · have g18 : (20 : Int) ≤ (l.length : Int) := g18
      have hr : makeS (Sz.st ⟨nx, q, c, l⟩) e = (Sz.st ⟨nx, q, c, l⟩, 6) := by unfold makeS; rw [if_neg g12, if_pos (by show 20 ≤ (l.map (·.x)).length; rw [List.length_map]; omega)]
      refine K.seq <| K.region <| KO.q rfl (q_assign rfl) <| KO.done ?_
      refine kr1 Tryz.func136 Tryz.results136 rfl (fun w hs => ?_)
      rw [hr]
      exact ⟨_, StO b ⟨nx, q, c, l⟩, rfl, ⟨⟨nx, q, c, l⟩, rfl, rfl, rfl, hc, hcap⟩, hs.fitD⟩
    · have g18 : ¬ (20 : Int) ≤ (l.length : Int) := g18
      have hr0 : makeS (Sz.st ⟨nx, q, c, l⟩) e = (⟨nx, insAt (l.map (·.x)) (plc (fun o : Oz => decide (0 < cmpB o.x.name e.object)) l) ⟨e.object, e.n, e.limit, [], [], []⟩⟩, 0) := by unfold makeS; rw [if_neg g12, if_neg (by show ¬ 20 ≤ (l.map (·.x)).length; rw [List.length_map]; omega), hpm]; rfl
      refine K.skip <| K.seq <| K.region <| KO.q rfl (q_move rfl) <| KO.q rfl (q_nilCheck rfl) <| KO.q rfl (q_field fo_47_1 rfl) <| KO.q rfl (q_load1D ck_45 rfl) <| KO.q rfl (q_func rfl rfl) <| KO.loud rfl (OpL.callD rfl (h := ixg_oz (RowO Kd.oz 62 q c l) (pv b3 58 e.cells) (NestF l) q c l isO 186 [.pointer (some ⟨b3, 0, none⟩)] (fun o => decide (0 < cmpB o.x.name e.object)) tO (fun x _ => sm1 l b3 e x))) ?_
      rintro _ _ ⟨_, ⟨rfl, rfl⟩, rfl⟩
      refine KO.q rfl (q_assign rfl) <| KO.done <| K.seq <| K.seq <| K.region <| KO.q rfl (q_move rfl) <| KO.q rfl (q_lt rfl rfl) <| KO.done ?_
      refine K.dcond (s := 26) rfl (fun g26 => ?_) (fun g26 => ?_)
      · have hpl : plc (fun o : Oz => decide (0 < cmpB o.x.name e.object)) l = l.length := by unfold plc; rw [if_pos g26]
        rw [hpl] at hr0
        refine K.region <| KO.q rfl (q_move rfl) <| KO.q rfl (q_nilCheck rfl) <| KO.q rfl (q_field fo_47_1 rfl) <| KO.q rfl (q_load1D ck_45 rfl) <| KO.q rfl (q_len Tryz.underlying45 rfl) <| KO.q rfl (q_assign rfl) <| KO.done <| K.seq <| K.drawS [pv b 47 (Sz.cells ⟨nx, q, c, l⟩), pv b3 58 e.cells] (fun _ h => h.subD) mixed ?_
        refine dq 0 rfl (q_move rfl) <| dq 1 rfl (q_move rfl) <| dq 2 rfl (q_nilCheck rfl) <| dq 3 rfl (q_field fo_47_1 rfl) <| dq 4 rfl (q_load1D ck_45 rfl) <| dq 5 rfl (q_move rfl) <| dq 6 rfl (q_field fo_58_1 rfl) <| dq 7 rfl (q_load1D ck_9 rfl) <| dq 8 rfl (q_field fo_58_4 rfl) <| dq 9 rfl (q_load1D ck_3 rfl) ?_
        refine dq 10 rfl (q_field fo_58_5 rfl) <| dq 11 rfl (q_load1D ck_3 rfl) <| dq 12 rfl (q_as_oz (rows_ := []) (msgs_ := []) (dead_ := []) (q_build st_62 rfl tF) rfl) <| dq1 13 rfl (l_slice1 sz_45_1 rfl rfl ⟨rfl, rfl, rfl⟩) (.inr (by rintro _ _ ⟨b45, rfl, rfl⟩ w h; exact h.subD)) ?_
        rintro _ _ ⟨b45, rfl, rfl⟩
        refine dq1 14 rfl (OpL.callD rfl (h := ins_oz q c l l.length b45 _ ⟨⟨e.object, e.n, e.limit, [], [], []⟩, ⟨none, 0, none, 0, none, 0⟩⟩ (Nat.le_refl _) hc hl)) (.inr (by rintro _ _ ⟨_, ⟨qn, cn, rfl, rfl, hcn⟩, rfl⟩ w h; exact h.subD)) ?_
        rintro _ _ ⟨_, ⟨qn, cn, rfl, rfl, hcn⟩, rfl⟩
        refine dq1 15 rfl (OpQ.loud (q_nilCheck rfl)) (.inl tK) ?_
        rintro _ _ ⟨rfl, rfl⟩
        refine dq1 16 rfl (OpQ.loud (q_field fo_47_1 rfl)) (.inl tK) ?_
        rintro _ _ ⟨rfl, rfl⟩
        refine dq1N 17 rfl (l_store1 ck_45 rfl rfl rfl tP tA) (.inl tK) ?_
        rintro _ _ ⟨rfl, rfl⟩
        refine D.done tK <| K.seq <| K.region <| KO.q rfl (q_assign rfl) <| KO.done ?_
        refine kr1 Tryz.func136 Tryz.results136 rfl (fun w hs => ?_)
        rw [hr0]
        have hmem : ∀ (i : Nat) (o p : Oz), p ∈ insAt l i o → p ∈ l ∨ p = o := fun i o p hp => by
          unfold insAt at hp
          rcases List.mem_append.1 hp with hp | hp
          · rcases List.mem_append.1 hp with hp | hp
            · exact .inl (List.mem_of_mem_take hp)
            · exact .inr (List.mem_singleton.1 hp)
          · exact .inl (List.mem_of_mem_drop hp)
        exact ⟨_, StO b ⟨nx, qn, cn, insAt l _ ⟨⟨e.object, e.n, e.limit, [], [], []⟩, ⟨none, 0, none, 0, none, 0⟩⟩⟩, rfl, ⟨⟨nx, qn, cn, insAt l _ ⟨⟨e.object, e.n, e.limit, [], [], []⟩, ⟨none, 0, none, 0, none, 0⟩⟩⟩, rfl, (by
            unfold Sz.st insAt
            simp only [List.map_append, List.map_take, List.map_drop, List.map_cons, List.map_nil]), rfl, hcn, fun p hp => (hmem _ _ p hp).elim (hcap p) (fun h => by rw [h]; exact ⟨Nat.le_refl _, Nat.le_refl _, Nat.le_refl _⟩)⟩,
          (nestF_put (l := l) ⟨⟨e.object, e.n, e.limit, [], [], []⟩, ⟨none, 0, none, 0, none, 0⟩⟩ (hmem _ _) tM tM tM tM (rowF_nilA (k := Kd.rw) (rowF_nilA (k := Kd.msg) (hs.fit (M := [pv b 47 (Sz.cells ⟨nx, qn, cn, insAt l _ ⟨⟨e.object, e.n, e.limit, [], [], []⟩, ⟨none, 0, none, 0, none, 0⟩⟩⟩), RowO Kd.oz 62 qn cn (insAt l _ ⟨⟨e.object, e.n, e.limit, [], [], []⟩, ⟨none, 0, none, 0, none, 0⟩⟩), NestF l]) tG (by repeat (first | exact Drop.refl | apply Drop.skip)))))).fitD⟩
      · obtain ⟨i, x, hx, hi, _⟩ := idxP_nat g26
        have hpl : plc (fun o : Oz => decide (0 < cmpB o.x.name e.object)) l = i := by unfold plc; rw [if_neg g26, hi]; rfl
        have hile : i ≤ l.length := by have := (List.getElem?_eq_some_iff.1 hx).1; omega
        rw [hpl] at hr0
        rw [hi]
        refine K.skip <| K.seq <| K.drawS [pv b 47 (Sz.cells ⟨nx, q, c, l⟩), pv b3 58 e.cells] (fun _ h => h.subD) mixed <| dq 0 rfl (q_move rfl) <| dq 1 rfl (q_move rfl) <| dq 2 rfl (q_nilCheck rfl) <| dq 3 rfl (q_field fo_47_1 rfl) <| dq 4 rfl (q_load1D ck_45 rfl) <| dq 5 rfl (q_move rfl) <| dq 6 rfl (q_field fo_58_1 rfl) <| dq 7 rfl (q_load1D ck_9 rfl) ?_
        refine dq 8 rfl (q_field fo_58_4 rfl) <| dq 9 rfl (q_load1D ck_3 rfl) <| dq 10 rfl (q_field fo_58_5 rfl) <| dq 11 rfl (q_load1D ck_3 rfl) <| dq 12 rfl (q_as_oz (rows_ := []) (msgs_ := []) (dead_ := []) (q_build st_62 rfl tF) rfl) <| dq1 13 rfl (l_slice1 sz_45_1 rfl rfl ⟨rfl, rfl, rfl⟩) (.inr (by rintro _ _ ⟨b45, rfl, rfl⟩ w h; exact h.subD)) ?_
        rintro _ _ ⟨b45, rfl, rfl⟩
        refine dq1 14 rfl (OpL.callD rfl (h := ins_oz q c l i b45 _ ⟨⟨e.object, e.n, e.limit, [], [], []⟩, ⟨none, 0, none, 0, none, 0⟩⟩ hile hc hl)) (.inr (by rintro _ _ ⟨_, ⟨qn, cn, rfl, rfl, hcn⟩, rfl⟩ w h; exact h.subD)) ?_
        rintro _ _ ⟨_, ⟨qn, cn, rfl, rfl, hcn⟩, rfl⟩
        refine dq1 15 rfl (OpQ.loud (q_nilCheck rfl)) (.inl tK) ?_
        rintro _ _ ⟨rfl, rfl⟩
        refine dq1 16 rfl (OpQ.loud (q_field fo_47_1 rfl)) (.inl tK) ?_
        rintro _ _ ⟨rfl, rfl⟩
        refine dq1N 17 rfl (l_store1 ck_45 rfl rfl rfl tP tA) (.inl tK) ?_
        rintro _ _ ⟨rfl, rfl⟩
        refine D.done tK <| K.seq <| K.region <| KO.q rfl (q_assign rfl) <| KO.done ?_
        refine kr1 Tryz.func136 Tryz.results136 rfl (fun w hs => ?_)
        rw [hr0]
        have hmem : ∀ (i : Nat) (o p : Oz), p ∈ insAt l i o → p ∈ l ∨ p = o := fun i o p hp => by
          unfold insAt at hp
          rcases List.mem_append.1 hp with hp | hp
          · rcases List.mem_append.1 hp with hp | hp
            · exact .inl (List.mem_of_mem_take hp)
            · exact .inr (List.mem_singleton.1 hp)
          · exact .inl (List.mem_of_mem_drop hp)
        exact ⟨_, StO b ⟨nx, qn, cn, insAt l _ ⟨⟨e.object, e.n, e.limit, [], [], []⟩, ⟨none, 0, none, 0, none, 0⟩⟩⟩, rfl, ⟨⟨nx, qn, cn, insAt l _ ⟨⟨e.object, e.n, e.limit, [], [], []⟩, ⟨none, 0, none, 0, none, 0⟩⟩⟩, rfl, (by
            unfold Sz.st insAt
            simp only [List.map_append, List.map_take, List.map_drop, List.map_cons, List.map_nil]), rfl, hcn, fun p hp => (hmem _ _ p hp).elim (hcap p) (fun h => by rw [h]; exact ⟨Nat.le_refl _, Nat.le_refl _, Nat.le_refl _⟩)⟩,
          (nestF_put (l := l) ⟨⟨e.object, e.n, e.limit, [], [], []⟩, ⟨none, 0, none, 0, none, 0⟩⟩ (hmem _ _) tM tM tM tM (rowF_nilA (k := Kd.rw) (rowF_nilA (k := Kd.msg) (hs.fit (M := [pv b 47 (Sz.cells ⟨nx, qn, cn, insAt l _ ⟨⟨e.object, e.n, e.limit, [], [], []⟩, ⟨none, 0, none, 0, none, 0⟩⟩⟩), RowO Kd.oz 62 qn cn (insAt l _ ⟨⟨e.object, e.n, e.limit, [], [], []⟩, ⟨none, 0, none, 0, none, 0⟩⟩), NestF l]) tG (by repeat (first | exact Drop.refl | apply Drop.skip)))))).fitD⟩
end Go.Proofs.YtkbhldicnamcdaaGreat.L
namespace Go.Proofs.YtkbhldicnamcdaaGreat.L
open Go Go.Proofs
attribute [local irreducible] pv fv pt fz RowF RowO rowP old pure_ elA Rd.int Rd.text Rd.flag Rd.msg Rd.rint Rd.rtext Rd.rflag Rd.rmsg
set_option maxRecDepth 100000
set_option linter.unusedSimpArgs false
set_option linter.unusedVariables false
theorem row_put {q : Option Addr} {c : Nat} {l : List Oz} {i : Nat} {o' : Oz} {ρ : World} {L : List HP} {w : World} (h : St ρ ([RowO Kd.oz 62 q c (l.set i o'), NestF l] ++ ObL o' ++ L) w) : St ρ ([RowO Kd.oz 62 q c (l.set i o'), NestF (l.set i o')] ++ L) w :=
  (nestF_put (l := l) (l' := l.set i o') o' (fun p hp => List.mem_or_eq_of_mem_set hp) tM tM tM tM h).fitD
theorem set_le {l : List Oz} {i : Nat} {o' : Oz} {P : Oz → Prop} (h : ∀ o ∈ l, P o) (h' : P o') : ∀ o ∈ l.set i o', P o := fun o ho => (List.mem_or_eq_of_mem_set ho).elim (h o) (fun e => by rw [e]; exact h')
set_option maxHeartbeats 1600000 in
theorem st_add (b : Nat) (s : Sz) (i : Nat) (o : Oz) (m : Msg) (ho : s.l[i]? = some o) (hl : s.l.length ≤ 1000000000) (hle : ∀ o ∈ s.l, o.le 1000000000) : Fn Tryz.prog 192 [.pointer (some ⟨b, 0, none⟩), .pointer (some (elA s.q i 6 0)), .agg m.cells.toArray].toArray (StO b s)
    (fun r post => ∃ z, r = .int .i64 (if s.next ≤ m.id ∨ m.claimed = true then 1 else if hasM s.st m.id = true then 4 else 0) ∧ post = StO b ⟨s.next, s.q, s.c, s.l.set i ⟨(if s.next ≤ m.id ∨ m.claimed = true then o.x else if hasM s.st m.id = true then o.x else { o.x with msgs := addM o.x.msgs m }), z⟩⟩ ∧ (o.cap → Oz.cap ⟨(if s.next ≤ m.id ∨ m.claimed = true then o.x else if hasM s.st m.id = true then o.x else { o.x with msgs := addM o.x.msgs m }), z⟩)) := by
  obtain ⟨nx, q, c, l⟩ := s
  have ho : l[i]? = some o := ho
  have hol := hle o (List.mem_of_getElem? ho)
  obtain ⟨hl1, hl2, hl3⟩ := hol
  have hself : l.set i o = l := by
    obtain ⟨hi, rfl⟩ := List.getElem?_eq_some_iff.1 ho
    exact List.set_getElem_self hi
  refine Fn.enter (N := 35) Tryz.func192 rfl Tryz.ntmps192 tK rfl (fun ρ L => ?_)
  refine K.seq <| K.region <| KO.loud rfl (l_box rfl rfl) ?_
  rintro _ _ ⟨b5, rfl, rfl⟩
  refine KO.q rfl (q_assign rfl) <| KO.done <| K.seq <| K.block <| K.seq <| K.drawS [pv b 47 (Sz.cells ⟨nx, q, c, l⟩), pv b5 56 m.cells] (fun _ h => h.subD) mixed <| dq 0 rfl (q_field fo_56_0 rfl) <| dq 1 rfl (q_load1D ck_3 rfl) <| dq 2 rfl (q_move rfl) <| dq 3 rfl (q_nilCheck rfl) <| dq 4 rfl (q_field fo_47_0 rfl) <| dq 5 rfl (q_load1D ck_3 rfl) ?_
  refine dq 6 rfl (q_ge rfl rfl) <| dq 7 rfl (q_move rfl) ?_
  refine D.dsplit 15 rfl (fun g15 => ?_) (fun g15 => ?_)
  · have hr : (nx ≤ m.id ∨ m.claimed = true) := .inl g15
    refine D.skip 8 rfl tK tK (fun _ h => h.subD) <| D.skip 9 rfl tK tK (fun _ h => h.subD) <| dq 10 rfl (q_pickT rfl rfl) <| dq 11 rfl (q_assign rfl) <| D.done tK <| K.yes rfl <| K.seq <| K.region <| KO.q rfl (q_assign rfl) <| KO.done ?_
    refine kr1 Tryz.func192 Tryz.results192 rfl (fun w hs => ?_)
    simp only [if_pos hr]
    exact ⟨_, StO b ⟨nx, q, c, l⟩, rfl, ⟨o.z, rfl, by rw [show (⟨o.x, o.z⟩ : Oz) = o from rfl, hself], fun h => h⟩, hs.fitD⟩
  · refine dq 8 rfl (q_field fo_56_3 rfl) <| dq 9 rfl (q_load1D ck_4 rfl) <| dq 10 rfl (q_pickF rfl rfl) <| dq 11 rfl (q_assign rfl) <| D.done tK ?_
    first | refine K.dcond (s := 7) rfl (fun g7 => ?_) (fun g7 => ?_) | refine K.bcond (s := 7) rfl (fun g7 => ?_) (fun g7 => ?_)
    · have hr : (nx ≤ m.id ∨ m.claimed = true) := .inr (by simpa using g7)
      refine K.seq <| K.region <| KO.q rfl (q_assign rfl) <| KO.done ?_
      refine kr1 Tryz.func192 Tryz.results192 rfl (fun w hs => ?_)
      simp only [if_pos hr]
      exact ⟨_, StO b ⟨nx, q, c, l⟩, rfl, ⟨o.z, rfl, by rw [show (⟨o.x, o.z⟩ : Oz) = o from rfl, hself], fun h => h⟩, hs.fitD⟩
    · have hr : ¬ (nx ≤ m.id ∨ m.claimed = true) := fun h => h.elim (fun h => g15 h) (fun h => by simp [h] at g7)
      refine K.seq <| K.drawS [pv b 47 (Sz.cells ⟨nx, q, c, l⟩), pv b5 56 m.cells] (fun _ h => h.subD) mixed <| dq 0 rfl (q_move rfl) <| dq 1 rfl (q_nilCheck rfl) <| dq 2 rfl (q_as_sz (q_loadN ck_47 rfl rfl tC) (by rfl)) <| dq 3 rfl (q_field fo_56_0 rfl) <| dq 4 rfl (q_load1D ck_3 rfl) <| dq1 5 rfl (OpL.callD rfl (h := st_has (RowO Kd.oz 62 q c l) ⟨nx, q, c, l⟩ m.id isO hl hle)) (.inr (by rintro _ _ ⟨_, ⟨rfl, rfl⟩, rfl⟩ w h; exact h.subD)) ?_
      rintro _ _ ⟨_, ⟨rfl, rfl⟩, rfl⟩
      refine dq 6 rfl (q_assign rfl) <| D.done tK ?_
      refine K.bcond (s := 19) rfl (fun g19 => ?_) (fun g19 => ?_)
      · have hh : hasM (Sz.st ⟨nx, q, c, l⟩) m.id = true := by simpa using g19
        refine K.seq <| K.region <| KO.q rfl (q_assign rfl) <| KO.done ?_
        refine kr1 Tryz.func192 Tryz.results192 rfl (fun w hs => ?_)
        simp only [if_neg hr, if_pos hh]
        exact ⟨_, StO b ⟨nx, q, c, l⟩, rfl, ⟨o.z, rfl, by rw [show (⟨o.x, o.z⟩ : Oz) = o from rfl, hself], fun h => h⟩, hs.fitD⟩
      · have hh : ¬ hasM (Sz.st ⟨nx, q, c, l⟩) m.id = true := by simpa using g19
        refine K.st (fun w h => nestF_at (l := l) tM (List.mem_of_getElem? ho) h) ?_
        refine K.skip <| K.inBlock <| K.seq <| K.drawS [pv b5 56 m.cells, RowO Kd.oz 62 q c l] (fun _ h => h.subD) mixed <| dq 0 rfl (q_move rfl) <| dq 1 rfl (q_move rfl) <| dq 2 rfl (q_nilCheck rfl) <| dq 3 rfl (q_fieldE fo_62_4 rfl) <| dq 4 rfl (q_ldE (xs := l) ck_60 rfl isO tM ho rfl) <| dq 5 rfl (q_loadN ck_56 rfl rfl tC) <| dq1 6 rfl (OpL.callD rfl (h := qu_Add o.z.q2 o.z.c2 o.x.msgs m hl2)) (.inr (by rintro _ _ ⟨_, ⟨qn, cn, rfl, rfl, hcn⟩, rfl⟩ w h; exact h.subD)) ?_
        rintro _ _ ⟨_, ⟨qn, cn, rfl, rfl, hcn⟩, rfl⟩
        refine dq1 7 rfl (OpQ.loud (q_nilCheck rfl)) (.inl tK) ?_
        rintro _ _ ⟨rfl, rfl⟩
        refine dq1 8 rfl (OpQ.loud (q_fieldE fo_62_4 rfl)) (.inl tK) ?_
        rintro _ _ ⟨rfl, rfl⟩
        refine dq1N 9 rfl (l_storeE (el := o) ⟨{ o.x with msgs := addM o.x.msgs m }, { o.z with q2 := qn, c2 := cn }⟩ ck_60 rfl rfl rfl tP ho tD rfl) (.inl tK) ?_
        rintro _ _ ⟨rfl, rfl⟩
        refine D.done tK <| K.seq <| K.region <| KO.q rfl (q_assign rfl) <| KO.done ?_
        refine kr1 Tryz.func192 Tryz.results192 rfl (fun w hs => ?_)
        simp only [if_neg hr, if_neg hh]
        exact ⟨_, StO b ⟨nx, q, c, l.set i ⟨{ o.x with msgs := addM o.x.msgs m }, { o.z with q2 := qn, c2 := cn }⟩⟩, rfl, ⟨{ o.z with q2 := qn, c2 := cn }, rfl, rfl, fun h => ⟨h.1, hcn, h.2.2⟩⟩, (row_put (o' := ⟨{ o.x with msgs := addM o.x.msgs m }, { o.z with q2 := qn, c2 := cn }⟩) ((rowO_freeze (e := 56) (cap := cn) (k := Kd.msg) (p := qn) (xs := addM o.x.msgs m) (hs.pick tP)).fit (M := [RowO Kd.oz 62 q c (l.set i ⟨{ o.x with msgs := addM o.x.msgs m }, { o.z with q2 := qn, c2 := cn }⟩), NestF l] ++ ObL ⟨{ o.x with msgs := addM o.x.msgs m }, { o.z with q2 := qn, c2 := cn }⟩ ++ [pv b 47 (Sz.cells ⟨nx, q, c, l⟩)]) tG (by repeat (first | exact Drop.refl | apply Drop.skip)))).fit (M := StO b ⟨nx, q, c, l.set i ⟨{ o.x with msgs := addM o.x.msgs m }, { o.z with q2 := qn, c2 := cn }⟩⟩) (by dsimp only [StO, Sz.cells]; rw [List.length_set]; exact tG) (by repeat (first | exact Drop.refl | apply Drop.skip))⟩
set_option maxHeartbeats 1600000 in
theorem st_inTable (q : Option Addr) (c : Nat) (l : List Oz) (i : Nat) (o : Oz) (e : Eff) (ho : l[i]? = some o) (hol : o.le 1000000000) (hk : e.kind = 2 ∨ e.kind = 3) : Fn Tryz.prog 139 [.pointer (some (elA q i 6 0)), .agg e.cells.toArray].toArray [RowO Kd.oz 62 q c l, NestF l]
    (fun r post => ∃ z, r = .int .i64 (tableO o.x e).2 ∧ post = [RowO Kd.oz 62 q c (l.set i ⟨(tableO o.x e).1, z⟩), NestF (l.set i ⟨(tableO o.x e).1, z⟩)] ∧ (o.cap → Oz.cap ⟨(tableO o.x e).1, z⟩)) := by
  obtain ⟨hl1, hl2, hl3⟩ := hol
  refine Fn.enter (N := 37) Tryz.func139 rfl Tryz.ntmps139 tK rfl (fun ρ L => ?_)
  refine K.seq <| K.region <| KO.loud rfl (l_box rfl rfl) ?_
  rintro _ _ ⟨b3, rfl, rfl⟩
  refine KO.q rfl (q_assign rfl) <| KO.done <| K.seq <| K.seq ?_
  refine K.st (fun w h => nestF_at (l := l) tM (List.mem_of_getElem? ho) h) ?_
  refine K.region <| KO.q rfl (q_field fo_58_0 rfl) <| KO.q rfl (q_load1D ck_3 rfl) <| KO.q rfl (q_eq rfl rfl) <| KO.done ?_
  refine K.dcond (s := 8) rfl (fun g8 => ?_) (fun g8 => ?_)
  · have hr : tableO o.x e = ({ o.x with rows := putR o.x.rows ⟨e.key, e.value⟩ }, 0) := by unfold tableO; rw [if_pos g8]
    refine K.seq <| K.drawS [pv b3 58 e.cells, RowO Kd.oz 62 q c l] (fun _ h => h.subD) mixed <| dq 0 rfl (q_move rfl) <| dq 1 rfl (q_move rfl) <| dq 2 rfl (q_nilCheck rfl) <| dq 3 rfl (q_fieldE fo_62_3 rfl) <| dq 4 rfl (q_ldE (xs := l) ck_59 rfl isO tM ho rfl) <| dq 5 rfl (q_field fo_58_2 rfl) <| dq 6 rfl (q_load1D ck_9 rfl) <| dq 7 rfl (q_field fo_58_3 rfl) ?_
    refine dq 8 rfl (q_load1D ck_9 rfl) <| dq 9 rfl (q_as_rw (q_build st_136 rfl tF) (by rfl)) <| dq1 10 rfl (OpL.callD rfl (h := rw_Put o.z.q1 o.z.c1 o.x.rows ⟨e.key, e.value⟩ hl1)) (.inr (by rintro _ _ ⟨_, ⟨qn, cn, rfl, rfl, hcn⟩, rfl⟩ w h; exact h.subD)) ?_
    rintro _ _ ⟨_, ⟨qn, cn, rfl, rfl, hcn⟩, rfl⟩
    refine dq1 11 rfl (OpQ.loud (q_nilCheck rfl)) (.inl tK) ?_
    rintro _ _ ⟨rfl, rfl⟩
    refine dq1 12 rfl (OpQ.loud (q_fieldE fo_62_3 rfl)) (.inl tK) ?_
    rintro _ _ ⟨rfl, rfl⟩
    refine dq1N 13 rfl (l_storeE (el := o) ⟨{ o.x with rows := putR o.x.rows ⟨e.key, e.value⟩ }, { o.z with q1 := qn, c1 := cn }⟩ ck_59 rfl rfl rfl tP ho tD rfl) (.inl tK) ?_
    rintro _ _ ⟨rfl, rfl⟩
    refine D.done tK <| K.seq <| K.region <| KO.q rfl (q_assign rfl) <| KO.done ?_
    refine kr1 Tryz.func139 Tryz.results139 rfl (fun w hs => ?_)
    rw [hr]
    exact ⟨_, [RowO Kd.oz 62 q c (l.set i ⟨{ o.x with rows := putR o.x.rows ⟨e.key, e.value⟩ }, { o.z with q1 := qn, c1 := cn }⟩), NestF (l.set i ⟨{ o.x with rows := putR o.x.rows ⟨e.key, e.value⟩ }, { o.z with q1 := qn, c1 := cn }⟩)], rfl, ⟨{ o.z with q1 := qn, c1 := cn }, rfl, rfl, fun h => ⟨hcn, h.2⟩⟩, row_put (o' := ⟨{ o.x with rows := putR o.x.rows ⟨e.key, e.value⟩ }, { o.z with q1 := qn, c1 := cn }⟩) ((rowO_freeze (e := 136) (cap := cn) (k := Kd.rw) (p := qn) (xs := putR o.x.rows ⟨e.key, e.value⟩) (hs.pick tP)).fit (M := [RowO Kd.oz 62 q c (l.set i ⟨{ o.x with rows := putR o.x.rows ⟨e.key, e.value⟩ }, { o.z with q1 := qn, c1 := cn }⟩), NestF l] ++ ObL ⟨{ o.x with rows := putR o.x.rows ⟨e.key, e.value⟩ }, { o.z with q1 := qn, c1 := cn }⟩) tG (by repeat (first | exact Drop.refl | apply Drop.skip)))⟩
  · have hr : tableO o.x e = ({ o.x with rows := (cutR o.x.rows e.key).1 }, if (cutR o.x.rows e.key).2 = true then 0 else 7) := by unfold tableO; rw [if_neg g8]
    refine K.skip <| K.seq <| K.region <| KO.q rfl (q_assign rfl) <| KO.done <| K.seq <| K.drawS [pv b3 58 e.cells, RowO Kd.oz 62 q c l] (fun _ h => h.subD) mixed <| dq 0 rfl (q_move rfl) <| dq 1 rfl (q_move rfl) <| dq 2 rfl (q_nilCheck rfl) <| dq 3 rfl (q_fieldE fo_62_3 rfl) ?_
    refine dq 4 rfl (q_ldE (xs := l) ck_59 rfl isO tM ho rfl) <| dq 5 rfl (q_field fo_58_2 rfl) <| dq 6 rfl (q_load1D ck_9 rfl) <| dq1 7 rfl (OpL.callD rfl (h := rw_Cut o.z.q1 o.z.c1 o.x.rows e.key hl1)) (.inr (by rintro _ _ ⟨_, ⟨qn, cn, rfl, rfl, hcn⟩, rfl⟩ w h; exact h.subD)) ?_
    rintro _ _ ⟨_, ⟨qn, cn, rfl, rfl, hcn⟩, rfl⟩
    refine dq 8 rfl (q_move rfl) <| dq 9 rfl (q_extract rfl rfl) ?_
    refine D.all (rs := [10, 11]) tK rfl (DAll.cons rfl tK (OpQ.loud (q_extract rfl rfl)) (.inr (by rintro _ _ ⟨rfl, rfl⟩ w h; exact h.subD)) rfl ?_ (DAll.cons rfl tK (OpQ.loud (q_nilCheck rfl)) (.inl tK) rfl ?_ DAll.nil))
    · rintro _ _ ⟨rfl, rfl⟩
      refine dq1 11 rfl (OpQ.loud (q_nilCheck rfl)) (.inl tK) ?_
      rintro _ _ ⟨rfl, rfl⟩
      refine dq 12 rfl (q_fieldE fo_62_3 rfl) <| dq1N 13 rfl (l_storeE (el := o) ⟨{ o.x with rows := (cutR o.x.rows e.key).1 }, { o.z with q1 := qn, c1 := cn }⟩ ck_59 rfl rfl rfl tP ho tD rfl) (.inl tK) ?_
      rintro _ _ ⟨rfl, rfl⟩
      refine dq1 14 rfl (OpQ.loud (q_assign rfl)) (.inl tK) ?_
      rintro _ _ ⟨rfl, rfl⟩
      refine D.done tK <| K.seq <| K.region <| KO.q rfl (q_move rfl) <| KO.loud rfl (OpL.callD rfl (h := st_told _ _)) ?_
      rintro _ _ ⟨_, ⟨rfl, rfl⟩, rfl⟩
      refine KO.q rfl (q_assign rfl) <| KO.done ?_
      refine kr1 Tryz.func139 Tryz.results139 rfl (fun w hs => ?_)
      rw [hr]
      exact ⟨_, [RowO Kd.oz 62 q c (l.set i ⟨{ o.x with rows := (cutR o.x.rows e.key).1 }, { o.z with q1 := qn, c1 := cn }⟩), NestF (l.set i ⟨{ o.x with rows := (cutR o.x.rows e.key).1 }, { o.z with q1 := qn, c1 := cn }⟩)], rfl, ⟨{ o.z with q1 := qn, c1 := cn }, rfl, rfl, fun h => ⟨hcn, h.2⟩⟩, row_put (o' := ⟨{ o.x with rows := (cutR o.x.rows e.key).1 }, { o.z with q1 := qn, c1 := cn }⟩) ((rowO_freeze (e := 136) (cap := cn) (k := Kd.rw) (p := qn) (xs := (cutR o.x.rows e.key).1) (hs.pick tP)).fit (M := [RowO Kd.oz 62 q c (l.set i ⟨{ o.x with rows := (cutR o.x.rows e.key).1 }, { o.z with q1 := qn, c1 := cn }⟩), NestF l] ++ ObL ⟨{ o.x with rows := (cutR o.x.rows e.key).1 }, { o.z with q1 := qn, c1 := cn }⟩) tG (by repeat (first | exact Drop.refl | apply Drop.skip)))⟩
    · rintro _ _ ⟨rfl, rfl⟩
      refine dq 12 rfl (q_fieldE fo_62_3 rfl) ?_
      refine D.all (rs := [10, 13]) tK rfl (DAll.cons rfl tK (OpQ.loud (q_extract rfl rfl)) (.inr (by rintro _ _ ⟨rfl, rfl⟩ w h; exact h.subD)) rfl ?_ (DAll.consN rfl tK (l_storeE (el := o) ⟨{ o.x with rows := (cutR o.x.rows e.key).1 }, { o.z with q1 := qn, c1 := cn }⟩ ck_59 rfl rfl rfl tP ho tD rfl) (.inl tK) rfl ?_ DAll.nil))
      · rintro _ _ ⟨rfl, rfl⟩
        refine dq1N 13 rfl (l_storeE (el := o) ⟨{ o.x with rows := (cutR o.x.rows e.key).1 }, { o.z with q1 := qn, c1 := cn }⟩ ck_59 rfl rfl rfl tP ho tD rfl) (.inl tK) ?_
        rintro _ _ ⟨rfl, rfl⟩
        refine dq1 14 rfl (OpQ.loud (q_assign rfl)) (.inl tK) ?_
        rintro _ _ ⟨rfl, rfl⟩
        refine D.done tK <| K.seq <| K.region <| KO.q rfl (q_move rfl) <| KO.loud rfl (OpL.callD rfl (h := st_told _ _)) ?_
        rintro _ _ ⟨_, ⟨rfl, rfl⟩, rfl⟩
        refine KO.q rfl (q_assign rfl) <| KO.done ?_
        refine kr1 Tryz.func139 Tryz.results139 rfl (fun w hs => ?_)
        rw [hr]
        exact ⟨_, [RowO Kd.oz 62 q c (l.set i ⟨{ o.x with rows := (cutR o.x.rows e.key).1 }, { o.z with q1 := qn, c1 := cn }⟩), NestF (l.set i ⟨{ o.x with rows := (cutR o.x.rows e.key).1 }, { o.z with q1 := qn, c1 := cn }⟩)], rfl, ⟨{ o.z with q1 := qn, c1 := cn }, rfl, rfl, fun h => ⟨hcn, h.2⟩⟩, row_put (o' := ⟨{ o.x with rows := (cutR o.x.rows e.key).1 }, { o.z with q1 := qn, c1 := cn }⟩) ((rowO_freeze (e := 136) (cap := cn) (k := Kd.rw) (p := qn) (xs := (cutR o.x.rows e.key).1) (hs.pick tP)).fit (M := [RowO Kd.oz 62 q c (l.set i ⟨{ o.x with rows := (cutR o.x.rows e.key).1 }, { o.z with q1 := qn, c1 := cn }⟩), NestF l] ++ ObL ⟨{ o.x with rows := (cutR o.x.rows e.key).1 }, { o.z with q1 := qn, c1 := cn }⟩) tG (by repeat (first | exact Drop.refl | apply Drop.skip)))⟩
      · rintro _ _ ⟨rfl, rfl⟩
        refine dq1 10 rfl (OpQ.loud (q_extract rfl rfl)) (.inl tK) ?_
        rintro _ _ ⟨rfl, rfl⟩
        refine dq1 14 rfl (OpQ.loud (q_assign rfl)) (.inl tK) ?_
        rintro _ _ ⟨rfl, rfl⟩
        refine D.done tK <| K.seq <| K.region <| KO.q rfl (q_move rfl) <| KO.loud rfl (OpL.callD rfl (h := st_told _ _)) ?_
        rintro _ _ ⟨_, ⟨rfl, rfl⟩, rfl⟩
        refine KO.q rfl (q_assign rfl) <| KO.done ?_
        refine kr1 Tryz.func139 Tryz.results139 rfl (fun w hs => ?_)
        rw [hr]
        exact ⟨_, [RowO Kd.oz 62 q c (l.set i ⟨{ o.x with rows := (cutR o.x.rows e.key).1 }, { o.z with q1 := qn, c1 := cn }⟩), NestF (l.set i ⟨{ o.x with rows := (cutR o.x.rows e.key).1 }, { o.z with q1 := qn, c1 := cn }⟩)], rfl, ⟨{ o.z with q1 := qn, c1 := cn }, rfl, rfl, fun h => ⟨hcn, h.2⟩⟩, row_put (o' := ⟨{ o.x with rows := (cutR o.x.rows e.key).1 }, { o.z with q1 := qn, c1 := cn }⟩) ((rowO_freeze (e := 136) (cap := cn) (k := Kd.rw) (p := qn) (xs := (cutR o.x.rows e.key).1) (hs.pick tP)).fit (M := [RowO Kd.oz 62 q c (l.set i ⟨{ o.x with rows := (cutR o.x.rows e.key).1 }, { o.z with q1 := qn, c1 := cn }⟩), NestF l] ++ ObL ⟨{ o.x with rows := (cutR o.x.rows e.key).1 }, { o.z with q1 := qn, c1 := cn }⟩) tG (by repeat (first | exact Drop.refl | apply Drop.skip)))⟩
end Go.Proofs.YtkbhldicnamcdaaGreat.L
